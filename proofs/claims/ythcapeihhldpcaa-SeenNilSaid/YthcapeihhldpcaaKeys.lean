/- Keys: maps whose keys are arrays of bytes, or small structs. No condition. -/
import Derived.Test.YthcapeihhldpcaaEq
import Derived.DeepKeys3
namespace Go.Proofs.Ythcapeihhldpcaa
set_option linter.unusedSimpArgs false
set_option linter.unusedVariables false
open Go.RowKit
set_option maxRecDepth 100000
set_option maxHeartbeats 2000000

/-- what an entry is, by the keys' own equality -/
abbrev mlk {κ ν : Type} [DecidableEq κ] (l : List (κ × ν)) (k : κ) : Option ν := l.lookup k
theorem lookup_none {κ ν : Type} [DecidableEq κ] : ∀ {l : List (κ × ν)} {x : κ}, x ∉ l.map (·.1) → l.lookup x = none
  | [], _, _ => rfl
  | p :: l, x, h => by
    have h1 : ¬ x = p.1 := fun e => h (by simp [e])
    have h2 := lookup_none (l := l) (x := x) fun hh => h (List.mem_cons_of_mem _ hh)
    have hb : (x == p.1) = false := by simpa using h1
    rw [List.lookup_cons, hb]
    exact h2
theorem lookup_mapput {κ ν : Type} [DecidableEq κ] (k : κ) (v : ν) (x : κ) : ∀ l : List (κ × ν), (l.map fun p => if p.1 = k then (k, v) else p).lookup x = if x = k then (if k ∈ l.map (·.1) then some v else none) else l.lookup x
  | [] => by simp
  | p :: l => by
    have ih := lookup_mapput k v x l
    rw [List.map_cons, List.lookup_cons, List.lookup_cons]
    by_cases h1 : p.1 = k
    · rw [if_pos h1]
      by_cases h2 : x = k
      · simp [h1, h2]
      · have h3 : ¬ x = p.1 := fun e => h2 (e.trans h1)
        have hb : (x == p.1) = false := by simpa using h3
        have hb2 : (x == k) = false := by simpa using h2
        rw [hb, hb2, ih, if_neg h2, if_neg h2]
    · rw [if_neg h1, ih]
      by_cases h2 : x = k
      · subst h2
        have h3 : ¬ x = p.1 := fun e => h1 e.symm
        have hb : (x == p.1) = false := by simpa using h3
        rw [hb, if_pos rfl, if_pos rfl]
        have hi : x ∈ (p :: l).map (·.1) ↔ x ∈ l.map (·.1) := by simp [h3]
        by_cases hm : x ∈ l.map (·.1)
        · rw [if_pos (hi.2 hm)]
          simp only
          rw [if_pos hm]
        · rw [if_neg fun hh => hm (hi.1 hh)]
          simp only
          rw [if_neg hm]
      · rw [if_neg h2, if_neg h2]
theorem lookup_mput {κ ν : Type} [DecidableEq κ] (l : List (κ × ν)) (k : κ) (v : ν) (x : κ) : (mput l k v).lookup x = if x = k then some v else l.lookup x := by
  unfold mput
  split
  · rename_i h
    rw [lookup_mapput, if_pos h]
  · rename_i h
    rw [List.lookup_append]
    by_cases h2 : x = k
    · subst h2
      rw [lookup_none h]
      simp
    · have : ([(k, v)] : List (κ × ν)).lookup x = none := by simp [h2]
      rw [this]
      simp [h2]
theorem mapM_has {α β : Type} {f : α → Option β} : ∀ (l : List α), (∀ x ∈ l, ∃ y, f x = some y) → ∃ r, l.mapM f = some r
  | [], _ => ⟨[], rfl⟩
  | x :: l, h => by
    obtain ⟨y, hy⟩ := h x (by simp)
    obtain ⟨r, hr⟩ := mapM_has l fun z hz => h z (by simp [hz])
    exact ⟨y :: r, by simp [List.mapM_cons, hy, hr]⟩
theorem keyLits_u8s {P : Program} {t e : TypeId} {n d : Nat} (ht : P.underlying t = some (.array n e)) (he : P.underlying e = some (.int .u8)) (hc : P.cellsOf e = 1) (hn : P.cellsOf t = n) (l : List UInt8) (hl : l.length = n) : ∃ L, P.keyLits (d + 2) t (l.map u8) = some L := by
  have h1 : ∃ r, ((List.range n).mapM fun i => P.keyLits (d + 1) e (((l.map u8).drop (i * P.cellsOf e)).take (P.cellsOf e))) = some r := mapM_has _ fun i hi => by
    have hi' : i < l.length := by rw [hl]; exact List.mem_range.1 hi
    have h2 : ((l.map u8).drop (i * P.cellsOf e)).take (P.cellsOf e) = [u8 l[i]] := by
      rw [hc, Nat.mul_one, List.drop_eq_getElem_cons (by simpa using hi')]
      simp
    have hw : (Lit.int .u8 (l[i].toNat : Int)).wf = true := by
      have := l[i].toNat_lt
      simp [Lit.wf, IntKind.min, IntKind.max, IntKind.signed, IntKind.bits]
      omega
    rw [h2]
    exact ⟨[.int .u8 l[i].toNat], by simp [Program.keyLits, he, hw]⟩
  obtain ⟨r, hr⟩ := h1
  refine ⟨r.flatten, ?_⟩
  have hlen : (l.map u8).length = P.cellsOf t := by simp [hl, hn]
  unfold Program.keyLits
  rw [ht]
  cases hcs : l.map u8 with
  | nil => rw [hcs] at hr hlen; simp only [hlen, if_true, hr, Option.map_some]
  | cons c cs => rw [hcs] at hr hlen; simp only [hlen, if_true, hr, Option.map_some]
theorem id_law : Maps.Keyed Try.prog 55 := Maps.Keyed.of_law (deep_law (m := 3) (by omega) (by kernel_rfl) (by kernel_rfl) (by kernel_rfl))
theorem Id.inj {x y : Id} (h : x.v = y.v) : x = y := by
  have h1 : x.c.toArray = y.c.toArray := by injection h
  rw [← Id.cells, ← Id.cells] at h1
  have h2 : x.toList.map Extern.Stop.cell = y.toList.map Extern.Stop.cell := by simpa using h1
  have h3 : x.toList = y.toList := by
    have hinj : ∀ a b : UInt8, Extern.Stop.cell a = Extern.Stop.cell b → a = b := fun a b hh => by
      simp [Extern.Stop.cell] at hh
      exact UInt8.toNat_inj.1 (by omega)
    exact List.map_inj_right hinj |>.1 h2
  exact Vector.toList_inj.1 h3
theorem idK : KEnc Try.prog 55 Id.v where
  law := id_law
  reads x := by
    obtain ⟨L, hL⟩ := keyLits_u8s (P := Try.prog) (t := 55) (e := 5) (n := 32) (d := Try.prog.types.size - 1) (by kernel_rfl) Try.underlying5 (by kernel_rfl) (by kernel_rfl) x.toList (by simp)
    have h1 : x.v.cells.toList = x.toList.map u8 := by
      have := congrArg Array.toList (Id.cells x)
      rw [List.toList_toArray, List.toList_toArray] at this
      exact this.symm
    have h2 : Try.prog.types.size - 1 + 2 = Try.prog.types.size + 1 := by kernel_rfl
    rw [h2] at hL
    refine ⟨.string (keyBytes L), ?_⟩
    have ht : Try.prog.underlying 55 = some (.array 32 5) := by kernel_rfl
    have hk : (Try.prog.keyType 55 && x.v.formed Try.prog 55) = true := by kernel_rfl
    unfold keyOf
    rw [ht]
    simp only
    rw [if_pos hk, h1, hL]
    rfl
  inj h := Id.inj h
theorem key_law : Maps.Keyed Try.prog 93 := Maps.Keyed.of_law (deep_law (m := 3) (by omega) (by kernel_rfl) (by kernel_rfl) (by kernel_rfl))
end Go.Proofs.Ythcapeihhldpcaa
