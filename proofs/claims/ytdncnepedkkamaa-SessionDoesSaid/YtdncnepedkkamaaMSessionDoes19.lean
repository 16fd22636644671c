/- MSessionDoes19: Range, Eq, Keys. -/
import Derived.Test.YtdncnepedkkamaaMSessionDoessSlice
import Derived.Maps.RangeRun
import Derived.Test.YtdncnepedkkamaaMSessionDoes6
import Derived.DeepKeys3
/- Range: ranges over maps, in whatever order they come. No condition. -/
namespace Go.Proofs.Ytdncnepedkkamaa
set_option linter.unusedSimpArgs false
set_option linter.unusedVariables false
open Go.RowKit
open Go.ChangeMaps (setBlock)
/-- the iterator of a map, behind so many steps (their entries' places) -/
def seenOf (es : Array MapEntry) (done : List Nat) : Array Nat := (done.map fun i => ((es[i]?).map (·.born)).getD 0).toArray
def itR (b m : Nat) (es : Array MapEntry) (clock : Nat) (done : List Nat) : Res where
  dom x := x = b
  ok w := w.heap[b]? = some (.mapIter (some m) clock (seenOf es done) clock)
  lt w h x hx := by subst hx; exact heap_lt h
  loc w w' h hk := (h b rfl).trans hk
/-- a map, with its stamps -/
structure MapEs {κ ν : Type} (enc : κ → Value) (val : ν → Value) (w : World) (m : Nat) (es : Array MapEntry) (clock : Nat) (l : List (κ × ν)) : Prop where
  heap : w.heap[m]? = some (.map es clock)
  stamp : MapKept.Stamped es clock
  ents : es.toList.map (fun e => (e.key, e.val)) = l.map (fun p => (enc p.1, val p.2))
section
variable {κ ν : Type} {enc : κ → Value} {val : ν → Value} {P : Program} {S : Nat → Prop} {w0 w w' : World} {rs : List Res} {b m : Nat} {es : Array MapEntry} {clock : Nat} {l : List (κ × ν)} {done : List Nat} {ρ : Operand → Value} {o : Oper} {g : Value → World → Prop}
theorem MapAt.getEs (h : MapAt enc val w m l) : ∃ es clock, MapEs enc val w m es clock l := by
  obtain ⟨es, c, h1, h2, h3⟩ := h
  exact ⟨es, c, h1, h2, h3⟩
theorem MapEs.keep (h : MapEs enc val w m es clock l) (hc : Chg S w w') (hn : ¬ S m) : MapEs enc val w' m es clock l := ⟨hc.heap h.heap hn, h.stamp, h.ents⟩
theorem MapEs.keep0 (h : MapEs enc val w m es clock l) (hc : Chg N0 w w') : MapEs enc val w' m es clock l := h.keep hc fun hh => hh
theorem MapEs.len (h : MapEs enc val w m es clock l) : es.size = l.length := by
  have := congrArg List.length h.ents
  simpa using this
theorem MapEs.at (h : MapEs enc val w m es clock l) {i : Nat} {p : κ × ν} (hi : l[i]? = some p) : ∃ e, es[i]? = some e ∧ e.key = enc p.1 ∧ e.val = val p.2 := by
  have h1 : (es.toList.map fun e => (e.key, e.val))[i]? = some (enc p.1, val p.2) := by rw [h.ents, List.getElem?_map, hi]; rfl
  rw [List.getElem?_map, Array.getElem?_toList] at h1
  cases he : es[i]? with
  | none => rw [he] at h1; cases h1
  | some e =>
    rw [he] at h1
    simp only [Option.map_some, Option.some.injEq, Prod.mk.injEq] at h1
    exact ⟨e, rfl, h1.1, h1.2⟩
theorem gen_range {t k e : TypeId} {x : Operand} (hop : o.op = .range t x) (h : Hp S w0 w rs) (hx : ρ x = .map (some m)) (ht : P.underlying t = some (.map k e)) (hM : MapEs enc val w m es clock l) (hk : ∀ b w', Hp S w0 w' (itR b m es clock [] :: rs) → g (.pointer (some ⟨b, 0, none⟩)) w') : Gen P ρ o w g := by
  have hrun := run_range_map (P := P) w t k e m es clock ht hM.heap
  refine gen_v (v := .pointer (some ⟨w.heap.size, 0, none⟩)) (w' := w.alloc (.mapIter (some m) clock #[] clock)) (by simp only [execOp, hop, hx, Sem.run_bind, hrun, Result.andThen_ok, Sem.run_pure]) (hk _ _ (h.new ((Chg.refl _ _).alloc _) ?_ fun c hc => ?_))
  · show (w.alloc _).heap[w.heap.size]? = some (.mapIter (some m) clock (seenOf es []) clock)
    exact (MapKept.heap_alloc w _).1
  · have : c = w.heap.size := hc
    omega
theorem born_ne (hs : MapKept.Stamped es clock) {i j : Nat} {x y : MapEntry} (hi : es[i]? = some x) (hj : es[j]? = some y) (he : x.born = y.born) : i = j := by
  have hn := hs.2.1
  rw [← Array.getElem?_toList] at hi hj
  have h1 : (es.toList.map (·.born))[i]? = some x.born := by rw [List.getElem?_map, hi]; rfl
  have h2 : (es.toList.map (·.born))[j]? = some x.born := by rw [List.getElem?_map, hj, he]; rfl
  exact (List.getElem?_inj (by have := (List.getElem?_eq_some_iff.1 hi).1; simpa using this) hn).1 (h1.trans h2.symm)
theorem seen_iff (hs : MapKept.Stamped es clock) (hd : ∀ i ∈ done, i < es.size) {i : Nat} {e : MapEntry} (hi : es[i]? = some e) : (seenOf es done).contains e.born = decide (i ∈ done) := by
  rw [Bool.eq_iff_iff]
  simp only [seenOf, List.contains_toArray, List.contains_iff_mem, List.mem_map, decide_eq_true_eq]
  constructor
  · rintro ⟨j, hj, hb⟩
    have hjs := hd j hj
    have hje : es[j]? = some es[j] := Array.getElem?_eq_getElem hjs
    rw [hje] at hb
    have : j = i := born_ne hs hje hi (by simpa using hb)
    exact this ▸ hj
  · intro h
    exact ⟨i, h, by rw [hi]; rfl⟩
/-- a step: the end, or an entry that was not met -/
theorem gen_next {it : Operand} (hop : o.op = .next it false) (h : Hp S w0 w rs) (j : Nat) (hj : rs[j]? = some (itR b m es clock done)) (hx : ρ it = .pointer (some ⟨b, 0, none⟩)) (hM : MapEs enc val w m es clock l) (hd : ∀ i ∈ done, i < l.length)
    (hend : (∀ i, i < l.length → i ∈ done) → g (.tuple #[.bool false]) w) (hstep : ∀ i p w', l[i]? = some p → i ∉ done → Hp S w0 w' (rs.set j (itR b m es clock (done ++ [i]))) → g (.tuple #[.bool true, enc p.1, val p.2]) w') : Gen P ρ o w g := by
  have hr : w.heap[b]? = some (.mapIter (some m) clock (seenOf es done) clock) := h.get hj
  have hd' : ∀ i ∈ done, i < es.size := fun i hi => by rw [hM.len]; exact hd i hi
  rcases run_next_at (P := P) w o.type b m clock clock (seenOf es done) es clock hr hM.heap hM.stamp.1 (Nat.le_refl _) with ⟨h0, hrun⟩ | ⟨e, he, w1, hw1, hrun⟩
  · refine gen_v (by simp only [execOp, hop, hx, Sem.run_bind, hrun, Result.andThen_ok, Sem.run_pure]) (hend fun i hi => ?_)
    have hil : i < es.size := by rw [hM.len]; exact hi
    have hie : es[i]? = some es[i] := Array.getElem?_eq_getElem hil
    have h1 := seen_iff hM.stamp hd' hie
    false_or_by_contra
    rename_i hn
    rw [decide_eq_false hn] at h1
    have h2 : es[i] ∈ leftOf es (seenOf es done) := by
      unfold leftOf
      rw [Array.mem_filter]
      exact ⟨Array.getElem_mem _, by rw [h1]; rfl⟩
    have h3 : leftOf es (seenOf es done) = #[] := Array.eq_empty_of_size_eq_zero h0
    rw [h3] at h2
    simp at h2
  · have he' : e ∈ es ∧ (!(seenOf es done).contains e.born) = true := by
      have h1 : e ∈ leftOf es (seenOf es done) := Array.mem_toList_iff.1 he
      unfold leftOf at h1
      exact Array.mem_filter.1 h1
    obtain ⟨i, hi⟩ := Array.getElem?_of_mem he'.1
    have hil : i < l.length := by rw [← hM.len]; exact (Array.getElem?_eq_some_iff.1 hi).1
    have hp : l[i]? = some l[i] := List.getElem?_eq_getElem hil
    obtain ⟨e', he1, he2, he3⟩ := hM.at hp
    rw [hi] at he1
    cases he1
    have hni : i ∉ done := fun hh => by
      have h1 := seen_iff hM.stamp hd' hi
      rw [decide_eq_true hh] at h1
      rw [h1] at he'
      simp at he'
    have hseen : (seenOf es done).push e.born = seenOf es (done ++ [i]) := by
      simp [seenOf, hi]
    have hw1h : w1.heap = w.heap := by rcases hw1 with rfl | rfl <;> rfl
    have hc1 : Chg N0 w w1 := by
      rcases hw1 with rfl | rfl
      · exact Chg.refl _ _
      · exact (Chg.refl _ _).drew
    rw [he2, he3, hseen] at hrun
    have hbl : b < w.heap.size := heap_lt hr
    have hc2 : Chg (fun x => x = b) w (setBlock w1 b (.mapIter (some m) clock (seenOf es (done ++ [i])) clock)) := by
      refine ⟨hc1.os, hc1.tape, hc1.output, ?_, fun k hk hn => ?_, hc1.drawn⟩
      · show w.heap.size ≤ (w1.heap.setIfInBounds b _).size
        rw [Array.size_setIfInBounds, hw1h]
        exact Nat.le_refl _
      · show (w1.heap.setIfInBounds b _)[k]? = _
        rw [Array.getElem?_setIfInBounds_ne (fun e => hn e.symm), hw1h]
    refine gen_v (by simp only [execOp, hop, hx, Sem.run_bind, hrun, Result.andThen_ok, Sem.run_pure]) (hstep i l[i] _ hp hni (h.mut hj hc2 (r' := itR b m es clock (done ++ [i])) ?_ fun x hx => .inl hx))
    show (w1.heap.setIfInBounds b _)[b]? = _
    rw [Array.getElem?_setIfInBounds_self_of_lt (by rw [hw1h]; exact hbl)]
/-- the entry of the last step -/
theorem gen_entry {it : Operand} (hop : o.op = .entry it) (h : Hp S w0 w rs) (j : Nat) {i : Nat} (hj : rs[j]? = some (itR b m es clock (done ++ [i]))) (hx : ρ it = .pointer (some ⟨b, 0, none⟩)) (hM : MapEs enc val w m es clock l) {p : κ × ν} (hi : l[i]? = some p)
    (hk : g (.tuple #[enc p.1, val p.2]) w) : Gen P ρ o w g := by
  have hr : w.heap[b]? = some (.mapIter (some m) clock (seenOf es (done ++ [i])) clock) := h.get hj
  obtain ⟨e, he1, he2, he3⟩ := hM.at hi
  have hseen : seenOf es (done ++ [i]) = (seenOf es done).push e.born := by simp [seenOf, he1]
  rw [hseen] at hr
  have hrun := run_entry_at (P := P) w b m clock (seenOf es done) es clock e hr hM.heap (Array.mem_toList_iff.2 (Array.mem_of_getElem? he1)) hM.stamp.2.1
  rw [he2, he3] at hrun
  exact gen_v (by simp only [execOp, hop, hx, Sem.run_bind, hrun, Result.andThen_ok, Sem.run_pure]) hk
end
attribute [irreducible] itR
end Go.Proofs.Ytdncnepedkkamaa
/- Eq: equality of the plain types. No condition. -/
namespace Go.Proofs.Ytdncnepedkkamaa
set_option linter.unusedSimpArgs false
set_option linter.unusedVariables false
open Go.RowKit
set_option maxRecDepth 100000
set_option maxHeartbeats 2000000
end Go.Proofs.Ytdncnepedkkamaa
/- Keys: maps whose keys are arrays of bytes, or small structs. No condition. -/
namespace Go.Proofs.Ytdncnepedkkamaa
set_option linter.unusedSimpArgs false
set_option linter.unusedVariables false
open Go.RowKit
set_option maxRecDepth 100000
set_option maxHeartbeats 2000000
/-- what an entry is, by the keys' own equality -/
abbrev mlk {κ ν : Type} [DecidableEq κ] (l : List (κ × ν)) (k : κ) : Option ν := l.lookup k
theorem lookup_none {κ ν : Type} [DecidableEq κ] : ∀ {l : List (κ × ν)} {x : κ}, x ∉ l.map (·.1) → l.lookup x = none
  | [], _, _ => rfl
  | p :: l, x, h => by
    have h1 : ¬ x = p.1 := fun e => h (by simp [e])
    have h2 := lookup_none (l := l) (x := x) fun hh => h (List.mem_cons_of_mem _ hh)
    have hb : (x == p.1) = false := by simpa using h1
    rw [List.lookup_cons, hb]
    exact h2
theorem lookup_mapput {κ ν : Type} [DecidableEq κ] (k : κ) (v : ν) (x : κ) : ∀ l : List (κ × ν), (l.map fun p => if p.1 = k then (k, v) else p).lookup x = if x = k then (if k ∈ l.map (·.1) then some v else none) else l.lookup x
  | [] => by simp
  | p :: l => by
    have ih := lookup_mapput k v x l
    rw [List.map_cons, List.lookup_cons, List.lookup_cons]
    by_cases h1 : p.1 = k
    · rw [if_pos h1]
      by_cases h2 : x = k
      · simp [h1, h2]
      · have h3 : ¬ x = p.1 := fun e => h2 (e.trans h1)
        have hb : (x == p.1) = false := by simpa using h3
        have hb2 : (x == k) = false := by simpa using h2
        rw [hb, hb2, ih, if_neg h2, if_neg h2]
    · rw [if_neg h1, ih]
      by_cases h2 : x = k
      · subst h2
        have h3 : ¬ x = p.1 := fun e => h1 e.symm
        have hb : (x == p.1) = false := by simpa using h3
        rw [hb, if_pos rfl, if_pos rfl]
        have hi : x ∈ (p :: l).map (·.1) ↔ x ∈ l.map (·.1) := by simp [h3]
        by_cases hm : x ∈ l.map (·.1)
        · rw [if_pos (hi.2 hm)]
          simp only
          rw [if_pos hm]
        · rw [if_neg fun hh => hm (hi.1 hh)]
          simp only
          rw [if_neg hm]
      · rw [if_neg h2, if_neg h2]
theorem lookup_mput {κ ν : Type} [DecidableEq κ] (l : List (κ × ν)) (k : κ) (v : ν) (x : κ) : (mput l k v).lookup x = if x = k then some v else l.lookup x := by
  unfold mput
  split
  · rename_i h
    rw [lookup_mapput, if_pos h]
  · rename_i h
    rw [List.lookup_append]
    by_cases h2 : x = k
    · subst h2
      rw [lookup_none h]
      simp
    · have : ([(k, v)] : List (κ × ν)).lookup x = none := by simp [h2]
      rw [this]
      simp [h2]
theorem mapM_has {α β : Type} {f : α → Option β} : ∀ (l : List α), (∀ x ∈ l, ∃ y, f x = some y) → ∃ r, l.mapM f = some r
  | [], _ => ⟨[], rfl⟩
  | x :: l, h => by
    obtain ⟨y, hy⟩ := h x (by simp)
    obtain ⟨r, hr⟩ := mapM_has l fun z hz => h z (by simp [hz])
    exact ⟨y :: r, by simp [List.mapM_cons, hy, hr]⟩
theorem keyLits_u8s {P : Program} {t e : TypeId} {n d : Nat} (ht : P.underlying t = some (.array n e)) (he : P.underlying e = some (.int .u8)) (hc : P.cellsOf e = 1) (hn : P.cellsOf t = n) (l : List UInt8) (hl : l.length = n) : ∃ L, P.keyLits (d + 2) t (l.map u8) = some L := by
  have h1 : ∃ r, ((List.range n).mapM fun i => P.keyLits (d + 1) e (((l.map u8).drop (i * P.cellsOf e)).take (P.cellsOf e))) = some r := mapM_has _ fun i hi => by
    have hi' : i < l.length := by rw [hl]; exact List.mem_range.1 hi
    have h2 : ((l.map u8).drop (i * P.cellsOf e)).take (P.cellsOf e) = [u8 l[i]] := by
      rw [hc, Nat.mul_one, List.drop_eq_getElem_cons (by simpa using hi')]
      simp
    have hw : (Lit.int .u8 (l[i].toNat : Int)).wf = true := by
      have := l[i].toNat_lt
      simp [Lit.wf, IntKind.min, IntKind.max, IntKind.signed, IntKind.bits]
      omega
    rw [h2]
    exact ⟨[.int .u8 l[i].toNat], by simp [Program.keyLits, he, hw]⟩
  obtain ⟨r, hr⟩ := h1
  refine ⟨r.flatten, ?_⟩
  have hlen : (l.map u8).length = P.cellsOf t := by simp [hl, hn]
  unfold Program.keyLits
  rw [ht]
  cases hcs : l.map u8 with
  | nil => rw [hcs] at hr hlen; simp only [hlen, if_true, hr, Option.map_some]
  | cons c cs => rw [hcs] at hr hlen; simp only [hlen, if_true, hr, Option.map_some]
theorem id_law : Maps.Keyed Try.prog 62 := Maps.Keyed.of_law (deep_law (m := 3) (by omega) (by kernel_rfl) (by kernel_rfl) (by kernel_rfl))
theorem Id.inj {x y : Id} (h : x.v = y.v) : x = y := by
  have h1 : x.c.toArray = y.c.toArray := by injection h
  rw [← Id.cells, ← Id.cells] at h1
  have h2 : x.toList.map Extern.Stop.cell = y.toList.map Extern.Stop.cell := by simpa using h1
  have h3 : x.toList = y.toList := by
    have hinj : ∀ a b : UInt8, Extern.Stop.cell a = Extern.Stop.cell b → a = b := fun a b hh => by
      simp [Extern.Stop.cell] at hh
      exact UInt8.toNat_inj.1 (by omega)
    exact List.map_inj_right hinj |>.1 h2
  exact Vector.toList_inj.1 h3
theorem idK : KEnc Try.prog 62 Id.v where
  law := id_law
  reads x := by
    obtain ⟨L, hL⟩ := keyLits_u8s (P := Try.prog) (t := 62) (e := 5) (n := 32) (d := Try.prog.types.size - 1) (by kernel_rfl) Try.underlying5 (by kernel_rfl) (by kernel_rfl) x.toList (by simp)
    have h1 : x.v.cells.toList = x.toList.map u8 := by
      have := congrArg Array.toList (Id.cells x)
      rw [List.toList_toArray, List.toList_toArray] at this
      exact this.symm
    have h2 : Try.prog.types.size - 1 + 2 = Try.prog.types.size + 1 := by kernel_rfl
    rw [h2] at hL
    refine ⟨.string (keyBytes L), ?_⟩
    have ht : Try.prog.underlying 62 = some (.array 32 5) := by kernel_rfl
    have hk : (Try.prog.keyType 62 && x.v.formed Try.prog 62) = true := by kernel_rfl
    unfold keyOf
    rw [ht]
    simp only
    rw [if_pos hk, h1, hL]
    rfl
  inj h := Id.inj h
end Go.Proofs.Ytdncnepedkkamaa
