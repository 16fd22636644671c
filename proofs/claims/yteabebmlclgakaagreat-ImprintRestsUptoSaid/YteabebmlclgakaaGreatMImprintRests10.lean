/- MImprintRests10: Keys, Idx, Blk, Blk2, Rf. -/
import Derived.Test.YteabebmlclgakaaGreatMImprintRests9
import Derived.DeepKeys3
import Derived.Test.YteabebmlclgakaaGreatMImprintRests7
import Derived.Test.YteabebmlclgakaaGreatMImprintRestssSlice
import Derived.Test.YteabebmlclgakaaGreatMImprintRests4
import Derived.RangeFuncSeq
/- Keys: maps whose keys are arrays of bytes, or small structs. No condition. -/
namespace Go.Proofs.YteabebmlclgakaaGreat
set_option linter.unusedSimpArgs false
set_option linter.unusedVariables false
open Go.RowKit
set_option maxRecDepth 100000
set_option maxHeartbeats 2000000
/-- what an entry is, by the keys' own equality -/
abbrev mlk {κ ν : Type} [DecidableEq κ] (l : List (κ × ν)) (k : κ) : Option ν := l.lookup k
theorem lookup_none {κ ν : Type} [DecidableEq κ] : ∀ {l : List (κ × ν)} {x : κ}, x ∉ l.map (·.1) → l.lookup x = none
  | [], _, _ => rfl
  | p :: l, x, h => by
    have h1 : ¬ x = p.1 := fun e => h (by simp [e])
    have h2 := lookup_none (l := l) (x := x) fun hh => h (List.mem_cons_of_mem _ hh)
    have hb : (x == p.1) = false := by simpa using h1
    rw [List.lookup_cons, hb]
    exact h2
theorem lookup_mapput {κ ν : Type} [DecidableEq κ] (k : κ) (v : ν) (x : κ) : ∀ l : List (κ × ν), (l.map fun p => if p.1 = k then (k, v) else p).lookup x = if x = k then (if k ∈ l.map (·.1) then some v else none) else l.lookup x
  | [] => by simp
  | p :: l => by
    have ih := lookup_mapput k v x l
    rw [List.map_cons, List.lookup_cons, List.lookup_cons]
    by_cases h1 : p.1 = k
    · rw [if_pos h1]
      by_cases h2 : x = k
      · simp [h1, h2]
      · have h3 : ¬ x = p.1 := fun e => h2 (e.trans h1)
        have hb : (x == p.1) = false := by simpa using h3
        have hb2 : (x == k) = false := by simpa using h2
        rw [hb, hb2, ih, if_neg h2, if_neg h2]
    · rw [if_neg h1, ih]
      by_cases h2 : x = k
      · subst h2
        have h3 : ¬ x = p.1 := fun e => h1 e.symm
        have hb : (x == p.1) = false := by simpa using h3
        rw [hb, if_pos rfl, if_pos rfl]
        have hi : x ∈ (p :: l).map (·.1) ↔ x ∈ l.map (·.1) := by simp [h3]
        by_cases hm : x ∈ l.map (·.1)
        · rw [if_pos (hi.2 hm)]
          simp only
          rw [if_pos hm]
        · rw [if_neg fun hh => hm (hi.1 hh)]
          simp only
          rw [if_neg hm]
      · rw [if_neg h2, if_neg h2]
theorem lookup_mput {κ ν : Type} [DecidableEq κ] (l : List (κ × ν)) (k : κ) (v : ν) (x : κ) : (mput l k v).lookup x = if x = k then some v else l.lookup x := by
  unfold mput
  split
  · rename_i h
    rw [lookup_mapput, if_pos h]
  · rename_i h
    rw [List.lookup_append]
    by_cases h2 : x = k
    · subst h2
      rw [lookup_none h]
      simp
    · have : ([(k, v)] : List (κ × ν)).lookup x = none := by simp [h2]
      rw [this]
      simp [h2]
theorem mapM_has {α β : Type} {f : α → Option β} : ∀ (l : List α), (∀ x ∈ l, ∃ y, f x = some y) → ∃ r, l.mapM f = some r
  | [], _ => ⟨[], rfl⟩
  | x :: l, h => by
    obtain ⟨y, hy⟩ := h x (by simp)
    obtain ⟨r, hr⟩ := mapM_has l fun z hz => h z (by simp [hz])
    exact ⟨y :: r, by simp [List.mapM_cons, hy, hr]⟩
theorem keyLits_u8s {P : Program} {t e : TypeId} {n d : Nat} (ht : P.underlying t = some (.array n e)) (he : P.underlying e = some (.int .u8)) (hc : P.cellsOf e = 1) (hn : P.cellsOf t = n) (l : List UInt8) (hl : l.length = n) : ∃ L, P.keyLits (d + 2) t (l.map u8) = some L := by
  have h1 : ∃ r, ((List.range n).mapM fun i => P.keyLits (d + 1) e (((l.map u8).drop (i * P.cellsOf e)).take (P.cellsOf e))) = some r := mapM_has _ fun i hi => by
    have hi' : i < l.length := by rw [hl]; exact List.mem_range.1 hi
    have h2 : ((l.map u8).drop (i * P.cellsOf e)).take (P.cellsOf e) = [u8 l[i]] := by
      rw [hc, Nat.mul_one, List.drop_eq_getElem_cons (by simpa using hi')]
      simp
    have hw : (Lit.int .u8 (l[i].toNat : Int)).wf = true := by
      have := l[i].toNat_lt
      simp [Lit.wf, IntKind.min, IntKind.max, IntKind.signed, IntKind.bits]
      omega
    rw [h2]
    exact ⟨[.int .u8 l[i].toNat], by simp [Program.keyLits, he, hw]⟩
  obtain ⟨r, hr⟩ := h1
  refine ⟨r.flatten, ?_⟩
  have hlen : (l.map u8).length = P.cellsOf t := by simp [hl, hn]
  unfold Program.keyLits
  rw [ht]
  cases hcs : l.map u8 with
  | nil => rw [hcs] at hr hlen; simp only [hlen, if_true, hr, Option.map_some]
  | cons c cs => rw [hcs] at hr hlen; simp only [hlen, if_true, hr, Option.map_some]
theorem id_law : Maps.Keyed Tryz.prog 44 := Maps.Keyed.of_law (deep_law (m := 3) (by omega) (by kernel_rfl) (by kernel_rfl) (by kernel_rfl))
theorem Id.inj {x y : Id} (h : x.v = y.v) : x = y := by
  have h1 : x.c.toArray = y.c.toArray := by injection h
  rw [← Id.cells, ← Id.cells] at h1
  have h2 : x.toList.map Extern.Stop.cell = y.toList.map Extern.Stop.cell := by simpa using h1
  have h3 : x.toList = y.toList := by
    have hinj : ∀ a b : UInt8, Extern.Stop.cell a = Extern.Stop.cell b → a = b := fun a b hh => by
      simp [Extern.Stop.cell] at hh
      exact UInt8.toNat_inj.1 (by omega)
    exact List.map_inj_right hinj |>.1 h2
  exact Vector.toList_inj.1 h3
theorem idK : KEnc Tryz.prog 44 Id.v where
  law := id_law
  reads x := by
    obtain ⟨L, hL⟩ := keyLits_u8s (P := Tryz.prog) (t := 44) (e := 5) (n := 32) (d := Tryz.prog.types.size - 1) (by kernel_rfl) Tryz.underlying5 (by kernel_rfl) (by kernel_rfl) x.toList (by simp)
    have h1 : x.v.cells.toList = x.toList.map u8 := by
      have := congrArg Array.toList (Id.cells x)
      rw [List.toList_toArray, List.toList_toArray] at this
      exact this.symm
    have h2 : Tryz.prog.types.size - 1 + 2 = Tryz.prog.types.size + 1 := by kernel_rfl
    rw [h2] at hL
    refine ⟨.string (keyBytes L), ?_⟩
    have ht : Tryz.prog.underlying 44 = some (.array 32 5) := by kernel_rfl
    have hk : (Tryz.prog.keyType 44 && x.v.formed Tryz.prog 44) = true := by kernel_rfl
    unfold keyOf
    rw [ht]
    simp only
    rw [if_pos hk, h1, hL]
    rfl
  inj h := Id.inj h
theorem key_law : Maps.Keyed Tryz.prog 42 := Maps.Keyed.of_law (deep_law (m := 3) (by omega) (by kernel_rfl) (by kernel_rfl) (by kernel_rfl))
end Go.Proofs.YteabebmlclgakaaGreat
/- Idx: the first place of an id; few ids. -/
namespace Go.Proofs.YteabebmlclgakaaGreat
set_option linter.unusedSimpArgs false
set_option linter.unusedVariables false
open Go.RowKit
set_option maxRecDepth 100000
set_option maxHeartbeats 2000000
/-- the first place at which something holds, or -1 -/
def idxI {α : Type} (p : α → Bool) (l : List α) : Int := match l.findIdx? p with | some i => i | none => -1
theorem idxI_hit {α : Type} {p : α → Bool} : ∀ {l : List α} {i : Nat} {x : α}, l[i]? = some x → p x = true → (∀ y ∈ l.take i, p y = false) → idxI p l = i
  | [], _, _, h, _, _ => by simp at h
  | y :: l, 0, x, h, hp, _ => by simp at h; subst h; simp [idxI, List.findIdx?_cons, hp]
  | y :: l, i + 1, x, h, hp, ha => by
    have ih := idxI_hit (l := l) (i := i) (by simpa using h) hp fun z hz => ha z (by simp [hz])
    have hy := ha y (by simp)
    unfold idxI at ih ⊢
    rw [List.findIdx?_cons, hy]
    cases hf : l.findIdx? p with
    | none => rw [hf] at ih; simp at ih
    | some j => rw [hf] at ih; simp at ih ⊢; omega
theorem idxI_miss {α : Type} {p : α → Bool} {l : List α} (h : ∀ y ∈ l, p y = false) : idxI p l = -1 := by
  have : l.findIdx? p = none := by simpa using h
  simp [idxI, this]
end Go.Proofs.YteabebmlclgakaaGreat
/- Block: blocks, lists of ids: whether they may be, copies, places. -/
namespace Go.Proofs.YteabebmlclgakaaGreat
set_option linter.unusedSimpArgs false
set_option linter.unusedVariables false
open Go.RowKit
set_option maxRecDepth 100000
set_option maxHeartbeats 2000000
theorem dup_of {α : Type} {l : List α} {i : Nat} {x : α} (hx : l[i]? = some x) (hm : x ∈ l.take i) : ¬ l.Nodup := fun h => by
  have h1 : l = l.take i ++ l.drop i := (List.take_append_drop i l).symm
  rw [h1] at h
  have h2 := (List.nodup_append.1 h).2.2 x hm
  have h3 : x ∈ l.drop i := by
    refine List.mem_of_getElem? (i := 0) ?_
    rw [List.getElem?_drop]
    exact hx
  exact h2 x h3 rfl
theorem nodup_next {α : Type} {l : List α} {x : α} (h : l.Nodup) (hx : x ∉ l) : (l ++ [x]).Nodup := List.nodup_append.2 ⟨h, by simp, fun a ha b hb => by simp at hb; subst hb; exact fun e => hx (e ▸ ha)⟩
def rightB (b : Blk) : Bool := (decide (b.tx.l.length ≤ 32) && !decide (b.hash = b.parent)) && decide b.tx.l.Nodup
theorem blkright_any {B : Nat} {w0 : World} {b : Blk} (h : SlAt B w0 Id.c 32 b.tx) : Calls Tryz.prog 111 #[b.v] w0 fun e w' => e = .returned (.bool (rightB b)) ∧ Chg N0 w0 w' := by
  have hp := Hp.start (S := N0) w0
  have hB : ∀ b, N0 b → B ≤ b := fun _ hh => hh.elim
  have hmax : b.tx.l.length ≤ 9223372036854775807 := by have := h.le; have := h.max; simp only [maxLen] at this; omega
  have u1 := Tryz.underlying52
  refine calls_x (args := [_]) tabOk Tryz.func111 Tryz.ntmps111 Tryz.results111 rfl (Nat.le_of_ble_eq_true rfl) ?_
  ((conv => whnf); repeat' ((first | ((with_reducible refine br_id ?_); first | (with_reducible refine br_t ?_) | (with_reducible refine br_f ?_) | ((with_reducible refine br_dec (fun hx => ?_) (fun hx => ?_)) <;> (try (exfalso; first | omega | exact absurd hx (by assumption) | exact absurd (by assumption) hx)))) | ((with_reducible refine ld_id ?_); (apply ld_hs hp; (focus ((repeat (first | exact Has.here | apply Has.there)); done)); exact rfl)) | ((with_reducible refine ldn_id ?_); (apply ldn_hs hp; (focus ((repeat (first | exact Has.here | apply Has.there)); done)); exact rfl; exact rfl)) | ((with_reducible refine al_id ?_); (refine al_cel hp ?_; clear hp; intro bb w hp)) | ((with_reducible refine gen_id ?_); first | ((refine gen_mmake rfl Id.v Value.bool hp ?_); clear hp; intro bb w hp) | ((refine gen_eqa rfl rfl rfl (eq_id b.hash b.parent) (by kernel_rfl) (.inr rfl) ?_)) | (apply gen_len; exact rfl; exact rfl; assumption))) <;> (conv => whnf)))
  · rename_i bk _
    obtain ⟨bm, hbm⟩ : ∃ bm, bm = bb := ⟨_, rfl⟩
    subst hbm
    have hf0 : (!decide (b.hash = b.parent)) = (decide (b.tx.l.length ≤ 32) && !decide (b.hash = b.parent)) := by rw [decide_eq_true (show b.tx.l.length ≤ 32 by omega), Bool.true_and]
    refine lp_inv (α := Nat × List (Id × Bool)) (fun a => [(1, ptr bk), (3, .map (some bm)), (4, .bool ((!decide (b.hash = b.parent)))), (20, b.tx.v), (21, errno b.tx.l.length), (22, errno a.1)]) (fun a w => a.1 ≤ b.tx.l.length ∧ (0 < a.1 → (!decide (b.hash = b.parent)) = true) ∧ (∀ x, (mlk a.2 x).getD false = decide (x ∈ b.tx.l.take a.1)) ∧ (b.tx.l.take a.1).Nodup ∧ Hp N0 w0 w [mapR Id.v Value.bool bm a.2, cel bk 54 b.c.toArray]) (fun a => b.tx.l.length - a.1) (0, []) (by (repeat' (first | exact trivial | (refine ⟨rfl, ?_⟩)))) ⟨by omega, by omega, by simp, by simp, hp⟩ ?_
    clear hp
    rintro ⟨i, M⟩ e0 w ⟨hi, hfi, hM, hnd, hp⟩
    dsimp only at hi hfi hM hnd hp ⊢
    rcases Nat.lt_or_ge i b.tx.l.length with hlt | hge
    · obtain ⟨bb, o, x, hA, hb, hrow, hxx⟩ := h.has hlt
      have hmem : x ∈ b.tx.l := List.mem_of_getElem? hxx
      have htk : b.tx.l.take (i + 1) = b.tx.l.take i ++ [x] := by rw [List.take_add_one, hxx]; rfl
      ((conv => whnf); repeat' ((first | ((with_reducible refine br_id ?_); first | (with_reducible refine br_t ?_) | (with_reducible refine br_f ?_) | (with_reducible refine br_not ?_) | ((with_reducible refine br_dec (fun hx => ?_) (fun hx => ?_)) <;> (try (exfalso; first | omega | exact absurd hx (by assumption) | exact absurd (by assumption) hx))) | ((with_reducible refine br_s (fun hx => ?_) (fun hx => ?_)) <;> (try (exfalso; first | omega | exact absurd hx (by assumption) | exact absurd (by assumption) hx)))) | ((with_reducible refine ar_id ?_); (refine ar_i64 (by omega) ?_)) | ((with_reducible refine cn_id ?_); (refine cn rfl ?_)) | ((with_reducible refine ldn_id ?_); first | ((refine ldn_rowx hp hB (by assumption) (by assumption) _ rfl (by assumption) rfl ?_)) | (apply lda_hs hp; (focus ((repeat (first | exact Has.here | apply Has.there)); done)); exact rfl)) | ((with_reducible refine al_id ?_); (refine al_cel hp ?_; clear hp; intro bb w hp)) | ((with_reducible refine st_id ?_); (apply sta_hs hp; (focus ((repeat (first | exact Has.here | apply Has.there)); done)); exact rfl; exact rfl; clear hp; intro w hp; (try dsimp only [List.set] at hp))) | ((with_reducible refine gen_id ?_); first | ((refine gen_ixs rfl rfl (by assumption) rfl rfl (by omega) ?_)) | ((refine gen_look rfl hp 1 rfl rfl idK Tryz.underlying266 (z := false) rfl _ rfl ?_)) | ((refine gen_put rfl hp 1 rfl rfl idK Tryz.underlying266 (x) rfl (true) rfl ?_); clear hp; intro w hp))) <;> (conv => whnf)))
      · refine ps_val (v' := .bool false) rfl ⟨?_, hp.chg⟩
        have h1 : rightB b = false := by
          unfold rightB
          rw [hM x, decide_eq_true_eq] at hx
          rw [decide_eq_false (dup_of hxx hx), Bool.and_false]
        rw [h1]
      · refine ps_val (v' := .bool false) rfl ⟨?_, hp.chg⟩
        have h1 : rightB b = false := by
          unfold rightB
          rw [← hf0]
          first | exact Bool.false_and _ | (rw [decide_eq_true hx]; rfl)
        rw [h1]
      · refine lp_next (i + 1, mput M x true) ?_ (by (repeat' (first | exact trivial | (refine ⟨rfl, ?_⟩)))) ⟨by show i + 1 ≤ _; omega, fun _ => by simpa using hx, fun y => ?_, ?_, hp.sub (List.sublist_cons_self _ _)⟩
        · show b.tx.l.length - (i + 1) < b.tx.l.length - i; omega
        · show (mlk (mput M x true) y).getD false = decide (y ∈ b.tx.l.take (i + 1))
          rw [mlk, lookup_mput, htk]
          by_cases hy : y = x
          · simp [hy]
          · rw [if_neg hy]
            exact (hM y).trans (by simp [hy])
        · show (b.tx.l.take (i + 1)).Nodup
          rw [htk]
          refine nodup_next hnd fun hh => ?_
          have h1 := hM x
          have h2 : (mlk M x).getD false = false := by assumption
          rw [decide_eq_true hh, h2] at h1
          cases h1
    · ((conv => whnf); repeat' (((with_reducible refine br_id ?_); ((with_reducible refine br_dec (fun hx => ?_) (fun hx => ?_)) <;> (try (exfalso; first | omega | exact absurd hx (by assumption) | exact absurd (by assumption) hx)))) <;> (conv => whnf)))
      refine ps_val (v' := .bool (!decide (b.hash = b.parent))) rfl ⟨?_, hp.chg⟩
      rw [List.take_of_length_le hge] at hnd
      have h1 : rightB b = (!decide (b.hash = b.parent)) := by
        unfold rightB
        rw [← hf0, decide_eq_true hnd, Bool.and_true]
      rw [h1]
  · rename_i bk _
    obtain ⟨bm, hbm⟩ : ∃ bm, bm = bb := ⟨_, rfl⟩
    subst hbm
    have hf0 : false = (decide (b.tx.l.length ≤ 32) && !decide (b.hash = b.parent)) := by rw [decide_eq_false (show ¬ b.tx.l.length ≤ 32 by omega), Bool.false_and]
    refine lp_inv (α := Nat × List (Id × Bool)) (fun a => [(1, ptr bk), (3, .map (some bm)), (4, .bool (false)), (20, b.tx.v), (21, errno b.tx.l.length), (22, errno a.1)]) (fun a w => a.1 ≤ b.tx.l.length ∧ (0 < a.1 → false = true) ∧ (∀ x, (mlk a.2 x).getD false = decide (x ∈ b.tx.l.take a.1)) ∧ (b.tx.l.take a.1).Nodup ∧ Hp N0 w0 w [mapR Id.v Value.bool bm a.2, cel bk 54 b.c.toArray]) (fun a => b.tx.l.length - a.1) (0, []) (by (repeat' (first | exact trivial | (refine ⟨rfl, ?_⟩)))) ⟨by omega, by omega, by simp, by simp, hp⟩ ?_
    clear hp
    rintro ⟨i, M⟩ e0 w ⟨hi, hfi, hM, hnd, hp⟩
    dsimp only at hi hfi hM hnd hp ⊢
    rcases Nat.lt_or_ge i b.tx.l.length with hlt | hge
    · obtain ⟨bb, o, x, hA, hb, hrow, hxx⟩ := h.has hlt
      have hmem : x ∈ b.tx.l := List.mem_of_getElem? hxx
      have htk : b.tx.l.take (i + 1) = b.tx.l.take i ++ [x] := by rw [List.take_add_one, hxx]; rfl
      ((conv => whnf); repeat' ((first | ((with_reducible refine br_id ?_); first | (with_reducible refine br_t ?_) | (with_reducible refine br_f ?_) | (with_reducible refine br_not ?_) | ((with_reducible refine br_dec (fun hx => ?_) (fun hx => ?_)) <;> (try (exfalso; first | omega | exact absurd hx (by assumption) | exact absurd (by assumption) hx))) | ((with_reducible refine br_s (fun hx => ?_) (fun hx => ?_)) <;> (try (exfalso; first | omega | exact absurd hx (by assumption) | exact absurd (by assumption) hx)))) | ((with_reducible refine cn_id ?_); (refine cn rfl ?_)) | ((with_reducible refine ldn_id ?_); first | ((refine ldn_rowx hp hB (by assumption) (by assumption) _ rfl (by assumption) rfl ?_)) | (apply lda_hs hp; (focus ((repeat (first | exact Has.here | apply Has.there)); done)); exact rfl)) | ((with_reducible refine al_id ?_); (refine al_cel hp ?_; clear hp; intro bb w hp)) | ((with_reducible refine st_id ?_); (apply sta_hs hp; (focus ((repeat (first | exact Has.here | apply Has.there)); done)); exact rfl; exact rfl; clear hp; intro w hp; (try dsimp only [List.set] at hp))) | ((with_reducible refine gen_id ?_); first | ((refine gen_ixs rfl rfl (by assumption) rfl rfl (by omega) ?_)) | ((refine gen_look rfl hp 1 rfl rfl idK Tryz.underlying266 (z := false) rfl _ rfl ?_)))) <;> (conv => whnf)))
      · refine ps_val (v' := .bool false) rfl ⟨?_, hp.chg⟩
        have h1 : rightB b = false := by
          unfold rightB
          rw [hM x, decide_eq_true_eq] at hx
          rw [decide_eq_false (dup_of hxx hx), Bool.and_false]
        rw [h1]
      · refine ps_val (v' := .bool false) rfl ⟨?_, hp.chg⟩
        have h1 : rightB b = false := by
          unfold rightB
          rw [← hf0]
          first | exact Bool.false_and _ | (rw [decide_eq_true hx]; rfl)
        rw [h1]
    · ((conv => whnf); repeat' (((with_reducible refine br_id ?_); ((with_reducible refine br_dec (fun hx => ?_) (fun hx => ?_)) <;> (try (exfalso; first | omega | exact absurd hx (by assumption) | exact absurd (by assumption) hx)))) <;> (conv => whnf)))
      refine ps_val (v' := .bool (false)) rfl ⟨?_, hp.chg⟩
      rw [List.take_of_length_le hge] at hnd
      have h1 : rightB b = (false) := by
        unfold rightB
        rw [← hf0, decide_eq_true hnd, Bool.and_true]
      rw [h1]
end Go.Proofs.YteabebmlclgakaaGreat
/- Block (2): places in lists, copies, the document's answers. -/
namespace Go.Proofs.YteabebmlclgakaaGreat
set_option linter.unusedSimpArgs false
set_option linter.unusedVariables false
open Go.RowKit
set_option maxRecDepth 100000
set_option maxHeartbeats 2000000
/-- a copy of a block -/
theorem copy_any {B : Nat} {w0 : World} {b : Blk} (h : SlAt B w0 Id.c 32 b.tx) (hn : b.tx.l.length ≤ 1000000) : Calls Tryz.prog 46 #[b.v] w0 fun e w' => ∃ s : Sl Id, s.l = b.tx.l ∧ e = .returned ({ b with tx := s } : Blk).v ∧ Made (rowR 44 32 Id.c s) w0 w' := by
  have hp := Hp.start (S := N0) w0
  have hB : ∀ b, N0 b → B ≤ b := fun _ hh => hh.elim
  have u1 := Tryz.underlying52
  refine calls_x (args := [_]) tabOk Tryz.func46 Tryz.ntmps46 Tryz.results46 rfl (Nat.le_of_ble_eq_true rfl) ?_
  ((conv => whnf); repeat' ((first | ((with_reducible refine cn_id ?_); (refine cn rfl ?_)) | ((with_reducible refine ld_id ?_); (apply ld_hs hp; (focus ((repeat (first | exact Has.here | apply Has.there)); done)); exact rfl)) | ((with_reducible refine ldn_id ?_); (apply lda_hs hp; (focus ((repeat (first | exact Has.here | apply Has.there)); done)); exact rfl)) | ((with_reducible refine al_id ?_); (refine al_cel hp ?_; clear hp; intro bb w hp)) | ((with_reducible refine st_id ?_); first | (apply sta_hs hp; (focus ((repeat (first | exact Has.here | apply Has.there)); done)); exact rfl; exact rfl; clear hp; intro w hp; (try dsimp only [List.set] at hp)) | (apply st_hs hp; (focus ((repeat (first | exact Has.here | apply Has.there)); done)); exact rfl; exact rfl; clear hp; intro w hp; (try dsimp only [List.set] at hp))) | ((with_reducible refine gen_id ?_); ((refine gen_app0 rfl hp el_id rfl b.tx rfl (h.keep hp.chg hB) (fun _ _ => rfl) idL_one (by omega) (by simp only [maxLen]; omega) ?_); clear hp; intro A' c' w hg hp))) <;> (conv => whnf)))
  exact ps_val (v' := ({ b with tx := ⟨A', c', b.tx.l⟩ } : Blk).v) rfl ⟨⟨A', c', b.tx.l⟩, rfl, rfl, hp.made1 (j := 0) rfl⟩
end Go.Proofs.YteabebmlclgakaaGreat
/- Rf: ranges over functions: the loop's blocks as resources, what an iterator promises, the rule of the statement. No condition. -/
namespace Go.Proofs.YteabebmlclgakaaGreat
set_option linter.unusedSimpArgs false
set_option linter.unusedVariables false
open Go.RowKit
/-- a block of whatever kind -/
def objR (b : Nat) (o : Obj) : Res where
  dom x := x = b
  ok w := w.heap[b]? = some o
  lt w h x hx := by subst hx; exact heap_lt h
  loc w w' h hk := (h b rfl).trans hk
theorem objR_ok {b : Nat} {o : Obj} {w : World} : (objR b o).ok w ↔ w.heap[b]? = some o := Iff.rfl
theorem objR_dom {b x : Nat} {o : Obj} : (objR b o).dom x ↔ x = b := Iff.rfl
section
variable {P : Program} {S : Nat → Prop} {w0 w w' : World} {rs : List Res} {j : Nat}
theorem Chg.putObj (w : World) (l : Nat) (o : Obj) : Chg (fun x => x = l) w (w.putObj l o) := ⟨rfl, rfl, rfl, Nat.le_of_eq World.putObj_size.symm, fun _ _ hn => World.putObj_heap_other hn, Nat.le_refl _⟩
theorem Hp.putObj {b : Nat} {o : Obj} (h : Hp S w0 w rs) (hj : rs[j]? = some (objR b o)) (o' : Obj) : Hp S w0 (w.putObj b o') (rs.set j (objR b o')) :=
  h.mut hj ((Chg.putObj w b o').mono fun _ _ hh => objR_dom.2 hh) (objR_ok.2 (World.putObj_heap_same (heap_lt (objR_ok.1 (h.get hj))))) fun _ hb => .inl (objR_dom.2 (objR_dom.1 hb))
theorem td_id {D : Nat} {k : World → Prop} (h : Td w D k) : Td w D k := h
theorem td_hs {D : Nat} {k : World → Prop} (h : Hp S w0 w rs) (j : Nat) (hj : rs[j]? = some (objR D (.deferred (some [])))) (hk : ∀ w', Hp S w0 w' (rs.set j (objR D (.deferred none))) → k w') : Td w D k :=
  ⟨objR_ok.1 (h.get hj), hk _ (h.putObj hj _)⟩
theorem Hp.fold1 (h : Hp S w0 w rs) : Hp S w0 w [star rs] := by
  have := h.fold rs.length
  rwa [List.take_length, List.drop_length] at this
theorem Hp.unfold1 (h : Hp S w0 w [star rs]) : Hp S w0 w rs := by
  have := h.unfold
  rwa [List.append_nil] at this
end
/-- what an iterator promises of its rounds: it yields xs, one after another, if no round says no; it reads what lies in T -/
structure Iter (P : Program) (T : Nat → Prop) (gf : Nat) (lb : Array Value) {α : Type} (enc : α → Array Value) (xs : List α) (W0 : World) : Prop where
  out : ∀ (l : Nat) (R X : Nat → Res → Prop) (r0 : Res), R 0 r0 → r0.ok W0 → (∀ b, r0.dom b → ¬ T b) →
    (∀ i x W r, R i r → xs[i]? = some x → Mut r0 r W0 W → YieldAt Fence.wide 0 P l (enc x) W fun e W' =>
      (e = .returned (.bool true) ∧ ∃ r', R (i + 1) r' ∧ Mut r r' W W') ∨ (e = .returned (.bool false) ∧ ∃ r', X i r' ∧ Mut r r' W W')) →
    Calls P gf (#[.func (.yield l) #[] #[]] ++ lb) W0 fun e W' => (∃ v, e = .returned v) ∧ ((∃ r', R xs.length r' ∧ Mut r0 r' W0 W') ∨ ∃ i r', i < xs.length ∧ X i r' ∧ Mut r0 r' W0 W')
theorem yl_id {P : Program} {l : Nat} {args : Array Value} {w : World} {k : Value → World → Prop} (h : Yl P l args w k) : Yl P l args w k := h
theorem yl_of {P : Program} {l : Nat} {args args' : Array Value} {w : World} {k : Value → World → Prop} {R : Ending → World → Prop} (h : YieldAt Fence.wide 0 P l args' w R) (ea : args = args') (hk : ∀ e w', R e w' → ∃ v, e = .returned v ∧ k v w') : Yl P l args w k := by
  subst ea
  obtain ⟨fn, tmps, assign, body, h1, h2⟩ := h
  exact ⟨fn, tmps, assign, body, h1, h2.mono hk⟩
/-- what never is -/
def noR : Res where
  dom _ := False
  ok _ := False
  lt _ h _ _ := h.elim
  loc _ _ _ h := h
theorem noR_ok {w : World} : ¬ noR.ok w := fun h => h
/-- an end of a round's body -/
structure Bo (A : World → Prop) (w : World) : Prop where
  out : A w
theorem bo {A : World → Prop} {w : World} (h : A w) : Bo A w := ⟨h⟩
def kBody (A : World → Prop) (B : Exit → World → Prop) : Exit → Env → World → Prop
  | .normal, _, w => Bo A w
  | .panic _, _, _ => False
  | .outgrown, _, _ => False
  | ex, _, w => Bo (B ex) w
/-- a round begins: the loop's block turns -/
structure Bg (L : Nat) (o o' : Obj) (w : World) (k : World → Prop) : Prop where
  out : w.heap[L]? = some o ∧ k (w.putObj L o')
theorem bg_hs {S : Nat → Prop} {w0 w : World} {rs : List Res} {L : Nat} {o o' : Obj} {k : World → Prop} (h : Hp S w0 w rs) (j : Nat) (hj : rs[j]? = some (objR L o)) (hk : ∀ w', Hp S w0 w' (rs.set j (objR L o')) → k w') : Bg L o o' w k := ⟨objR_ok.1 (h.get hj), hk _ (h.putObj hj _)⟩
theorem bg_id {L : Nat} {o o' : Obj} {w : World} {k : World → Prop} (h : Bg L o o' w k) : Bg L o o' w k := h
def kAsg (L : Nat) (o o' : Obj) (k : Env → World → Prop) : Exit → Env → World → Prop
  | .normal, e, w => Bg L o o' w (k e)
  | _, _, _ => False
/-- the loop's blocks beside others -/
abbrev lpR (L D : Nat) (o : Obj) (rs : List Res) : List Res := objR L o :: objR D (.deferred (some [])) :: rs
noncomputable def eatL (l : List (Nat × Value)) (e : Env) : Env := List.rec (motive := fun _ => Env → Env) (fun e => e) (fun p _ ih e => ih (eup e (some p.1) p.2)) l e
theorem eatL_rel {n : Nat} : ∀ (l : List (Nat × Value)) (e : Env) (tmps : Array Value) (ds : List Deferred), Rel n e { tmps := tmps, defers := ds } → Rel n (eatL l e) { tmps := l.foldl (fun t p => t.setIfInBounds p.1 p.2) tmps, defers := ds }
  | [], e, tmps, ds, h => h
  | (d, v) :: r, e, tmps, ds, h => eatL_rel r (eup e (some d) v) _ ds (h.put (some d) v)
/-- which exits a jump stands for -/
def jumpOf : Exit → Option Code
  | .ret => some .ret
  | .exit id => some (.exit id)
  | .goto t => some (.goto t)
  | _ => none
theorem jump_wp {P : Program} {n : Nat} {K : Exit → Env → World → Prop} {ex : Exit} {c : Code} (hc : jumpOf ex = some c) {e : Env} {a : Act} {w : World} (hr : Rel n e a) (h : K ex e w) : c.wpIn (FW none) 0 P (QX n K) a w := by
  cases ex <;> simp [jumpOf] at hc <;> subst hc
  · exact wpIn_exit ⟨e, hr, h⟩
  · exact wpIn_goto ⟨e, hr, h⟩
  · exact wpIn_ret ⟨e, hr, h⟩
theorem enters {P : Program} {T : Tb} (hT : TabOk P T) {f : Nat} (h : T.fn.get f = some ()) (args : Array Value) (w : World) : (callFunc f args).run P w = .ok (.enter f args) w := by
  obtain ⟨fn, body, hfn, hbody, hname⟩ := hT.func h
  simp [callFunc, program, Sem.run, hfn, hbody, beq_eq_false_iff_ne.1 hname]
theorem zip1 (p : Tmp) (v : Value) : ((#[p] : Array Tmp).zip #[v]).toList = [(p, v)] := by simp
theorem zip2 (p q : Tmp) (v u : Value) : ((#[p, q] : Array Tmp).zip #[v, u]).toList = [(p, v), (q, u)] := by simp
theorem rf_id {P : Program} {n : Nat} {g : Operand} {ps : Array Tmp} {assign body : Code} {xa x : XC} {K : Exit → Env → World → Prop} {e : Env} {w : World} (h : Rf P n g ps assign body xa x K e w) : Rf P n g ps assign body xa x K e w := h
theorem rf_iter {P : Program} {n : Nat} {g : Operand} {ps : Array Tmp} {assign body : Code} {xa x : XC} {K : Exit → Env → World → Prop} {e : Env} {S : Nat → Prop} {w0 w : World} {rs : List Res} (hp : Hp S w0 w rs)
    {gf : Nat} {lb : Array Value} {α : Type} {enc : α → Array Value} {xs : List α} {T : Nat → Prop} (hfa : flat assign = true) (hfl : flat body = true) (hg : ev n e g = .func (.func gf) #[] lb) (hgf : ∀ args w, (callFunc gf args).run P w = .ok (.enter gf args) w) (es : α → List (Nat × Value)) (hps : ∀ y, (enc y).size = ps.size) (hes : ∀ y, (ps.zip (enc y)).toList = es y)
    (hT : ∀ b, T b → b < w.heap.size ∧ ∀ r ∈ rs, ¬ r.dom b) (hit : ∀ w1, Chg N0 w w1 → Iter P T gf lb enc xs w1) (rsI : Nat → List Res → Prop) (h0 : rsI 0 rs) (jx : Exit) (hjx : ∃ c, jumpOf jx = some c) (rsX : Nat → List Res → Prop)
    (hbody : ∀ i y L D o o' W q, rsI i q → xs[i]? = some y → Chg S w0 W → (∀ b, (star (lpR L D o q)).dom b → S b ∨ w0.heap.size ≤ b) → Hp (star (lpR L D o q)).dom W W (lpR L D o q) →
      xa (kAsg L o o' (x (kBody (fun W' => ∃ q', rsI (i + 1) q' ∧ Hp (star (lpR L D o q)).dom W W' (lpR L D o' q')) (fun ex W' => ex = jx ∧ ∃ q', rsX i q' ∧ Hp (star (lpR L D o q)).dom W W' (lpR L D o' q'))))) (eatL (es y) ⟨e.f, []⟩) W)
    (hdone : ∀ L D o W q, rsI xs.length q → Hp S w0 W (lpR L D o q) → K .normal ⟨e.f, D :: e.ds⟩ W)
    (hstop : ∀ i L D o W q, i < xs.length → rsX i q → Hp S w0 W (lpR L D o q) → K jx ⟨e.f, D :: e.ds⟩ W) : Rf P n g ps assign body xa x K e w := by
  refine ⟨fun hxa hx a hr => ?_⟩
  refine wpIn_rangeFunc fun fn _ => ?_
  obtain ⟨rec, hrec⟩ : ∃ rec : LoopState → Option Code → Loop, rec = fun st pe => { state := st, pending := pe, fn, tmps := a.tmps, params := ps, assign, body, defers := w.heap.size } := ⟨_, rfl⟩
  obtain ⟨L, hL⟩ : ∃ L, L = w.heap.size + 1 := ⟨_, rfl⟩
  obtain ⟨D, hD⟩ : ∃ D, D = w.heap.size := ⟨_, rfl⟩
  obtain ⟨W1, hW1⟩ : ∃ W1, (w.alloc (.deferred (some []))).alloc (.loop (rec .ready none)) = W1 := ⟨_, rfl⟩
  have hc1 : Chg N0 w W1 := by rw [← hW1]; exact ((Chg.refl _ _).alloc _).alloc _
  have hp1 : Hp S w0 W1 (lpR L D (.loop (rec .ready none)) rs) := by
    rw [hL, hD, ← hW1]
    have h1 : Hp S w0 (w.alloc (.deferred (some []))) (objR w.heap.size (.deferred (some [])) :: rs) := hp.new ((Chg.refl _ _).alloc _) (objR_ok.2 (World.alloc_heap_new w _)) fun b hb => by rw [objR_dom.1 hb]; exact Nat.le_refl _
    refine h1.new ((Chg.refl _ _).alloc _) (objR_ok.2 ?_) fun b hb => by rw [objR_dom.1 hb, World.size_alloc]; exact Nat.le_refl _
    have := World.alloc_heap_new (w.alloc (.deferred (some []))) (.loop (rec .ready none))
    rwa [World.size_alloc] at this
  refine ⟨L, [dmark D], W1, { target := .fn (.func gf) lb, args := #[.func (.yield L) #[] #[]] }, W1, gf, #[.func (.yield L) #[] #[]] ++ lb, W1, ?_, ?_, fun _ _ => trivial, ?_, FW_depth, ?_⟩
  · rw [← hW1, hrec, hL, hD]; exact run_enterLoop_outer _ _ _ _ _
  · simp only [resolve, hr.eval, hg]
    simp [go_sem]
  · simp [invoke, go_sem, hgf]
  · have hpS := hp1.fold1
    refine callsFW (Calls.mono ((hit W1 hc1).out L (fun i r => ∃ q, rsI i q ∧ r = star (lpR L D (.loop (rec .ready none)) q)) (fun i r => ∃ q, rsX i q ∧ r = star (lpR L D (.loop (rec .done (jumpOf jx))) q)) (star (lpR L D (.loop (rec .ready none)) rs)) ⟨rs, h0, rfl⟩ (hpS.get (j := 0) rfl) ?_ ?_) ?_)
    · intro b hb hTb
      obtain ⟨r, hr1, hr2⟩ := star_dom.1 hb
      obtain ⟨h1, h2⟩ := hT b hTb
      rcases List.mem_cons.1 hr1 with rfl | hr1
      · have := objR_dom.1 hr2; omega
      rcases List.mem_cons.1 hr1 with rfl | hr1
      · have := objR_dom.1 hr2; omega
      exact h2 r hr1 hr2
    · rintro i y W _ ⟨q, hq, rfl⟩ hy m
      have hok := star_ok.1 m.ok
      have hLW : W.heap[L]? = some (.loop (rec .ready none)) := objR_ok.1 (hok.1 _ (List.mem_cons_self ..))
      have hrun := run_yield (P := P) (args := enc y) hLW (by rw [hrec]; exact hps y)
      obtain ⟨ob, hob⟩ : ∃ ob, ob = Obj.loop { rec .ready none with state := .busy } := ⟨_, rfl⟩
      have hpW : Hp S w0 W (lpR L D (.loop (rec .ready none)) q) := by
        have h1 := (hpS.via (j := 0) rfl m)
        have h2 : Hp S w0 W [star (lpR L D (.loop (rec .ready none)) q)] := h1
        exact h2.unfold1
      have hrel : Rel n (eatL (es y) ⟨e.f, []⟩) { tmps := (es y).foldl (fun t p => t.setIfInBounds p.1 p.2) a.tmps, defers := [] } := eatL_rel _ _ _ _ ⟨rfl, hr.2.1, hr.2.2⟩
      have hact : ({ tmps := (ps.zip (enc y)).foldl (fun tmps (p : Tmp × Value) => tmps.setIfInBounds p.1 p.2) a.tmps, defers := [] } : Act) = { tmps := (es y).foldl (fun t p => t.setIfInBounds p.1 p.2) a.tmps, defers := [] } := by
        rw [← hes y, ← Array.foldl_toList]
      have hb := hxa _ _ _ W L hfa (hact ▸ hrel) (hbody i y L D (.loop (rec .ready none)) ob W q hq hy hpW.chg (fun b hb => by
        obtain ⟨r, hr1, hr2⟩ := star_dom.1 hb
        exact hpW.own r hr1 b hr2) (Hp.open m.ok))
      refine ⟨fn, _, assign, body, by rw [hrec] at hrun; exact hrun, roundIn_of_wpIn trivial (wpIn_mono (show assign.wpIn (FW (some L)) 0 P _ _ W from hb) ?_)⟩
      rintro ex1 a1 W1' ⟨e1, hr1, hk1⟩
      cases ex1 <;> try exact hk1.elim
      obtain ⟨hL1, hk1⟩ := hk1.out
      refine ⟨_, by have := run_beginRound (P := P) hL1 (by rw [hrec]); rw [← hob] at this; exact this, ?_⟩
      have fin : ∀ (W3 : World) (rs3 : List Res) (jump : Option Code), Hp (star (lpR L D (.loop (rec .ready none)) q)).dom W W3 (lpR L D ob rs3) →
          (Instr.endRound L jump).run P W3 = .ok (.bool jump.isNone) (W3.putObj L (.loop (rec (if jump.isNone then .ready else .done) jump))) ∧
          Mut (star (lpR L D (.loop (rec .ready none)) q)) (star (lpR L D (.loop (rec (if jump.isNone then .ready else .done) jump)) rs3)) W (W3.putObj L (.loop (rec (if jump.isNone then .ready else .done) jump))) := fun W3 rs3 jump h3 => by
        have hl3 : W3.heap[L]? = some (.loop { rec .ready none with state := .busy }) := by rw [← hob]; exact objR_ok.1 (h3.get (j := 0) rfl)
        have hrun3 := run_endRound (P := P) jump hl3
        have h6 := h3.putObj (j := 0) rfl (.loop (rec (if jump.isNone then .ready else .done) jump))
        refine ⟨by rw [hrun3]; simp only [hrec], h6.shut (List.Sublist.refl _)⟩
      refine wpIn_mono (show body.wpIn (FW (some L)) 0 P _ _ _ from hx _ _ _ _ L hfl hr1 hk1) ?_
      rintro ex a3 W3 ⟨e3, hr3, hk3⟩
      cases ex with
      | normal =>
        obtain ⟨q', hq', hk4⟩ := hk3.out
        obtain ⟨h1, h2⟩ := fin W3 _ none hk4
        exact ⟨_, _, h1, .inl ⟨rfl, _, ⟨q', hq', rfl⟩, h2⟩⟩
      | ret =>
        obtain ⟨hj, q', hq', hk4⟩ := hk3.out
        subst hj
        obtain ⟨h1, h2⟩ := fin W3 _ (some .ret) hk4
        exact ⟨_, _, h1, .inr ⟨rfl, _, ⟨q', hq', rfl⟩, h2⟩⟩
      | exit id =>
        obtain ⟨hj, q', hq', hk4⟩ := hk3.out
        subst hj
        obtain ⟨h1, h2⟩ := fin W3 _ (some (.exit id)) hk4
        exact ⟨_, _, h1, .inr ⟨rfl, _, ⟨q', hq', rfl⟩, h2⟩⟩
      | goto t =>
        obtain ⟨hj, q', hq', hk4⟩ := hk3.out
        subst hj
        obtain ⟨h1, h2⟩ := fin W3 _ (some (.goto t)) hk4
        exact ⟨_, _, h1, .inr ⟨rfl, _, ⟨q', hq', rfl⟩, h2⟩⟩
      | panic c => exact hk3.elim
      | outgrown => exact hk3.elim
    · rintro e3 W3 ⟨⟨v, rfl⟩, hm⟩
      have hrel : Rel n ⟨e.f, D :: e.ds⟩ { a with defers := [dmark D] ++ a.defers } := ⟨by simp [hr.1], hr.2.1, hr.2.2⟩
      rcases hm with ⟨_, ⟨q, hq, rfl⟩, m⟩ | ⟨i, _, hi, ⟨q, hq, rfl⟩, m⟩
      · have h1 : Hp S w0 W3 [star (lpR L D (.loop (rec .ready none)) q)] := hpS.via (j := 0) rfl m
        have h2 := h1.unfold1
        have hl3 : W3.heap[L]? = some (.loop (rec .ready none)) := objR_ok.1 (h2.get (j := 0) rfl)
        have hpe : (rec .ready none).pending = none := by rw [hrec]
        refine ⟨none, _, by have := run_endLoop (P := P) hl3 (by rw [hrec]; simp); rw [hpe] at this; exact this, ?_⟩
        exact ⟨_, hrel, hdone _ _ _ _ _ hq (h2.putObj (j := 0) rfl _)⟩
      · have h1 : Hp S w0 W3 [star (lpR L D (.loop (rec .done (jumpOf jx))) q)] := hpS.via (j := 0) rfl m
        have h2 := h1.unfold1
        have hl3 : W3.heap[L]? = some (.loop (rec .done (jumpOf jx))) := objR_ok.1 (h2.get (j := 0) rfl)
        have hpe : (rec .done (jumpOf jx)).pending = jumpOf jx := by rw [hrec]
        have hend := run_endLoop (P := P) hl3 (by rw [hrec]; simp)
        have hk := hstop i _ _ _ _ _ hi hq (h2.putObj (j := 0) rfl (.loop { rec .done (jumpOf jx) with state := .exhausted }))
        generalize W3.putObj L (.loop { rec .done (jumpOf jx) with state := .exhausted }) = W4 at hend hk
        rw [hpe] at hend
        refine ⟨jumpOf jx, W4, hend, ?_⟩
        cases hj : jumpOf jx with
        | none =>
          obtain ⟨c, hc⟩ := hjx
          rw [hj] at hc
          cases hc
        | some c => exact jump_wp hj hrel hk
end Go.Proofs.YteabebmlclgakaaGreat
