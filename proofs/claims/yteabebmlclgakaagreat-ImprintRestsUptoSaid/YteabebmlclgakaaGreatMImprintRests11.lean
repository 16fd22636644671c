/- MImprintRests11: Met, Flt, KeyK, TailA. -/
import Derived.Test.YteabebmlclgakaaGreatMImprintRests4
import Derived.Test.YteabebmlclgakaaGreatMImprintRestssSlice
import Derived.Test.YteabebmlclgakaaGreatMImprintRests10
/- Met: all places met are a permutation. No program in sight. -/
namespace Go.Proofs.YteabebmlclgakaaGreat
set_option linter.unusedSimpArgs false
set_option linter.unusedVariables false
open Go.RowKit
set_option maxRecDepth 100000
set_option maxHeartbeats 2000000
/-- all places met: a permutation -/
theorem met_all {κ α : Type} {l : List κ} {done : List Nat} (hn : done.Nodup) (hd : ∀ i ∈ done, i < l.length) (hall : ∀ i, i < l.length → i ∈ done) (f : κ → α) : (done.map fun i => (l[i]?).map f).Perm (l.map fun x => some (f x)) := by
  have h1 : done.Perm (List.range l.length) := (List.perm_ext_iff_of_nodup hn List.nodup_range).2 fun i => ⟨fun h => List.mem_range.2 (hd i h), fun h => hall i (List.mem_range.1 h)⟩
  refine (h1.map _).trans (List.Perm.of_eq ?_)
  apply List.ext_getElem?
  intro i
  simp only [List.getElem?_map]
  rcases Nat.lt_or_ge i l.length with h | h
  · rw [List.getElem?_range h, Option.map_some, List.getElem?_eq_getElem h]
    rfl
  · rw [List.getElem?_eq_none (by simp; exact h), List.getElem?_eq_none h]
    rfl
theorem perm_some {α : Type} {l l' : List α} (h : (l.map some).Perm (l'.map some)) : l.Perm l' := by
  have h1 := h.filterMap id
  simpa [List.filterMap_map] using h1
theorem met_len {done : List Nat} {i n : Nat} (hn : done.Nodup) (hd : ∀ j ∈ done, j < n) (hi : i < n) (hni : i ∉ done) : done.length < n := by
  have h1 : (done ++ [i]).Nodup := List.nodup_append.2 ⟨hn, by simp, fun a ha b hb e => by simp at hb; subst hb; subst e; exact hni ha⟩
  have h2 : ∀ j ∈ done ++ [i], j ∈ List.range n := fun j hj => by
    rcases List.mem_append.1 hj with hj | hj
    · exact List.mem_range.2 (hd j hj)
    · simp at hj
      subst hj
      exact List.mem_range.2 hi
  have h3 := h1.length_le_of_subset h2
  rw [List.length_append, List.length_range] at h3
  exact h3
theorem met_snoc {done : List Nat} {i n : Nat} (hn : done.Nodup) (hd : ∀ j ∈ done, j < n) (hi : i < n) (hni : i ∉ done) : (done ++ [i]).Nodup ∧ ∀ j ∈ done ++ [i], j < n := by
  refine ⟨List.nodup_append.2 ⟨hn, by simp, fun a ha b hb e => by simp at hb; subst hb; subst e; exact hni ha⟩, fun j hj => ?_⟩
  rcases List.mem_append.1 hj with hj | hj
  · exact hd j hj
  · simp at hj
    subst hj
    exact hi
theorem filterMap_if {κ α : Type} (q : κ → Bool) (f : κ → α) : ∀ l : List κ, (l.filterMap fun x => if q x = true then some (f x) else none) = (l.filter q).map f
  | [] => rfl
  | x :: l => by
    rw [List.filterMap_cons, filterMap_if q f l]
    cases h : q x with
    | true => rw [List.filter_cons_of_pos h]; rfl
    | false => rw [List.filter_cons_of_neg (by rw [h]; simp)]; rfl
theorem range_filterMap {κ α : Type} (h : κ → Option α) : ∀ l : List κ, ((List.range l.length).filterMap fun i => (l[i]?).bind h) = l.filterMap h
  | [] => rfl
  | x :: l => by
    rw [List.length_cons, List.range_succ_eq_map, List.filterMap_cons, List.filterMap_map, List.filterMap_cons]
    have ih := range_filterMap h l
    have e : (((fun i => ((x :: l)[i]?).bind h) ∘ Nat.succ) : Nat → Option α) = fun i => (l[i]?).bind h := by funext i; rfl
    rw [e, ih]
    rfl
/-- all met of those for which something holds -/
theorem met_filter {κ α : Type} {l : List κ} {done : List Nat} (hn : done.Nodup) (hd : ∀ i ∈ done, i < l.length) (hall : ∀ i, i < l.length → i ∈ done) (q : κ → Bool) (f : κ → α) : (done.filterMap fun i => (l[i]?).bind fun x => if q x = true then some (f x) else none).Perm ((l.filter q).map f) := by
  have h1 : done.Perm (List.range l.length) := (List.perm_ext_iff_of_nodup hn List.nodup_range).2 fun i => ⟨fun h => List.mem_range.2 (hd i h), fun h => hall i (List.mem_range.1 h)⟩
  refine (h1.filterMap _).trans (List.Perm.of_eq ?_)
  rw [range_filterMap (fun x => if q x = true then some (f x) else none) l, filterMap_if]
end Go.Proofs.YteabebmlclgakaaGreat
/- Flt: what a loop has filtered so far. No program in sight. -/
namespace Go.Proofs.YteabebmlclgakaaGreat
set_option linter.unusedSimpArgs false
set_option linter.unusedVariables false
open Go.RowKit
theorem take_filter {α : Type} {L : List α} {f : α → Bool} {i : Nat} {x : α} (h : L[i]? = some x) : (L.take (i + 1)).filter f = (L.take i).filter f ++ (if f x = true then [x] else []) := by
  rw [List.take_add_one, h, List.filter_append]
  congr 1
  by_cases hf : f x = true
  · rw [if_pos hf]; exact List.filter_cons_of_pos hf
  · rw [if_neg hf]; exact List.filter_cons_of_neg hf
theorem filter_take_le {α : Type} {L : List α} {f : α → Bool} {i : Nat} : ((L.take i).filter f).length ≤ i := Nat.le_trans (List.length_filter_le _ _) (by rw [List.length_take]; omega)
theorem Hp.nilRow {ν : Type} {S : Nat → Prop} {w0 w : World} {rs : List Res} (h : Hp S w0 w rs) (et : TypeId) (sz : Nat) (vc : ν → List Value) : Hp S w0 w (rowR et sz vc (Sl.nil : Sl ν) :: rs) :=
  h.new (Chg.refl _ _) (rowR_ok.2 ⟨World.ownsRow_nil w 0 _ _, by simp [Sl.nil]⟩) fun b hb => by have h1 := rowR_dom.1 hb; cases h1
theorem lp_share {B : Env → World → (Env → World → Prop) → Prop} {G : Prop} (I : Env → World → Prop) (main : (∀ e w, I e w → Lp B e w) → G) (tail : ∀ e w, I e w → Lp B e w) : G := main tail
/-- some of the resources, by their places -/
theorem Hp.pick {S : Nat → Prop} {w0 w : World} {rs rs' : List Res} (h : Hp S w0 w rs) (js : List Nat) (hn : js.Nodup) (he : js.map (fun j => rs[j]?) = rs'.map some) : Hp S w0 w rs' := by
  have hl : js.length = rs'.length := by have := congrArg List.length he; simpa using this
  have hat : ∀ a (ha : a < rs'.length), rs[js[a]'(by omega)]? = some rs'[a] := fun a ha => by
    have h1 : (js.map (fun j => rs[j]?))[a]? = (rs'.map some)[a]? := by rw [he]
    rw [List.getElem?_map, List.getElem?_map, List.getElem?_eq_getElem (show a < js.length by omega), List.getElem?_eq_getElem ha] at h1
    exact Option.some.inj h1
  have hm : ∀ r ∈ rs', r ∈ rs := fun r hr => by
    obtain ⟨a, ha, rfl⟩ := List.getElem_of_mem hr
    exact List.mem_of_getElem? (hat a ha)
  refine ⟨h.chg, fun r hr => h.ok r (hm r hr), List.pairwise_iff_getElem.2 fun a b la lb hab x hx hx' => ?_, fun r hr => h.own r (hm r hr)⟩
  have h1 := hat a la
  have h2 := hat b lb
  have hne : js[a]'(by omega) ≠ js[b]'(by omega) := fun e => by
    have := (List.getElem_inj hn).1 e
    omega
  obtain ⟨l1, e1⟩ := List.getElem?_eq_some_iff.1 h1
  obtain ⟨l2, e2⟩ := List.getElem?_eq_some_iff.1 h2
  have hs := List.pairwise_iff_getElem.1 h.sep
  rcases Nat.lt_or_gt_of_ne hne with h3 | h3
  · exact hs _ _ l1 l2 h3 x (by rw [e1]; exact hx) (by rw [e2]; exact hx')
  · exact hs _ _ l2 l1 h3 x (by rw [e2]; exact hx') (by rw [e1]; exact hx)
end Go.Proofs.YteabebmlclgakaaGreat
/- KeyK: maps whose keys are keys. No condition. -/
namespace Go.Proofs.YteabebmlclgakaaGreat
set_option linter.unusedSimpArgs false
set_option linter.unusedVariables false
open Go.RowKit
set_option maxRecDepth 100000
set_option maxHeartbeats 2000000
theorem keyK : KEnc Tryz.prog 42 Key.v where
  law := key_law
  reads x := by
    have h1 : ∀ (x : UInt32) (d : Nat), Tryz.prog.keyLits (d + 1) 24 [u32 x] = some [.int .u32 x.toNat] := fun x d => by
      have hw : (Lit.int .u32 (x.toNat : Int)).wf = true := by
        have := x.toNat_lt
        simp [Lit.wf, IntKind.min, IntKind.max, IntKind.signed, IntKind.bits]
        omega
      simp [Program.keyLits, Tryz.underlying24, hw]
    have hf : (Tryz.prog.fieldsOf 42).toList = [((Tryz.prog.fieldsOf 42)[0]?).getD default, ((Tryz.prog.fieldsOf 42)[1]?).getD default] := by kernel_rfl
    have ht : Tryz.prog.underlying 42 = some (.struct (Tryz.prog.fieldsOf 42)) := by kernel_rfl
    have h2 : ∃ L, Tryz.prog.keyLits (Tryz.prog.types.size + 1) 42 [u32 x.ses, u32 x.seq] = some L := by
      obtain ⟨r, hr⟩ := mapM_has (f := fun f : Field => Tryz.prog.keyLits (Tryz.prog.types.size) f.type (([u32 x.ses, u32 x.seq].drop f.offset).take (Tryz.prog.cellsOf f.type))) (Tryz.prog.fieldsOf 42).toList fun f hm => by
        have hsz : Tryz.prog.types.size = (Tryz.prog.types.size - 1) + 1 := by kernel_rfl
        rw [hf] at hm
        rcases List.mem_cons.1 hm with rfl | hm
        · refine ⟨[.int .u32 x.ses.toNat], ?_⟩
          rw [hsz, ← h1 x.ses (Tryz.prog.types.size - 1)]
          rfl
        · rcases List.mem_cons.1 hm with rfl | hm
          · refine ⟨[.int .u32 x.seq.toNat], ?_⟩
            rw [hsz, ← h1 x.seq (Tryz.prog.types.size - 1)]
            rfl
          · cases hm
      refine ⟨r.flatten, ?_⟩
      unfold Program.keyLits
      rw [ht]
      simp only
      rw [if_pos ⟨by kernel_rfl, by kernel_rfl⟩, hr]
      rfl
    obtain ⟨L, hL⟩ := h2
    refine ⟨.string (keyBytes L), ?_⟩
    have hk : (Tryz.prog.keyType 42 && x.v.formed Tryz.prog 42) = true := by kernel_rfl
    unfold keyOf
    rw [ht]
    simp only
    rw [if_pos hk]
    show (Tryz.prog.keyLits (Tryz.prog.types.size + 1) 42 [u32 x.ses, u32 x.seq]).map _ = _
    rw [hL]
    rfl
  inj {x y} h := by
    have h1 : #[u32 x.ses, u32 x.seq] = #[u32 y.ses, u32 y.seq] := by injection h
    obtain ⟨a, b⟩ := x
    obtain ⟨c, d⟩ := y
    simp only [Array.mk.injEq, List.cons.injEq, and_true, Value.int.injEq, true_and] at h1
    have h2 : a = c := UInt32.toNat_inj.1 (by omega)
    have h3 : b = d := UInt32.toNat_inj.1 (by omega)
    rw [h2, h3]
end Go.Proofs.YteabebmlclgakaaGreat
/- TailA: regions whose only call, too, is shown to change nothing that was there; own rows' places. No condition. -/
namespace Go.Proofs.YteabebmlclgakaaGreat
set_option linter.unusedSimpArgs false
set_option linter.unusedVariables false
open Go.RowKit
set_option maxRecDepth 100000
set_option maxHeartbeats 2000000
theorem dr_autoa {P : Program} {T : Tb} (hT : TabOk P T) {n : Nat} {id : Nat} {l : List Oper} {K : Exit → Env → World → Prop} {e : Env} {w : World} (hm : P.follows .mixedOrders = true) (hB : mixTB l.toArray (isHead (heads l 0 [])) (gAt l.toArray) = true)
    (h : xrs T P n l.toArray w.drew (fun _ e' => fnl (tlix l) fun ts => xt T P n l.toArray (gAt l.toArray) (fun e w => K .normal e w) (l.length + 1) ts e' w.drew) l 0 [] [] e) : Dr P n (.region id l.toArray true) K e w := by
  refine dr_of fun rr a hfl hr => ?_
  have M := mixT_of hB
  generalize hp : isHead (heads l 0 []) = p at M
  refine Code.wpIn_mono (Q := QX n (fun ex e w => match ex with | .panic _ => False | .outgrown => False | ex => K ex e w)) ?_ ?_
  · rintro ex a' w' ⟨e', hr', hk⟩
    cases ex <;> first
      | exact ⟨e', hr', hk⟩
      | exact hk.elim
  have hin : ∀ q : Nat → Bool, ∀ i ∈ (List.range l.length).filter q, q i = true ∧ i < l.length := fun q i hi => by
    have := List.mem_filter.1 hi
    exact ⟨this.2, List.mem_range.1 this.1⟩
  have hlen : ∀ l : List Nat, (l.filter p).length + (l.filter fun i => !p i).length = l.length := fun l => by
    induction l with
    | nil => rfl
    | cons x r ih => cases hx : p x <;> simp [hx] <;> omega
  refine region_in hfl (fun _ _ ⟨_, _, h⟩ => h) hm (mix_anyT M (fun c a w ⟨e, _, hk⟩ => hk) _ _ ((List.range l.length).filter p) ((List.range l.length).filter fun i => !p i) (l.length + 1) a _ (by simp) (by have := hlen (List.range l.length); simp at this ⊢; omega)
    (List.pairwise_lt_range.sublist List.filter_sublist) ((List.nodup_range).sublist List.filter_sublist) (fun i hi => ?_) (fun i hi => by simpa using hin p i hi) (fun i hi => by simpa using hin (fun i => !p i) i hi) (fun x y hx => ?_) ?_)
  · have hi' : i < l.length := by simpa using hi
    constructor
    · intro _
      cases hp : p i with
      | true => exact .inl (List.mem_filter.2 ⟨List.mem_range.2 hi', hp⟩)
      | false => exact .inr (List.mem_filter.2 ⟨List.mem_range.2 hi', by simp [hp]⟩)
    · intro _
      simp [hi']
  · rw [getD_replicate_false] at hx; cases hx
  · have e1 := hix_at l 0 [] [] rfl
    simp only [List.nil_append, ← List.range_eq_range'] at e1
    rw [← hp, e1]
    refine xrs_sound hT (sel false (heads l 0 []) l) (fun e a hr h => ?_) l 0 [] [] e a (fun j hj => by simp) rfl hr h
    rw [fnl_eq] at h
    exact xt_sound hT (K := fun e w => K .normal e w) (fun i hi => hi) (fun e a w hr hk => ⟨e, hr, hk⟩) _ _ _ _ _ hr h
theorem own_place {α : Type} {w : World} {enc : α → List Value} {e : TypeId} {sz : Nat} {s : Sl α} (h : (rowR e sz enc s).ok w) : s.l.length = 0 ∨ ∃ b o, s.A = some ⟨b, o, none⟩ := by
  rcases Nat.eq_zero_or_pos s.l.length with h0 | h0
  · exact .inl h0
  · obtain ⟨b, o, x, hA, _⟩ := (rowR_at h).has h0
    exact .inr ⟨b, o, hA⟩
end Go.Proofs.YteabebmlclgakaaGreat
