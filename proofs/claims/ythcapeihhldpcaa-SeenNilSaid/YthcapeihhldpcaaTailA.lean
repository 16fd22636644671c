/- TailA: regions whose only call, too, is shown to change nothing that was there; own rows' places. No condition. -/
import Derived.Test.YthcapeihhldpcaaTail
import Derived.Test.YthcapeihhldpcaaSlice
namespace Go.Proofs.Ythcapeihhldpcaa
set_option linter.unusedSimpArgs false
set_option linter.unusedVariables false
open Go.RowKit
set_option maxRecDepth 100000
set_option maxHeartbeats 2000000

theorem dr_autoa {P : Program} {T : Tb} (hT : TabOk P T) {n : Nat} {id : Nat} {l : List Oper} {K : Exit → Env → World → Prop} {e : Env} {w : World} (hm : P.follows .mixedOrders = true) (hB : mixTB l.toArray (isHead (heads l 0 [])) (gAt l.toArray) = true)
    (h : xrs T P n l.toArray w.drew (fun _ e' => fnl (tlix l) fun ts => xt T P n l.toArray (gAt l.toArray) (fun e w => K .normal e w) (l.length + 1) ts e' w.drew) l 0 [] [] e) : Dr P n (.region id l.toArray true) K e w := by
  refine dr_of fun rr a hfl hr => ?_
  have M := mixT_of hB
  generalize hp : isHead (heads l 0 []) = p at M
  refine Code.wpIn_mono (Q := QX n (fun ex e w => match ex with | .panic _ => False | .outgrown => False | ex => K ex e w)) ?_ ?_
  · rintro ex a' w' ⟨e', hr', hk⟩
    cases ex <;> first
      | exact ⟨e', hr', hk⟩
      | exact hk.elim
  have hin : ∀ q : Nat → Bool, ∀ i ∈ (List.range l.length).filter q, q i = true ∧ i < l.length := fun q i hi => by
    have := List.mem_filter.1 hi
    exact ⟨this.2, List.mem_range.1 this.1⟩
  have hlen : ∀ l : List Nat, (l.filter p).length + (l.filter fun i => !p i).length = l.length := fun l => by
    induction l with
    | nil => rfl
    | cons x r ih => cases hx : p x <;> simp [hx] <;> omega
  refine region_in hfl (fun _ _ ⟨_, _, h⟩ => h) hm (mix_anyT M (fun c a w ⟨e, _, hk⟩ => hk) _ _ ((List.range l.length).filter p) ((List.range l.length).filter fun i => !p i) (l.length + 1) a _ (by simp) (by have := hlen (List.range l.length); simp at this ⊢; omega)
    (List.pairwise_lt_range.sublist List.filter_sublist) ((List.nodup_range).sublist List.filter_sublist) (fun i hi => ?_) (fun i hi => by simpa using hin p i hi) (fun i hi => by simpa using hin (fun i => !p i) i hi) (fun x y hx => ?_) ?_)
  · have hi' : i < l.length := by simpa using hi
    constructor
    · intro _
      cases hp : p i with
      | true => exact .inl (List.mem_filter.2 ⟨List.mem_range.2 hi', hp⟩)
      | false => exact .inr (List.mem_filter.2 ⟨List.mem_range.2 hi', by simp [hp]⟩)
    · intro _
      simp [hi']
  · rw [getD_replicate_false] at hx; cases hx
  · have e1 := hix_at l 0 [] [] rfl
    simp only [List.nil_append, ← List.range_eq_range'] at e1
    rw [← hp, e1]
    refine xrs_sound hT (sel false (heads l 0 []) l) (fun e a hr h => ?_) l 0 [] [] e a (fun j hj => by simp) rfl hr h
    rw [fnl_eq] at h
    exact xt_sound hT (K := fun e w => K .normal e w) (fun i hi => hi) (fun e a w hr hk => ⟨e, hr, hk⟩) _ _ _ _ _ hr h
theorem own_place {α : Type} {w : World} {enc : α → List Value} {e : TypeId} {sz : Nat} {s : Sl α} (h : (rowR e sz enc s).ok w) : s.l.length = 0 ∨ ∃ b o, s.A = some ⟨b, o, none⟩ := by
  rcases Nat.eq_zero_or_pos s.l.length with h0 | h0
  · exact .inl h0
  · obtain ⟨b, o, x, hA, _⟩ := (rowR_at h).has h0
    exact .inr ⟨b, o, hA⟩
end Go.Proofs.Ythcapeihhldpcaa
