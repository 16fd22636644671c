/- PayRs: a payload of the call's own. -/
import Derived.Test.YtcfbdajanjbghaaDoorPaySameR
import Derived.Test.YtcfbdajanjbghaaDoorTailA
namespace Go.Proofs.YtcfbdajanjbghaaDoor
set_option linter.unusedSimpArgs false
set_option linter.unusedVariables false
open Go.RowKit
set_option maxRecDepth 100000
set_option maxHeartbeats 2000000

abbrev txR (t : Tier) : Res := rowR 5 1 u8L t.tx
/-- a payload of the call's own -/
abbrev payRs (r : Payload) : List Res := rowR 61 2 Tier.c r :: r.l.map txR
theorem tierL_one {l : List Tier} : ∀ x ∈ l, ∀ u ∈ Tier.c x, u.oneCell' = true := fun x _ u hu => by
  simp only [Tier.c, List.mem_cons, List.not_mem_nil, or_false] at hu
  rcases hu with rfl | rfl <;> rfl
theorem payRs_at {S : Nat → Prop} {w0 w : World} {rs : List Res} {r : Payload} (h : Hp S w0 w rs) (hs : (payRs r).Sublist rs) : PayAt w.heap.size w r :=
  ⟨rowR_at (h.ok _ (hs.subset (List.mem_cons_self ..))), fun t ht => rowR_at (h.ok _ (hs.subset (List.mem_cons_of_mem _ (List.mem_map_of_mem ht))))⟩
theorem few_len {p : Payload} (h : fewP p = true) : p.l.length ≤ 20 ∧ ∀ t ∈ p.l, t.tx.l.length ≤ 200 := ⟨(fewP_at h).2, (fewP_at h).1⟩
theorem payNil_made {w0 w : World} (hc : Chg N0 w0 w) : Made (star (payRs Sl.nil)) w0 w := by
  have h := (Hp.start (S := N0) w0).call0 hc
  have h1 := h.new (Chg.refl _ _) (r := rowR 61 2 Tier.c Sl.nil) (rowR_ok.2 ⟨World.ownsRow_nil w 0 _ _, by simp [Sl.nil]⟩) fun b hb => by have h1 := rowR_dom.1 hb; cases h1
  exact h1.made (.refl _)
theorem Hp.split1 {S : Nat → Prop} {w0 w : World} {a : Res} {R rs : List Res} (h : Hp S w0 w (star (a :: R) :: rs)) : Hp S w0 w (a :: star R :: rs) := by
  have h1 : Hp S w0 w (a :: (R ++ rs)) := h.unfold
  have h2 := (h1.perm (List.perm_middle (l₁ := R) (l₂ := rs) (a := a)).symm).fold R.length
  rw [List.take_left, List.drop_left] at h2
  exact h2.perm (.swap ..)
end Go.Proofs.YtcfbdajanjbghaaDoor
