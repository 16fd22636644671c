/- ElId: ids in rows. No condition. -/
import Derived.Test.YthcapeihhldpcaaEqI
namespace Go.Proofs.Ythcapeihhldpcaa
set_option linter.unusedSimpArgs false
set_option linter.unusedVariables false
open Go.RowKit
set_option maxRecDepth 100000
set_option maxHeartbeats 2000000

theorem el_id : ElT Try.prog 56 55 32 32 := elt_of (z := Id.z.v) Try.underlying56 (by kernel_rfl) rfl (by omega)
theorem idL_one {l : List Id} : ∀ x ∈ l, ∀ u ∈ Id.c x, u.oneCell' = true := fun x _ u hu => by
  rw [← (show (Id.c x).toArray.toList = Id.c x from rfl), ← Id.cells] at hu
  simp at hu
  obtain ⟨y, _, rfl⟩ := hu
  rfl
end Go.Proofs.Ythcapeihhldpcaa
