/- OpenD: the shelf's operations that came in, opened. No condition. -/
import Derived.Test.YtnmnbogdjlkmgaaOpenB
import Derived.Test.YtnmnbogdjlkmgaaShDoes0
namespace Go.Proofs.Ytnmnbogdjlkmgaa
set_option linter.unusedSimpArgs false
set_option linter.unusedVariables false
open Go.RowKit
set_option maxRecDepth 100000
set_option maxHeartbeats 2000000

theorem rdb_op {H : Type} {enc : TypeId × Value → H} {w : World} {cs : List Value} (h : Rdb enc Try.prog w 53 cs) : ∃ x : Opx, cs = x.c ∧ SlAt w.heap.size w u8L 1 x.blob.data := by
  obtain ⟨hl, hf⟩ := rdb_struct (fs := Try.prog.fieldsOf 53) (by kernel_rfl) h
  obtain ⟨n, hn, _⟩ := rdb_int Try.underlying3 (cs := (cs.drop 0).take 1) (hf 0 _ rfl)
  obtain ⟨x, hx, hat⟩ := rdb_blob (cs := (cs.drop 1).take 19) (hf 1 _ rfl)
  have h3 : cs.drop 20 = [] := List.drop_eq_nil_of_le (by rw [hl]; exact Nat.le_of_eq (by kernel_rfl))
  have h1 := drop_split cs 0 1
  rw [drop_split cs (0 + 1) 19, hn, hx, h3, List.drop_zero] at h1
  exact ⟨⟨n, x⟩, h1, hat⟩
end Go.Proofs.Ytnmnbogdjlkmgaa
