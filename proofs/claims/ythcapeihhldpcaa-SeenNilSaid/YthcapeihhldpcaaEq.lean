/- Eq: equality of the plain types. No condition. -/
import Derived.Test.YthcapeihhldpcaaEqI
namespace Go.Proofs.Ythcapeihhldpcaa
set_option linter.unusedSimpArgs false
set_option linter.unusedVariables false
open Go.RowKit
set_option maxRecDepth 100000
set_option maxHeartbeats 2000000

theorem eq_key (x y : Key) : EqIs Try.prog 93 x.v y.v (decide (x = y)) := eqis_of (fs := Try.prog.fieldsOf 93) (by kernel_rfl) (by kernel_rfl) fun w => by
  have h0 := eqf_cons (P := Try.prog) (w := w) (d := 9999) (xs := #[u32 x.ses, u32 x.seq]) (ys := #[u32 y.ses, u32 y.seq]) (f := ((Try.prog.fieldsOf 93)[0]?).getD default) (by decide +kernel) (part_word (n := 1) (by kernel_rfl) (v := u32 x.ses) (by kernel_rfl)) (part_word (n := 1) (by kernel_rfl) (v := u32 y.ses) (by kernel_rfl))
    (run_equalIn_int w 9998 _ .u32 .u32 _ _ (by kernel_rfl)) (eqf_cons (f := ((Try.prog.fieldsOf 93)[1]?).getD default) (by decide +kernel) (part_word (n := 1) (by kernel_rfl) (v := u32 x.seq) (by kernel_rfl)) (part_word (n := 1) (by kernel_rfl) (v := u32 y.seq) (by kernel_rfl)) (run_equalIn_int w 9998 _ .u32 .u32 _ _ (by kernel_rfl)) eqf_nil)
  rw [u32_eq, u32_eq] at h0
  have e : (decide (x.ses = y.ses) && (decide (x.seq = y.seq) && true)) = decide (x = y) := by
    rw [Bool.eq_iff_iff]
    cases x; cases y
    simp
  rw [e] at h0
  exact h0
end Go.Proofs.Ythcapeihhldpcaa
