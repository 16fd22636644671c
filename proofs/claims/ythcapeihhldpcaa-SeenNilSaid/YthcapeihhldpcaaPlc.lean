/- Plc: places of transactions. No condition. -/
import Derived.Test.YthcapeihhldpcaaEq
namespace Go.Proofs.Ythcapeihhldpcaa
set_option linter.unusedSimpArgs false
set_option linter.unusedVariables false
open Go.RowKit
set_option maxRecDepth 100000
set_option maxHeartbeats 2000000

structure Plc where
  h : UInt32
  at' : Int
  deriving DecidableEq
abbrev Plc.c (k : Plc) : List Value := [u32 k.h, i64 k.at']
abbrev Plc.v (k : Plc) : Value := .agg #[u32 k.h, i64 k.at']
theorem el_plc : ElT Try.prog 152 144 2 16 := elt_of (z := .agg #[.int .u32 0, .int .i64 0]) Try.underlying152 (by kernel_rfl) rfl (by omega)
theorem plc_one {l : List Plc} : ∀ x ∈ l, ∀ u ∈ Plc.c x, u.oneCell' = true := fun x _ u hu => by
  rcases List.mem_cons.1 hu with rfl | hu
  · rfl
  rcases List.mem_cons.1 hu with rfl | hu
  · rfl
  · cases hu
theorem eq_plc (x y : Plc) : EqIs Try.prog 144 x.v y.v (decide (x = y)) := eqis_of (fs := Try.prog.fieldsOf 144) (by kernel_rfl) (by kernel_rfl) fun w => by
  have h0 := eqf_cons (P := Try.prog) (w := w) (d := 9999) (xs := #[u32 x.h, i64 x.at']) (ys := #[u32 y.h, i64 y.at']) (f := ((Try.prog.fieldsOf 144)[0]?).getD default) (by decide +kernel) (part_word (n := 1) (by kernel_rfl) (v := u32 x.h) (by kernel_rfl)) (part_word (n := 1) (by kernel_rfl) (v := u32 y.h) (by kernel_rfl))
    (run_equalIn_int w 9998 _ .u32 .u32 _ _ (by kernel_rfl)) (eqf_cons (f := ((Try.prog.fieldsOf 144)[1]?).getD default) (by decide +kernel) (part_word (n := 1) (by kernel_rfl) (v := i64 x.at') (by kernel_rfl)) (part_word (n := 1) (by kernel_rfl) (v := i64 y.at') (by kernel_rfl)) (run_equalIn_int w 9998 _ .i64 .i64 _ _ (by kernel_rfl)) eqf_nil)
  rw [u32_eq] at h0
  have e : (decide (x.h = y.h) && ((x.at' == y.at') && true)) = decide (x = y) := by
    rw [Bool.eq_iff_iff]
    cases x; cases y
    simp
  rw [e] at h0
  exact h0
end Go.Proofs.Ythcapeihhldpcaa
