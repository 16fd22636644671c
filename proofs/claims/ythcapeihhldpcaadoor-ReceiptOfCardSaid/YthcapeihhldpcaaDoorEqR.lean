/- EqR: equality of receipts; what a receipt's signed bytes read as. -/
import Derived.Test.YthcapeihhldpcaaDoorRecP
import Derived.Test.YthcapeihhldpcaaDoorEqI
namespace Go.Proofs.YthcapeihhldpcaaDoor
set_option linter.unusedSimpArgs false
set_option linter.unusedVariables false
open Go.RowKit
set_option maxRecDepth 100000
set_option maxHeartbeats 2000000

deriving instance DecidableEq for Rcp
theorem eqin_hint (x y : Hint) (w : World) {t : TypeId} (ht : t = 26) : (Op.equalIn 9999 t (.agg x.c.toArray) (.agg y.c.toArray)).run Tryd.prog w = .ok (decide (x = y)) w := by
  subst ht
  have h := run_equalIn_bytes (P := Tryd.prog) w 9997 26 5 16 (by kernel_rfl) Tryd.underlying5 (fun w => by rfl) x.toList y.toList (by simp) (by simp)
  rw [Hint.cells, Hint.cells] at h
  have e : (x.toList == y.toList) = decide (x = y) := by
    rw [Bool.eq_iff_iff]
    simp
  rw [e] at h
  exact h
theorem eqin_id (x y : Id) (w : World) {t : TypeId} (ht : t = 28) : (Op.equalIn 9999 t (.agg x.c.toArray) (.agg y.c.toArray)).run Tryd.prog w = .ok (decide (x = y)) w := by
  subst ht
  have h := run_equalIn_bytes (P := Tryd.prog) w 9997 28 5 32 (by kernel_rfl) Tryd.underlying5 (fun w => by rfl) x.toList y.toList (by simp) (by simp)
  rw [Id.cells, Id.cells] at h
  have e : (x.toList == y.toList) = decide (x = y) := by
    rw [Bool.eq_iff_iff]
    simp
  rw [e] at h
  exact h
theorem rcp_dec (x y : Rcp) : (decide (x.ses = y.ses) && (decide (x.seq = y.seq) && (decide (x.hint = y.hint) && (decide (x.sum = y.sum) && (decide (x.exp = y.exp) && true))))) = decide (x = y) := by
  rw [Bool.eq_iff_iff]
  cases x; cases y
  simp
theorem eq_rcpR (x y : Rcp) : EqIs Tryd.prog 34 x.v y.v (decide (x = y)) := eqis_of (fs := Tryd.prog.fieldsOf 34) (by kernel_rfl) (by kernel_rfl) fun w => by
  have h0 := eqf_cons (P := Tryd.prog) (w := w) (d := 9999) (xs := x.c.toArray) (ys := y.c.toArray) (f := ((Tryd.prog.fieldsOf 34)[0]?).getD default) (by decide +kernel) (part_word (n := 1) (by kernel_rfl) (v := u32 x.ses) (by kernel_rfl)) (part_word (n := 1) (by kernel_rfl) (v := u32 y.ses) (by kernel_rfl)) (run_equalIn_int w 9998 _ .u32 .u32 _ _ (by kernel_rfl))
    (eqf_cons (f := ((Tryd.prog.fieldsOf 34)[1]?).getD default) (by decide +kernel) (part_word (n := 1) (by kernel_rfl) (v := u32 x.seq) (by kernel_rfl)) (part_word (n := 1) (by kernel_rfl) (v := u32 y.seq) (by kernel_rfl)) (run_equalIn_int w 9998 _ .u32 .u32 _ _ (by kernel_rfl))
    (eqf_cons (f := ((Tryd.prog.fieldsOf 34)[2]?).getD default) (by decide +kernel) (part_agg (n := 16) (by kernel_rfl) (ys := x.hint.c.toArray) (by kernel_rfl)) (part_agg (n := 16) (by kernel_rfl) (ys := y.hint.c.toArray) (by kernel_rfl)) (eqin_hint x.hint y.hint w (by kernel_rfl))
    (eqf_cons (f := ((Tryd.prog.fieldsOf 34)[3]?).getD default) (by decide +kernel) (part_agg (n := 32) (by kernel_rfl) (ys := x.sum.c.toArray) (by kernel_rfl)) (part_agg (n := 32) (by kernel_rfl) (ys := y.sum.c.toArray) (by kernel_rfl)) (eqin_id x.sum y.sum w (by kernel_rfl))
    (eqf_cons (f := ((Tryd.prog.fieldsOf 34)[4]?).getD default) (by decide +kernel) (part_word (n := 1) (by kernel_rfl) (v := u32 x.exp) (by kernel_rfl)) (part_word (n := 1) (by kernel_rfl) (v := u32 y.exp) (by kernel_rfl)) (run_equalIn_int w 9998 _ .u32 .u32 _ _ (by kernel_rfl)) eqf_nil))))
  rw [u32_eq, u32_eq, u32_eq, rcp_dec] at h0
  exact h0
theorem eq_rcpP (x y : Rcp) : EqIs Tryd.prog 30 x.v y.v (decide (x = y)) := eqis_of (fs := Tryd.prog.fieldsOf 30) (by kernel_rfl) (by kernel_rfl) fun w => by
  have h0 := eqf_cons (P := Tryd.prog) (w := w) (d := 9999) (xs := x.c.toArray) (ys := y.c.toArray) (f := ((Tryd.prog.fieldsOf 30)[0]?).getD default) (by decide +kernel) (part_word (n := 1) (by kernel_rfl) (v := u32 x.ses) (by kernel_rfl)) (part_word (n := 1) (by kernel_rfl) (v := u32 y.ses) (by kernel_rfl)) (run_equalIn_int w 9998 _ .u32 .u32 _ _ (by kernel_rfl))
    (eqf_cons (f := ((Tryd.prog.fieldsOf 30)[1]?).getD default) (by decide +kernel) (part_word (n := 1) (by kernel_rfl) (v := u32 x.seq) (by kernel_rfl)) (part_word (n := 1) (by kernel_rfl) (v := u32 y.seq) (by kernel_rfl)) (run_equalIn_int w 9998 _ .u32 .u32 _ _ (by kernel_rfl))
    (eqf_cons (f := ((Tryd.prog.fieldsOf 30)[2]?).getD default) (by decide +kernel) (part_agg (n := 16) (by kernel_rfl) (ys := x.hint.c.toArray) (by kernel_rfl)) (part_agg (n := 16) (by kernel_rfl) (ys := y.hint.c.toArray) (by kernel_rfl)) (eqin_hint x.hint y.hint w (by kernel_rfl))
    (eqf_cons (f := ((Tryd.prog.fieldsOf 30)[3]?).getD default) (by decide +kernel) (part_agg (n := 32) (by kernel_rfl) (ys := x.sum.c.toArray) (by kernel_rfl)) (part_agg (n := 32) (by kernel_rfl) (ys := y.sum.c.toArray) (by kernel_rfl)) (eqin_id x.sum y.sum w (by kernel_rfl))
    (eqf_cons (f := ((Tryd.prog.fieldsOf 30)[4]?).getD default) (by decide +kernel) (part_word (n := 1) (by kernel_rfl) (v := u32 x.exp) (by kernel_rfl)) (part_word (n := 1) (by kernel_rfl) (v := u32 y.exp) (by kernel_rfl)) (run_equalIn_int w 9998 _ .u32 .u32 _ _ (by kernel_rfl)) eqf_nil))))
  rw [u32_eq, u32_eq, u32_eq, rcp_dec] at h0
  exact h0
/-- what signed bytes read as -/
theorem numV_numB {n : Nat} (h : n < 4294967296) : numV (numB n 4) = n := by
  have h4 : numB n 4 = [UInt8.ofNat (n / 2 ^ 24), UInt8.ofNat (n / 2 ^ 16), UInt8.ofNat (n / 2 ^ 8), UInt8.ofNat n] := by
    unfold numB be8
    simp
  rw [h4]
  show (((0 * 256 + (UInt8.ofNat (n / 2 ^ 24)).toNat) * 256 + (UInt8.ofNat (n / 2 ^ 16)).toNat) * 256 + (UInt8.ofNat (n / 2 ^ 8)).toNat) * 256 + (UInt8.ofNat n).toNat = n
  simp only [UInt8.toNat_ofNat']
  omega
theorem vecL_of {n : Nat} (x : Vector UInt8 n) : vecL n x.toList = x := Vector.toList_inj.1 (vecL_list (by simp))
theorem at_app {a b c : List UInt8} {p n : Nat} (ha : a.length = p) (hb : b.length = n) : atL (a ++ b ++ c) p n = b := by
  unfold atL
  rw [List.append_assoc, List.drop_append_of_le_length (by omega), List.drop_of_length_le (by omega), List.nil_append, List.take_append_of_le_length (by omega), List.take_of_length_le (by omega)]
theorem rcpOf_sign (k : List UInt8) (x : Rcp) : rcpOf (signR k x) = x := by
  have n1 := numB_len x.ses.toNat 4 (by omega)
  have n2 := numB_len x.seq.toNat 4 (by omega)
  have n3 := numB_len x.exp.toNat 4 (by omega)
  have b1 := x.ses.toNat_lt
  have b2 := x.seq.toNat_lt
  have b3 := x.exp.toNat_lt
  obtain ⟨T, hT⟩ : ∃ T, (hmacV k (lblR ++ bodyR x)).toList = T := ⟨_, rfl⟩
  have hs : signR k x = numB x.ses.toNat 4 ++ numB x.seq.toNat 4 ++ x.hint.toList ++ x.sum.toList ++ numB x.exp.toNat 4 ++ T := by rw [← hT]; rfl
  rw [hs]
  have a0 : atL (numB x.ses.toNat 4 ++ numB x.seq.toNat 4 ++ x.hint.toList ++ x.sum.toList ++ numB x.exp.toNat 4 ++ T) 0 4 = numB x.ses.toNat 4 := by
    have := at_app (a := []) (b := numB x.ses.toNat 4) (c := numB x.seq.toNat 4 ++ (x.hint.toList ++ (x.sum.toList ++ (numB x.exp.toNat 4 ++ T)))) (p := 0) (n := 4) rfl n1
    simpa using this
  have a1 : atL (numB x.ses.toNat 4 ++ numB x.seq.toNat 4 ++ x.hint.toList ++ x.sum.toList ++ numB x.exp.toNat 4 ++ T) 4 4 = numB x.seq.toNat 4 := by
    have := at_app (a := numB x.ses.toNat 4) (b := numB x.seq.toNat 4) (c := x.hint.toList ++ (x.sum.toList ++ (numB x.exp.toNat 4 ++ T))) (p := 4) (n := 4) n1 n2
    simpa using this
  have a2 : atL (numB x.ses.toNat 4 ++ numB x.seq.toNat 4 ++ x.hint.toList ++ x.sum.toList ++ numB x.exp.toNat 4 ++ T) 8 16 = x.hint.toList := by
    have := at_app (a := numB x.ses.toNat 4 ++ numB x.seq.toNat 4) (b := x.hint.toList) (c := x.sum.toList ++ (numB x.exp.toNat 4 ++ T)) (p := 8) (n := 16) (by simp [n1, n2]) (by simp)
    simpa using this
  have a3 : atL (numB x.ses.toNat 4 ++ numB x.seq.toNat 4 ++ x.hint.toList ++ x.sum.toList ++ numB x.exp.toNat 4 ++ T) 24 32 = x.sum.toList := by
    have := at_app (a := numB x.ses.toNat 4 ++ numB x.seq.toNat 4 ++ x.hint.toList) (b := x.sum.toList) (c := numB x.exp.toNat 4 ++ T) (p := 24) (n := 32) (by simp [n1, n2]) (by simp)
    simpa using this
  have a4 : atL (numB x.ses.toNat 4 ++ numB x.seq.toNat 4 ++ x.hint.toList ++ x.sum.toList ++ numB x.exp.toNat 4 ++ T) 56 4 = numB x.exp.toNat 4 := by
    have := at_app (a := numB x.ses.toNat 4 ++ numB x.seq.toNat 4 ++ x.hint.toList ++ x.sum.toList) (b := numB x.exp.toNat 4) (c := T) (p := 56) (n := 4) (by simp [n1, n2]) n3
    simpa using this
  unfold rcpOf
  rw [a0, a1, a2, a3, a4, numV_numB (by omega), numV_numB (by omega), numV_numB (by omega), vecL_of, vecL_of]
  cases x
  simp
theorem chkE_sign (k : List UInt8) (x : Rcp) : chkE k (signR k x) = 0 := by
  have h := signR_len k x
  unfold chkE
  rw [if_neg (by omega), if_neg (by omega), rcpOf_sign, if_pos rfl]
theorem chkV_sign (k : List UInt8) (x : Rcp) : chkV k (signR k x) = x := by
  unfold chkV
  rw [if_pos (chkE_sign k x), rcpOf_sign]
theorem chk_good {k l : List UInt8} (h : chkE k l = 0) : signR k (chkV k l) = l := by
  have h2 : chkV k l = rcpOf l := if_pos h
  rw [h2]
  unfold chkE at h
  split at h
  · cases h
  · split at h
    · cases h
    · split at h
      · assumption
      · cases h
end Go.Proofs.YthcapeihhldpcaaDoor
