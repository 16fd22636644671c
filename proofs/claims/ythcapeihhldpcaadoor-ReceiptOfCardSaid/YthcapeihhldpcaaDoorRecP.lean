/- RecP: the receipt of bytes; what a reader has behind some fields. No program in sight. -/
import Derived.Test.YthcapeihhldpcaaDoorRec
import Derived.Test.YthcapeihhldpcaaDoorRead2
namespace Go.Proofs.YthcapeihhldpcaaDoor
set_option linter.unusedSimpArgs false
set_option linter.unusedVariables false
open Go.RowKit
set_option maxRecDepth 100000
set_option maxHeartbeats 2000000

def vecL (n : Nat) (l : List UInt8) : Vector UInt8 n := Vector.ofFn fun i => (l[i.val]?).getD 0
theorem vecL_list {n : Nat} {l : List UInt8} (h : l.length = n) : (vecL n l).toList = l := by
  apply List.ext_getElem?
  intro i
  by_cases hi : i < n
  · rw [List.getElem?_eq_getElem (by simpa using hi), List.getElem?_eq_getElem (by omega)]
    simp [vecL, h, hi]
  · rw [List.getElem?_eq_none (by simp; omega), List.getElem?_eq_none (by omega)]
theorem vecL_nil16 : Hint.c (vecL 16 []) = List.replicate 16 (u8 0) := rfl
theorem vecL_nil32 : Id.c (vecL 32 []) = List.replicate 32 (u8 0) := rfl
/-- what lies at a place -/
abbrev atL (l : List UInt8) (p n : Nat) : List UInt8 := (l.drop p).take n
def rcpOf (l : List UInt8) : Rcp := ⟨UInt32.ofNat (numV (atL l 0 4)), UInt32.ofNat (numV (atL l 4 4)), vecL 16 (atL l 8 16), vecL 32 (atL l 24 32), UInt32.ofNat (numV (atL l 56 4))⟩
theorem numV4 {l : List UInt8} (h : l.length ≤ 4) : numV l < 4294967296 := Nat.lt_of_lt_of_le (numV_lt l) (Nat.le_trans (Nat.pow_le_pow_right (by omega) h) (show 256 ^ 4 ≤ 4294967296 by decide))
theorem atL_len (l : List UInt8) (p n : Nat) : (atL l p n).length ≤ n := by rw [List.length_take]; omega
theorem atL_len' {l : List UInt8} {p n : Nat} (h : p + n ≤ l.length) : (atL l p n).length = n := by rw [List.length_take, List.length_drop]; omega
theorem u32_of {n : Nat} (h : n < 4294967296) : u32 (UInt32.ofNat n) = .int .u32 (n : Int) := by
  show Value.int .u32 ((UInt32.ofNat n).toNat : Int) = _
  rw [UInt32.toNat_ofNat_of_lt' (by simpa using h)]
/-- the numbers' bytes are what was read -/
theorem numB_numV {l : List UInt8} (h : l.length = 4) : numB (numV l) 4 = l := by
  match l, h with
  | [a, b, c, d], _ =>
    have ha := a.toNat_lt; have hb := b.toNat_lt; have hc := c.toNat_lt; have hd := d.toNat_lt
    have e1 : numV [a, b, c, d] = ((a.toNat * 256 + b.toNat) * 256 + c.toNat) * 256 + d.toNat := by simp [numV]
    have key : ∀ (m : Nat) (x : UInt8), m % 256 = x.toNat → UInt8.ofNat m = x := fun m x hx => UInt8.toNat_inj.1 (by rw [UInt8.toNat_ofNat']; exact hx)
    rw [e1]
    show [UInt8.ofNat _, UInt8.ofNat _, UInt8.ofNat _, UInt8.ofNat _] = _
    rw [key _ a (by omega), key _ b (by omega), key _ c (by omega), key _ d (by omega)]
theorem bodyR_of {l : List UInt8} (h : 60 ≤ l.length) : bodyR (rcpOf l) = l.take 60 := by
  have e : ∀ n, n < 4294967296 → (UInt32.ofNat n).toNat = n := fun n hn => UInt32.toNat_ofNat_of_lt' (by simpa using hn)
  unfold bodyR rcpOf
  dsimp only
  rw [e _ (numV4 (atL_len ..)), e _ (numV4 (atL_len ..)), e _ (numV4 (atL_len ..)), numB_numV (atL_len' (by omega)), numB_numV (atL_len' (by omega)), numB_numV (atL_len' (by omega)), vecL_list (atL_len' (by omega)), vecL_list (atL_len' (by omega))]
  have s1 : ∀ (p n m : Nat), atL l p n ++ atL l (p + n) m = atL l p (n + m) := fun p n m => by
    unfold atL
    rw [List.take_add, List.drop_drop]
  rw [s1 0 4 4, s1 0 8 16, s1 0 24 32, s1 0 56 4]
  rfl
/-- what is wrong with a receipt's bytes -/
def chkE (key l : List UInt8) : Nat := if l.length < 92 then 2 else if 92 < l.length then 3 else if signR key (rcpOf l) = l then 0 else 8
def Rcp.z : Rcp := ⟨0, 0, vecL 16 [], vecL 32 [], 0⟩
def chkV (key l : List UInt8) : Rcp := if chkE key l = 0 then rcpOf l else Rcp.z
theorem sign_iff {key l : List UInt8} (h : l.length = 92) : signR key (rcpOf l) = l ↔ (hmacV key (lblR ++ l.take 60)).toList = atL l 60 32 := by
  unfold signR
  rw [bodyR_of (by omega)]
  have e1 : l.take 60 ++ atL l 60 32 = l := by
    unfold atL
    have e2 : (l.drop 60).take 32 = l.drop 60 := List.take_of_length_le (by rw [List.length_drop]; omega)
    rw [e2, List.take_append_drop]
  constructor
  · intro hh
    have h2 : l.take 60 ++ (hmacV key (lblR ++ l.take 60)).toList = l.take 60 ++ atL l 60 32 := hh.trans e1.symm
    exact List.append_cancel_left h2
  · intro hh
    rw [hh, e1]
/-- behind fields of so many bytes -/
def RdSt (l : List UInt8) (P p : Nat) (F : Option Int) : Prop := (F = none ∧ p = P ∧ P ≤ l.length) ∨ (F = some 2 ∧ l.length < P ∧ p ≤ l.length)
theorem RdSt.le {l : List UInt8} {P p : Nat} {F : Option Int} (h : RdSt l P p F) : p ≤ l.length := by rcases h with ⟨_, h1, h2⟩ | ⟨_, _, h2⟩ <;> omega
theorem RdSt.next {l : List UInt8} {P p : Nat} {F : Option Int} (h : RdSt l P p F) (n : Nat) (hn : 1 ≤ n) : RdSt l (P + n) (rdTake l p F n).2.1 (rdTake l p F n).2.2 ∧ (rdTake l p F n).1 = (if P + n ≤ l.length then atL l P n else []) := by
  rcases h with ⟨rfl, rfl, h1⟩ | ⟨rfl, h1, h2⟩
  · rcases Nat.lt_or_ge l.length (p + n) with h3 | h3
    · rw [rdTake_short h3, if_neg (by omega)]
      exact ⟨.inr ⟨rfl, h3, h1⟩, rfl⟩
    · rw [rdTake_yes h3, if_pos h3]
      exact ⟨.inl ⟨rfl, rfl, h3⟩, rfl⟩
  · rw [rdTake_bad, if_neg (by omega)]
    exact ⟨.inr ⟨rfl, by omega, h2⟩, rfl⟩
theorem RdSt.bad {l : List UInt8} {P p : Nat} {F : Option Int} (h : RdSt l P p F) : ∀ e, F = some e → 1 ≤ e ∧ e ≤ 4 := fun e he => by
  rcases h with ⟨h1, _⟩ | ⟨h1, _⟩
  · rw [h1] at he; cases he
  · rw [h1] at he; cases he; exact ⟨by decide, by decide⟩
theorem RdSt.done {l : List UInt8} {p : Nat} {F : Option Int} (h : RdSt l 92 p F) : F.getD (if p = l.length then 0 else 3) = (if l.length < 92 then 2 else if 92 < l.length then 3 else 0) := by
  rcases h with ⟨rfl, rfl, h1⟩ | ⟨rfl, h1, h2⟩
  · by_cases h2 : 92 = l.length
    · rw [if_neg (show ¬ l.length < 92 by omega), if_neg (show ¬ 92 < l.length by omega)]
      exact if_pos h2
    · rw [if_neg (show ¬ l.length < 92 by omega), if_pos (show 92 < l.length by omega)]
      exact if_neg h2
  · rw [if_pos h1]; rfl
end Go.Proofs.YthcapeihhldpcaaDoor
