/- DecP: what a payload's bytes are read as, in plain Lean. -/
import Derived.Test.YtcfbdajanjbghaaDoorRead2
import Derived.Test.YtcfbdajanjbghaaDoorPaySameR
namespace Go.Proofs.YtcfbdajanjbghaaDoor
set_option linter.unusedSimpArgs false
set_option linter.unusedVariables false
open Go.RowKit
set_option maxRecDepth 100000
set_option maxHeartbeats 2000000

abbrev TkV := UInt32 × List UInt8
def feeOf (l : List UInt8) : UInt32 := UInt32.ofNat (numV (l.take 4))
def notUp (ts : List TkV) (fee : UInt32) : Bool := match ts.getLast? with
  | some v => decide (fee.toNat ≤ v.1.toNat)
  | none => false
def dec1 (l : List UInt8) (ts : List TkV) : Except Int (TkV × List UInt8) :=
  if l.length < 4 then .error 2 else
  if notUp ts (feeOf l) = true then .error 4 else
  match l.drop 4 with
  | [] => .error 2
  | n :: r => if n.toNat < 1 ∨ 64 < n.toNat then .error 4 else if r.length < n.toNat then .error 2 else .ok ((feeOf l, r.take n.toNat), r.drop n.toNat)
def decA : Nat → List UInt8 → List TkV → Except Int (List TkV × List UInt8)
  | 0, l, ts => .ok (ts, l)
  | k + 1, l, ts => match dec1 l ts with
    | .error e => .error e
    | .ok (t, r) => decA k r (ts ++ [t])
def decE (d : Except Int (List TkV × List UInt8)) : List TkV × Int := match d with
  | .error e => ([], e)
  | .ok (ts, rest) => if rest = [] then (ts, 0) else ([], 3)
def dec (l : List UInt8) : List TkV × Int := match l with
  | [] => ([], 2)
  | m :: r => if m.toNat < 1 ∨ 8 < m.toNat then ([], 4) else decE (decA m.toNat r [])
/-- what a round reads off a reader -/
def stepF (q : List UInt8) (p : Nat) (ts : List TkV) : Option Int :=
  let t := rdTake q p none 4
  if notUp ts (UInt32.ofNat (numV t.1)) = true then t.2.2.or (some 4) else t.2.2
theorem numV_take4 (l : List UInt8) : numV (l.take 4) < 4294967296 := by
  have h1 := numV_lt (l.take 4)
  have h2 : (l.take 4).length ≤ 4 := by rw [List.length_take]; omega
  have h3 : 256 ^ (l.take 4).length ≤ 256 ^ 4 := Nat.pow_le_pow_right (by omega) h2
  have h4 : 256 ^ 4 = 4294967296 := by decide
  omega
theorem step_ok {q : List UInt8} {p : Nat} (ts : List TkV) (hp : p ≤ q.length) :
    let f2 := stepF q p ts
    let c := rdCnt q (rdTake q p none 4).2.1 f2 64
    let b := rdTake q c.2.1 c.2.2 c.1
    match dec1 (q.drop p) ts with
    | .error e => b.2.2 = some e ∧ (e = 2 ∨ e = 4)
    | .ok (t, r) => b.2.2 = none ∧ t = (UInt32.ofNat (numV (rdTake q p none 4).1), b.1) ∧ r = q.drop b.2.1 ∧ b.2.1 ≤ q.length := by
  dsimp only
  unfold dec1 stepF
  by_cases h4 : (q.drop p).length < 4
  · rw [if_pos h4]
    have hs : q.length < p + 4 := by rw [List.length_drop] at h4; omega
    rw [rdTake_short hs]
    dsimp only
    have hf : (if notUp ts (UInt32.ofNat (numV [])) = true then (some (2 : Int)).or (some 4) else some 2) = some 2 := by split <;> rfl
    rw [hf]
    have hc : rdCnt q p (some 2) 64 = (0, p, some 2) := by
      unfold rdCnt
      rw [rdTake_bad]
    rw [hc]
    dsimp only
    rw [rdTake_bad]
    exact ⟨rfl, .inl rfl⟩
  · rw [if_neg h4]
    have hl : p + 4 ≤ q.length := by rw [List.length_drop] at h4; omega
    rw [rdTake_yes hl]
    dsimp only
    have hfee : feeOf (q.drop p) = UInt32.ofNat (numV ((q.drop p).take 4)) := rfl
    rw [← hfee]
    by_cases hn : notUp ts (feeOf (q.drop p)) = true
    · rw [if_pos hn, if_pos hn]
      dsimp only [Option.or]
      have hc : rdCnt q (p + 4) (some 4) 64 = (0, p + 4, some 4) := by
        unfold rdCnt
        rw [rdTake_bad]
      rw [hc]
      dsimp only
      rw [rdTake_bad]
      exact ⟨rfl, .inr rfl⟩
    · rw [if_neg hn, if_neg hn, List.drop_drop]
      rcases hr : q.drop (p + 4) with _ | ⟨n, r⟩
      · have hs : q.length < p + 4 + 1 := by
          have := congrArg List.length hr
          rw [List.length_drop] at this
          simp at this
          omega
        have hc : rdCnt q (p + 4) none 64 = (0, p + 4, some 2) := by
          unfold rdCnt
          rw [rdTake_short hs]
        rw [hc]
        dsimp only
        rw [rdTake_bad]
        exact ⟨rfl, .inl rfl⟩
      · have hlen : r.length + 1 = q.length - (p + 4) := by
          have := congrArg List.length hr
          rw [List.length_drop] at this
          simpa using this.symm
        have hs : p + 4 + 1 ≤ q.length := by omega
        have hr2 : q.drop (p + 4 + 1) = r := by rw [← List.drop_drop, hr]; rfl
        have hv : numV ((q.drop (p + 4)).take 1) = n.toNat := by rw [hr]; simp [numV]
        dsimp only
        by_cases hb : n.toNat < 1 ∨ 64 < n.toNat
        · rw [if_pos hb]
          have hc : rdCnt q (p + 4) none 64 = (0, p + 4 + 1, some 4) := by
            unfold rdCnt
            rw [rdTake_yes hs]
            dsimp only
            rw [hv, if_neg (by omega)]
          rw [hc]
          dsimp only
          rw [rdTake_bad]
          exact ⟨rfl, .inr rfl⟩
        · rw [if_neg hb]
          have hc : rdCnt q (p + 4) none 64 = (n.toNat, p + 4 + 1, none) := by
            unfold rdCnt
            rw [rdTake_yes hs]
            dsimp only
            rw [hv, if_pos (by omega)]
          rw [hc]
          dsimp only
          by_cases hx : r.length < n.toNat
          · rw [if_pos hx, rdTake_short (by omega)]
            exact ⟨rfl, .inl rfl⟩
          · rw [if_neg hx, rdTake_yes (by omega)]
            refine ⟨rfl, ?_, ?_, by show p + 4 + 1 + n.toNat ≤ _; omega⟩
            · dsimp only
              rw [hr2]
            · dsimp only
              rw [← List.drop_drop, hr2]
theorem stepF_bad {q : List UInt8} {p : Nat} {ts : List TkV} : ∀ e, stepF q p ts = some e → e = 2 ∨ e = 4 := by
  intro e
  unfold stepF
  dsimp only
  have h1 : (rdTake q p none 4).2.2 = none ∨ (rdTake q p none 4).2.2 = some 2 := by
    unfold rdTake
    split
    · exact .inl rfl
    · exact .inr rfl
  rcases h1 with h1 | h1 <;> rw [h1] <;> split <;> intro hh <;> simp at hh <;> omega
end Go.Proofs.YtcfbdajanjbghaaDoor
