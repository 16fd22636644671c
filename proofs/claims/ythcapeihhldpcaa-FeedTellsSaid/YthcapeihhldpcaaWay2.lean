
/- Way (2): the document's way. -/
import Derived.Test.YthcapeihhldpcaaWay
namespace Go.Proofs.Ythcapeihhldpcaa
set_option linter.unusedSimpArgs false
set_option linter.unusedVariables false
open Go.RowKit
set_option maxRecDepth 100000
set_option maxHeartbeats 2000000

theorem gen_cut {P : Program} {w : World} {ρ : Operand → Value} {o : Oper} {g : Value → World → Prop} {t e : TypeId} {x hi : Operand} (hop : o.op = .slice t x none (some hi) none) {A : Option Addr} {n c : Nat} {q : Nat} (hx : ρ x = .slice A n c) (hh : ρ hi = .int .i64 q) (ht : P.underlying t = some (.slice e)) (hq : q ≤ c) (he : ∃ i, P.info? e = some i)
    (hk : g (.slice A q c) w) : Gen P ρ o w g := by
  obtain ⟨i, hi⟩ := he
  refine gen_v (v := .slice A q c) (w' := w) ?_ hk
  have h1 : (0 : Int) ≤ (q : Int) ∧ (q : Int) ≤ (c : Int) := by omega
  cases A <;> simp [execOp, hop, hx, hh, Instr.sliceAt, Instr.slice, run_underlying ht, Instr.sliceBounds, Instr.sliceBound, asIntOf, h1, sizeOf, typeInfo, hi, Addr.add] <;> (intro hlt; omega)
theorem lineN_in (par : Id → Option Id) : ∀ (n : Nat) (met : List Id) (h y : Id), y ∈ lineN par n met h → y ∈ met ∨ (par y).isSome = true
  | 0, met, h, y, hy => .inl hy
  | n + 1, met, h, y, hy => by
    rw [lineN] at hy
    cases hp : par h with
    | none => rw [hp] at hy; exact .inl hy
    | some p =>
      rw [hp] at hy
      simp only at hy
      split at hy
      · exact .inl hy
      · rcases lineN_in par n (met ++ [h]) p y hy with h1 | h1
        · rcases List.mem_append.1 h1 with h2 | h2
          · exact .inl h2
          · simp at h2
            subst h2
            exact .inr (by rw [hp]; rfl)
        · exact .inr h1
theorem lineB_in {bs : List Blk} {h y : Id} (hy : y ∈ lineB bs h) : ∃ (i : Nat) (z : Blk), fnd bs y = i ∧ bs[i]? = some z := by
  rcases lineN_in _ _ _ _ _ hy with h1 | h1
  · cases h1
  · unfold parB at h1
    split at h1
    · rename_i h0
      obtain ⟨i, hi⟩ : ∃ i : Nat, fnd bs y = i := ⟨(fnd bs y).toNat, by omega⟩
      obtain ⟨z, hz, _⟩ := idxI_get hi
      exact ⟨i, z, hi, hz⟩
    · cases h1
end Go.Proofs.Ythcapeihhldpcaa
