/- Rdx: readings: an address against nil, a part of a slice, bools apart. No condition. -/
import Derived.Test.YthcapeihhldpcaaSub
import Derived.Test.YthcapeihhldpcaaTailU
namespace Go.Proofs.Ythcapeihhldpcaa
set_option linter.unusedSimpArgs false
set_option linter.unusedVariables false
open Go.RowKit
set_option maxRecDepth 100000
set_option maxHeartbeats 2000000

theorem rd_ptrn {P : Program} {ρ : Operand → Value} {o : Oper} {w : World} {g : Value → Prop} {t t2 e : TypeId} {x y : Operand} (hop : o.op = .binOp .eql t x y t2) {a : Addr} (hx : ρ x = .pointer (some a)) (hy : ρ y = .pointer none) (ht : P.underlying t = some (.pointer e)) (hk : g (.bool false)) : Rd P ρ o w g := by
  refine ⟨_, fun w' _ => ?_, hk⟩
  have hg : eqGuard .eql t x y (ρ x) (ρ y) = pure () := by rw [hx]; exact eqGuard_at_pointer ..
  have h' := (run_eql_of (P := P) (w := w') (t := t) (eqIn_ptr 9999 ht (some a)) (fun op => by cases op <;> rfl)).1
  rw [hx, hy] at hg
  simp only [execOp, hop, hx, hy, hg, Sem.run_bind, Sem.run_pure, Result.andThen_ok, h']
  rfl
theorem rd_cutbb {α : Type} {P : Program} {w : World} {ρ : Operand → Value} {o : Oper} {g : Value → Prop} {t e : TypeId} {sz bytes : Nat} {x lo hi : Operand} (hop : o.op = .slice t x (some lo) (some hi) none) (hE : ElT P t e sz bytes) (s : Sl α) (hx : ρ x = s.v) (hc : s.l.length ≤ s.c) {k k' : IntKind} {m m' : Int} (hl : ρ lo = .int k m) (hh : ρ hi = .int k' m')
    {l h : Nat} (hm : m = l) (hm' : m' = h) (h1 : l ≤ h) (h2 : h ≤ s.l.length) (hk : g (s.cut sz l h).v) : Rd P ρ o w g := by
  subst hm hm'
  obtain ⟨ht, i, z, hi', _, hs, _⟩ := hE
  exact ⟨_, fun w' _ => run_cut hop ht ⟨i, hi', hs⟩ s hx hc ⟨k, hl⟩ ⟨k', hh⟩ h1 h2, hk⟩
theorem rd_bneq {P : Program} {w : World} {ρ : Operand → Value} {o : Oper} {g : Value → Prop} {t t2 : TypeId} {x y : Operand} (hop : o.op = .binOp .neq t x y t2) {a b : Bool} (hx : ρ x = .bool a) (hy : ρ y = .bool b) (ht : P.underlying t = some .bool) (hk : g (.bool (a != b))) : Rd P ρ o w g := by
  refine rd_bin hop (by rw [hx, hy]; simp [eqGuard]) (fun w' => ?_) hk
  rw [hx, hy]
  exact (run_eql_of (P := P) (w := w') (t := t) (x := .bool a) (y := .bool b) (b := a == b) (eqIn_bool 9999 ht a b) (fun op => by cases op <;> rfl)).2
theorem ge_0 (i : Nat) : (true != decide ((i : Int) ≥ 0)) = false := by
  rw [decide_eq_true (Int.natCast_nonneg i)]
  rfl
theorem ge_1 (i : Nat) : decide ((i : Int) ≥ 0) = true := decide_eq_true (Int.natCast_nonneg i)
end Go.Proofs.Ythcapeihhldpcaa
