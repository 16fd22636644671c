/- Str: bytes as strings, compared, in reading operations. No condition. -/
import Derived.Test.YthcapeihhldpcaaDoorTailU
namespace Go.Proofs.YthcapeihhldpcaaDoor
set_option linter.unusedSimpArgs false
set_option linter.unusedVariables false
open Go.RowKit
set_option maxRecDepth 100000
set_option maxHeartbeats 2000000

theorem rd_b2s {P : Program} {w : World} {ρ : Operand → Value} {o : Oper} {g : Value → Prop} {B : Nat} {e src dst : TypeId} {x : Operand} (hop : o.op = .convert src dst x) {s : Sl UInt8} (h : SlAt B w u8L 1 s) (hs : P.underlying src = some (.slice e)) (he : P.underlying e = some (.int .u8)) (hd : P.underlying dst = some .string) (hx : ρ x = s.v) (hk : g (str s.l)) : Rd P ρ o w g :=
  ⟨str s.l, fun w' hc => by simp only [execOp, hop, Sem.run_bind, hx, run_b2s hs he hd (h.keep hc fun _ hh => hh.elim), Result.andThen_ok, Sem.run_pure], hk⟩
theorem rd_streq {P : Program} {w : World} {ρ : Operand → Value} {o : Oper} {g : Value → Prop} {op : BinOp} {t t2 : TypeId} {x y : Operand} (hop : o.op = .binOp op t x y t2) {a b : List UInt8} (hx : ρ x = str a) (hy : ρ y = str b) (ho : op = .eql ∨ op = .neq) (hk : g (.bool (if op = .eql then decide (a = b) else !decide (a = b)))) : Rd P ρ o w g := by
  have hg : ∀ op, eqGuard op t x y (str a) (str b) = pure () := fun op => by cases op <;> simp [eqGuard]
  rcases ho with rfl | rfl
  · refine rd_bin hop (by rw [hx, hy]; exact hg _) (fun w' => ?_) hk
    simp only [hx, hy, binOp_string_eql, bytes_eq, Sem.run_pure]
    rfl
  · refine rd_bin hop (by rw [hx, hy]; exact hg _) (fun w' => ?_) hk
    simp only [hx, hy, binOp_string_neq, bytes_eq, Sem.run_pure]
    rfl
end Go.Proofs.YthcapeihhldpcaaDoor
