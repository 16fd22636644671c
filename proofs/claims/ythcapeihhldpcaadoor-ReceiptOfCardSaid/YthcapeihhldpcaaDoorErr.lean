/- Err: what errors.Is answers of a reader's fault. -/
import Derived.Test.YthcapeihhldpcaaDoorSub
import Derived.Test.YthcapeihhldpcaaDoorTailU
import Derived.Test.YthcapeihhldpcaaDoorEqI
import Derived.Stop.Asserts
import Derived.LaidEql
namespace Go.Proofs.YthcapeihhldpcaaDoor
set_option linter.unusedSimpArgs false
set_option linter.unusedVariables false
open Go.RowKit Go.Stop
set_option maxRecDepth 100000
set_option maxHeartbeats 2000000

/-- an error's number, as an error; a reader's fault, as an error -/
abbrev errI (n : Int) : Value := .iface 31 (.int .i64 n)
abbrev fltI (b : Nat) : Value := .iface 99 (.pointer (some ⟨b, 0, none⟩))
abbrev rtyI (t : Nat) : Value := .iface 136 (.agg #[.pointer (some ⟨1, t, none⟩)])
section
variable {P : Program} {w : World} {ρ : Operand → Value} {o : Oper} {g : Value → World → Prop} {x : Operand}
theorem gen_typeOf {ts : Array TypeId} (hop : o.op = .call { callee := .value (.func 62), args := #[x], argTypes := ts }) {n : Int} (hx : ρ x = errI n) (hf : ρ (.func 62) = .func (.func 62) #[] #[]) (hk : g (rtyI 31) w) : Gen Tryd.prog ρ o w g := by
  refine gen_v (v := rtyI 31) (w' := w) ?_ hk
  simp only [execOp, hop, resolve, List.map_toArray, List.map_cons, List.map_nil, hx, hf]
  kernel_rfl
theorem gen_comparable {ts : Array TypeId} (hop : o.op = .call { callee := .invoke x "Comparable", args := #[], argTypes := ts }) (hx : ρ x = rtyI 31) (hk : g (.bool true) w) : Gen Tryd.prog ρ o w g := by
  refine gen_v (v := .bool true) (w' := w) ?_ hk
  simp only [execOp, hop, resolve, List.map_toArray, List.map_cons, List.map_nil, hx]
  kernel_rfl
theorem gen_unwrap {ts : Array TypeId} (hop : o.op = .call { callee := .invoke x "Unwrap", args := #[], argTypes := ts }) {b : Nat} (hx : ρ x = fltI b) (hk : Cl Tryd.prog 101 #[.pointer (some ⟨b, 0, none⟩)] w g) : Gen Tryd.prog ρ o w g := by
  refine gen_of (r := .ok (.enter 101 #[.pointer (some ⟨b, 0, none⟩)]) w) ?_ hk
  simp only [execOp, hop, resolve, List.map_toArray, List.map_cons, List.map_nil, hx]
  kernel_rfl
theorem gen_mki {t : TypeId} (hop : o.op = .makeInterface t x) {v : Value} (hx : ρ x = v) (hr : (Instr.makeInterface t v).run P w = .ok (.iface t v) w) (hk : g (.iface t v) w) : Gen P ρ o w g :=
  gen_v (by simp only [execOp, hop, hx, Sem.run_bind, hr, Result.andThen_ok, Sem.run_pure]) hk
theorem gen_asr {t a : TypeId} (hop : o.op = .typeAssert x t a true) {v r : Value} (hx : ρ x = v) (hr : ∀ w, (Instr.typeAssert v t a true).run P w = .ok r w) (hk : g r w) : Gen P ρ o w g :=
  gen_v (by simp only [execOp, hop, hx, Sem.run_bind, hr, Result.andThen_ok, Sem.run_pure]) hk
end
theorem noIsE (v : Value) (xT : TypeId) (w : World) : (Instr.typeAssert (.iface 31 v) xT 138 true).run Tryd.prog w = .ok (.tuple #[.nilIface, .bool false]) w := run_typeAssert_lacksB Tryd.underlying138 (by kernel_rfl) (by kernel_rfl) v xT w
theorem noUnwrapE (v : Value) (xT : TypeId) (w : World) : (Instr.typeAssert (.iface 31 v) xT 141 true).run Tryd.prog w = .ok (.tuple #[.nilIface, .bool false]) w := run_typeAssert_lacksB Tryd.underlying141 (by kernel_rfl) (by kernel_rfl) v xT w
theorem noUnwrapsE (v : Value) (xT : TypeId) (w : World) : (Instr.typeAssert (.iface 31 v) xT 143 true).run Tryd.prog w = .ok (.tuple #[.nilIface, .bool false]) w := run_typeAssert_lacksB Tryd.underlying143 (by kernel_rfl) (by kernel_rfl) v xT w
theorem noIsF (v : Value) (xT : TypeId) (w : World) : (Instr.typeAssert (.iface 99 v) xT 138 true).run Tryd.prog w = .ok (.tuple #[.nilIface, .bool false]) w := run_typeAssert_lacksB Tryd.underlying138 (by kernel_rfl) (by kernel_rfl) v xT w
theorem hasUnwrapF (v : Value) (xT : TypeId) (w : World) : (Instr.typeAssert (.iface 99 v) xT 141 true).run Tryd.prog w = .ok (.tuple #[.iface 99 v, .bool true]) w := run_typeAssert_hasB Tryd.underlying141 (by kernel_rfl) v xT w
theorem run_eqi {P : Program} (w : World) {ti tn : TypeId} {ms : Array (String × TypeId)} {i : TypeInfo} {k : IntKind} (a b : Int)
    (hi : P.underlying ti = some (.interface ms)) (hn : P.underlying tn = some (.int k)) (hinfo : P.info? tn = some i) (hcomp : i.comparable = true) :
    (binOp .eql ti (.iface tn (.int k a)) (.iface tn (.int k b))).run P w = .ok (.bool (a == b)) w := by
  have h : ∀ d, (Op.equalIn (d + 2) ti (.iface tn (.int k a)) (.iface tn (.int k b))).run P w = .ok (a == b) w := fun d => by
    simp [Op.equalIn, run_underlying hi, run_underlying hn, typeInfo, hinfo, hcomp]
  simp only [binOp]
  simp [Op.equal, Op.maxDepth, h 9998]
theorem run_eqE (w : World) (a b : Int) : (binOp .eql 74 (errI a) (errI b)).run Tryd.prog w = .ok (.bool (a == b)) w := by
  obtain ⟨i, hi, hc⟩ := Option.map_eq_some_iff.1 (show (Tryd.prog.info? 31).map (·.comparable) = some true by kernel_rfl)
  exact run_eqi w a b Tryd.underlying74 Tryd.underlying31 hi hc
theorem run_eqFE (w : World) (b : Nat) (n : Int) : (binOp .eql 74 (fltI b) (errI n)).run Tryd.prog w = .ok (.bool false) w := run_eql_iface_types _ _ _ _ Tryd.underlying74 (by decide) w
theorem run_eqNE (w : World) (n : Int) : (binOp .eql 74 .nilIface (errI n)).run Tryd.prog w = .ok (.bool false) w := run_eql_iface_nil_left w _ _ Tryd.underlying74
theorem eqi_guard (op : BinOp) (t : TypeId) (x y : Operand) (a b : TypeId) (u v : Value) : eqGuard op t x y (.iface a u) (.iface b v) = pure () := by
  cases op <;> simp [eqGuard]
theorem eqi_guardn (op : BinOp) (t : TypeId) (x y : Operand) (a : TypeId) (u : Value) : eqGuard op t x y .nilIface (.iface a u) = pure () := by
  cases op <;> simp [eqGuard]
theorem eqi_guardr (op : BinOp) (t : TypeId) (x y : Operand) (a : TypeId) (u : Value) : eqGuard op t x y (.iface a u) .nilIface = pure () := by
  cases op <;> simp [eqGuard]
theorem eqi_guard0 (op : BinOp) (t : TypeId) (x : Operand) (v : Value) : eqGuard op t x (.const v) .nilIface .nilIface = pure () := by
  cases op <;> simp [eqGuard]
end Go.Proofs.YthcapeihhldpcaaDoor
