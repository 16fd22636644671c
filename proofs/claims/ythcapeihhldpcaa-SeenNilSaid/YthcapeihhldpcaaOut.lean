/- Out: slices outside what is changed. No condition. -/
import Derived.Test.YthcapeihhldpcaaSub
import Derived.Test.YthcapeihhldpcaaTailU
namespace Go.Proofs.Ythcapeihhldpcaa
set_option linter.unusedSimpArgs false
set_option linter.unusedVariables false
open Go.RowKit
set_option maxRecDepth 100000
set_option maxHeartbeats 2000000

theorem ld_rowat0 {α : Type} {w : World} {enc : α → List Value} {sz b o : Nat} {l : List α} (hr : RowAt w enc sz b o l) {a : Addr} {k : Value → Prop} (i : Nat) (ha : a = ⟨b, o + i * sz, none⟩) {x : α} (hi : l[i]? = some x) {v : Value} (hv : (enc x)[0]? = some v) (hk : k v) : Ld w a k := by
  subst ha
  exact ld_of (hr i x hi 0 v hv) hk
/-- a slice outside some blocks -/
structure SlOut {α : Type} (S : Nat → Prop) (B : Nat) (w : World) (enc : α → List Value) (sz : Nat) (s : Sl α) : Prop where
  at_ : SlAt B w enc sz s
  out : s.l ≠ [] → ∀ b o, s.A = some ⟨b, o, none⟩ → ¬ S b
theorem SlOut.keep {α : Type} {S : Nat → Prop} {B : Nat} {w w' : World} {enc : α → List Value} {sz : Nat} {s : Sl α} (h : SlOut S B w enc sz s) (hc : Chg S w w') : SlAt B w' enc sz s := h.at_.keepS hc h.out
theorem out_row {α : Type} {S : Nat → Prop} {w0 w : World} {rs : List Res} {r : Res} {e : TypeId} {sz : Nat} {enc : α → List Value} {s : Sl α} (h : Hp S w0 w (rowR e sz enc s :: rs)) (hr : r ∈ rs) : SlOut r.dom w.heap.size w enc sz s :=
  ⟨h.row (j := 0) rfl, fun _ k o hA => (List.pairwise_cons.1 h.sep).1 r hr k (rowR_dom.2 (by simp [Sl.v, Value.ownBlock, hA]))⟩
end Go.Proofs.Ythcapeihhldpcaa
