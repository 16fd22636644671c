/- Prt: rows of byte slices. No condition. -/
import Derived.Test.YthcapeihhldpcaaSha3
import Derived.Test.YthcapeihhldpcaaEqI
namespace Go.Proofs.Ythcapeihhldpcaa
set_option linter.unusedSimpArgs false
set_option linter.unusedVariables false
open Go.RowKit
set_option maxRecDepth 100000
set_option maxHeartbeats 2000000
theorem el_prt : ElT Try.prog 242 94 1 24 := elt_of (z := .slice none 0 0) Try.underlying242 (by kernel_rfl) rfl (by omega)
end Go.Proofs.Ythcapeihhldpcaa
