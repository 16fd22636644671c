/- Prt: rows of byte slices. No condition. -/
import Derived.Test.YthcapeihhldpcaaDoorSha3
import Derived.Test.YthcapeihhldpcaaDoorEqI
namespace Go.Proofs.YthcapeihhldpcaaDoor
set_option linter.unusedSimpArgs false
set_option linter.unusedVariables false
open Go.RowKit
set_option maxRecDepth 100000
set_option maxHeartbeats 2000000
theorem el_prt : ElT Tryd.prog 80 22 1 24 := elt_of (z := .slice none 0 0) Tryd.underlying80 (by kernel_rfl) rfl (by omega)
end Go.Proofs.YthcapeihhldpcaaDoor
