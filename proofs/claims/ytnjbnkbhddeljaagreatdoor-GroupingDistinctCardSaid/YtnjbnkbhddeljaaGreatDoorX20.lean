/- A part of the proof: GdFD. -/
import Derived.Test.YtnjbnkbhddeljaaGreatDoorRows
import Derived.KernelRfl
set_option linter.unusedVariables false
set_option maxRecDepth 100000
namespace Go.Proofs.YtnjbnkbhddeljaaGreatDoor
open Go
theorem factD : (Rows.groupingDistinctRow.named == Tryz.pinned.checked.prog.varsNamed 3) = true := by kernel_rfl
end Go.Proofs.YtnjbnkbhddeljaaGreatDoor
