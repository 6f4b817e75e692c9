/- A part of the proof: GdFC. -/
import Derived.Test.YtnjbnkbhddeljaaGreatDoorRows
import Derived.KernelRfl
set_option linter.unusedVariables false
set_option maxRecDepth 100000
namespace Go.Proofs.YtnjbnkbhddeljaaGreatDoor
open Go
theorem factC : (Rows.groupingDistinctRow.recurses == Tryz.pinned.checked.prog.recurses 3) = true := by kernel_rfl
end Go.Proofs.YtnjbnkbhddeljaaGreatDoor
