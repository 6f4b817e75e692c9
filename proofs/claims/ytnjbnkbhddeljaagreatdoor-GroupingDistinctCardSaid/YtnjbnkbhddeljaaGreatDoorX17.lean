/- A part of the proof: GdFA. -/
import Derived.Test.YtnjbnkbhddeljaaGreatDoorRows
import Derived.KernelRfl
set_option linter.unusedVariables false
set_option maxRecDepth 100000
namespace Go.Proofs.YtnjbnkbhddeljaaGreatDoor
open Go
theorem factA : (Rows.groupingDistinctRow.inPlace == Tryz.pinned.checked.prog.inPlace 3) = true := by kernel_rfl
end Go.Proofs.YtnjbnkbhddeljaaGreatDoor
