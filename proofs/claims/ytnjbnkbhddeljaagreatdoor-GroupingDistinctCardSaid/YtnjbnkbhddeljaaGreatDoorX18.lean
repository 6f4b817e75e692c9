/- A part of the proof: GdFB. -/
import Derived.Test.YtnjbnkbhddeljaaGreatDoorRows
import Derived.KernelRfl
set_option linter.unusedVariables false
set_option maxRecDepth 100000
namespace Go.Proofs.YtnjbnkbhddeljaaGreatDoor
open Go
theorem factB : (Rows.groupingDistinctRow.unfollowed == Tryz.pinned.checked.prog.unfollowed 3) = true := by kernel_rfl
end Go.Proofs.YtnjbnkbhddeljaaGreatDoor
