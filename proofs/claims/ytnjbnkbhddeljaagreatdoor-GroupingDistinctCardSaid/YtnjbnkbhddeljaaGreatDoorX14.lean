/- A part of the proof: GdWA. -/
import Derived.Test.YtnjbnkbhddeljaaGreatDoorRows
import Derived.Lay
import Derived.KernelRfl
set_option linter.unusedVariables false
set_option maxRecDepth 100000
namespace Go.Proofs.YtnjbnkbhddeljaaGreatDoor
open Go
theorem startShaped (os : Os) : ((World.laidAll Tryz.prog os Rows.groupingDistinctRow.laid).forCall (fun _ _ => 0) ⟨#[], #[.slice none 0 0, .slice none 0 0, .int .i64 0], []⟩).Shaped Tryz.checked.prog := World.shaped_of_ZipB (by kernel_rfl) (by kernel_rfl)
end Go.Proofs.YtnjbnkbhddeljaaGreatDoor
