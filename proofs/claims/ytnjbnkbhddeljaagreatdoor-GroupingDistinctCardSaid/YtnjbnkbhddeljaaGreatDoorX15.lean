/- A part of the proof: GdWB. -/
import Derived.Test.YtnjbnkbhddeljaaGreatDoorRows
import Derived.Lay
import Derived.MakeChecks
import Derived.KernelRfl
set_option linter.unusedVariables false
set_option maxRecDepth 100000
namespace Go.Proofs.YtnjbnkbhddeljaaGreatDoor
open Go
theorem startMet (os : Os) : laidMetH Tryz.prog Rows.groupingDistinctRow.laid ((World.laidAll Tryz.prog os Rows.groupingDistinctRow.laid).forCall (fun _ _ => 0) ⟨#[], #[.slice none 0 0, .slice none 0 0, .int .i64 0], []⟩).memory := by
 rw [MakeChecks.laidMetH_plain _ _ _ (by kernel_rfl)]
 exact laidMet_laidAll _ (by kernel_rfl) (by kernel_rfl)
theorem own : ownKnob Tryz.prog.godebug = none := by kernel_rfl
theorem laidOut : laidOutB Tryz.prog = true := by kernel_rfl
end Go.Proofs.YtnjbnkbhddeljaaGreatDoor
