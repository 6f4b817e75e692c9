/- A part of the proof: AeRun. -/
import Derived.Test.YtnjbnkbhddeljaaGreatDoorProg
import Derived.Test.YtnjbnkbhddeljaaGreatDoorX02
import Derived.KernelRfl
set_option linter.unusedVariables false
set_option maxRecDepth 100000
namespace Go.Proofs.YtnjbnkbhddeljaaGreatDoor
open Go Go.AE
def isTrue : Option (Value × St) → Bool
 | some (.bool b, _) => b
 | _ => false
theorem livesRun : isTrue ((ev Tryz.prog 400).call 6 [] St.empty) = true := by kernel_rfl
end Go.Proofs.YtnjbnkbhddeljaaGreatDoor
