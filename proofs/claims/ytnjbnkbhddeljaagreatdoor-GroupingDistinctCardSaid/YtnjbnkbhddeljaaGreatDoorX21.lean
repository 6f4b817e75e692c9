/- A part of the proof: GdFE. -/
import Derived.Test.YtnjbnkbhddeljaaGreatDoorRows
import Derived.Test.YtnjbnkbhddeljaaGreatDoorX17
import Derived.Test.YtnjbnkbhddeljaaGreatDoorX18
import Derived.Test.YtnjbnkbhddeljaaGreatDoorX19
import Derived.Test.YtnjbnkbhddeljaaGreatDoorX20
import GoSem.ClaimGoes
import Derived.JoinedOf
import Derived.KernelRfl
set_option linter.unusedVariables false
set_option maxRecDepth 100000
namespace Go.Proofs.YtnjbnkbhddeljaaGreatDoor
open Go
theorem facts : joinedFacts Tryz.pinned.checked.prog 3 Tryz.f3 Rows.groupingDistinctSpec Rows.groupingDistinctRow = true := by
 unfold joinedFacts
 rw [factA, factB, factC, factD]
 kernel_rfl
theorem goes_none {P : Program} (h : P.funcs.any Func.goes = false) (f : FuncId) : P.goes f = false := by
 have one : ∀ g : Nat, (P.funcs[g]?).any Func.goes = false := fun g => by
  cases e : P.funcs[g]? with
  | none => rfl
  | some fn =>
   rw [Option.any_some]
   have hm : fn ∈ P.funcs := Array.mem_of_getElem? e
   cases hf : fn.goes with
   | false => rfl
   | true =>
    have : P.funcs.any Func.goes = true := Array.any_eq_true'.2 ⟨fn, hm, hf⟩
    rw [h] at this; cases this
 unfold Program.goes
 rw [h, Bool.and_false, Bool.or_false, List.any_eq_false]
 intro g _
 rw [one g]; simp
theorem goes : false = Rows.groupingDistinctRow.goesBy Tryz.pinned.checked.prog := by
 have h : Tryz.pinned.checked.prog.funcs.any Func.goes = false := by kernel_rfl
 unfold OpenClaim.goesBy Program.goesAt Program.goesFrom
 have e : Rows.groupingDistinctRow.start = .entering := rfl
 rw [e]
 dsimp only
 rw [Bool.or_false]
 cases Tryz.pinned.checked.prog.funcNamed Rows.groupingDistinctRow.func with
 | none => rfl
 | some f => rw [Option.any_some, goes_none h]
end Go.Proofs.YtnjbnkbhddeljaaGreatDoor
