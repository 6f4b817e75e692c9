/- For every input, grouping.Distinct returns each row once, in well-formed batches, and spills only if there are more different rows than memory. Conditions: none beyond those of the given row (the listed library tables hold what the program text lays). -/
import Derived.Test.YtnjbnkbhddeljaaGreatDoorX16
import Derived.Test.YtnjbnkbhddeljaaGreatDoorX21
import Derived.Test.YtnjbnkbhddeljaaGreatDoorCards
import Derived.Test.YtnjbnkbhddeljaaGreatDoorTie
import Derived.ProofKit
import Derived.SevenTiedAt
set_option linter.unusedVariables false
set_option maxRecDepth 100000
namespace Go.Proofs.YtnjbnkbhddeljaaGreatDoor
open Go Go.ChangeShapes Go.WideShapes Go.ChangeAt Go.RowKit
theorem holds : Rows.GroupingDistinctSaid :=
 OpenClaim.holds_of_wide 3 Tryz.f3 rfl rfl rfl rfl rfl rfl rfl ⟨rfl, rfl, rfl, rfl, rfl⟩ rfl rfl rfl rfl rfl (by kernel_rfl) Tryz.func3 facts
  (of_decide_eq_true (by kernel_rfl)) (by unfold Func.isWrapper; first | (rw [if_pos (by decide +kernel)]; kernel_rfl) | (rw [if_neg (by decide +kernel)]; exact ⟨rfl, rfl⟩))
  (fun os started H enc _ => lifted os started H enc)
theorem groupingDistinct_holds : Rows.GroupingDistinctCardSaid :=
 Claim7.holds_tied_plain_at .later [] [.data, .data, .pinned] true (true, "96a5d98620d1bb5cf769f86527fced63b948dba818e8d573685f95f7d4b56738") true holds (fun _ h => by cases h) (by kernel_rfl) (fun _ h => by cases h) groupingDistinct_row_tie rfl ⟨rfl, rfl⟩ (by kernel_rfl) rfl
  (fun f fn hf hfn => by
   obtain rfl : f = 3 := Option.some.inj ((show Tryz.prog.funcNamed "lamina/laminalaw45.GroupingDistinct" = some 3 by kernel_rfl).symm.trans hf) |>.symm
   obtain rfl : fn = Tryz.f3 := (Option.some.inj (Tryz.func3.symm.trans hfn)).symm;exact ⟨by kernel_rfl, fun j t ht => by
    rw [Tryz.params3] at ht
    have hm : t ∈ [22, 23, 3] := by simpa using Array.mem_of_getElem? ht
    have hall : ([22, 23, 3].all fun u => !Tryz.prog.wantsStandIn u) = true := by kernel_rfl
    exact (show Tryz.prog.wantsStandIn t = false by simpa using List.all_eq_true.1 hall t hm)⟩)
  goes
end Go.Proofs.YtnjbnkbhddeljaaGreatDoor
