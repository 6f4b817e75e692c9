/-
  DERIVED. GIVEN WITH THE SEED: THE CARDS: each row of YtnjbnkbhddeljaaGreatDoorRows.lean that lists a variable, with what it lists TIED to the program's text (the seventh form; the later family's looks); each row that meets fmt, with fmt's text TOLD by the authors' own Lean function (tested against real Go, not proved from fmt's source: count such statements apart). THE CARD IS WHAT COUNTS. Prove the row's statement (the work); the ties are given (YtnjbnkbhddeljaaGreatDoorTie.lean); close each card by the builder's one call (the guide's Derived/Test/ToyasCard.lean, 'card_holds'). Laid BY PROGRAM, IN A SANDBOX (cutbox-door.mjs). By AI agents, Wed Nov 11 2026. No macro, syntax, notation, axiom, sorry.
-/
import Derived.Test.YtnjbnkbhddeljaaGreatDoorRows
import GoSem.ClaimSeven
namespace Go.Proofs.YtnjbnkbhddeljaaGreatDoor
namespace Rows

/-- THE TIED CARD OF 'laminalaw45.GroupingDistinct'. -/
def groupingDistinctCard : Claim7 := { stood := { row := groupingDistinctRow, standIns := [], harness := (true, "96a5d98620d1bb5cf769f86527fced63b948dba818e8d573685f95f7d4b56738"), looks := true }, kinds := [], alts := [], laidByText := true, laidKinds := [.data, .data, .pinned], laidTests := true, laidLooks := .later }
def GroupingDistinctCardSaid : Prop := Claim7.holds Tryz.pinned (.plain (OpenSpec.ofChange groupingDistinctSpec)) groupingDistinctCard

/-- THE SECOND FORM's CARD OF 'laminalaw45.GroupingDistinct'. -/
def groupingDistinctUptoCard : Claim7 := { stood := { row := groupingDistinctUptoRow, standIns := [], harness := (true, "96a5d98620d1bb5cf769f86527fced63b948dba818e8d573685f95f7d4b56738"), looks := true }, kinds := [], alts := [], laidByText := true, laidKinds := [.data, .data, .pinned], laidTests := true, laidLooks := .later }
def GroupingDistinctUptoCardSaid : Prop := Claim7.holds Tryz.pinned (.plain (OpenSpec.upto groupingDistinctSpec)) groupingDistinctUptoCard
end Rows
end Go.Proofs.YtnjbnkbhddeljaaGreatDoor
