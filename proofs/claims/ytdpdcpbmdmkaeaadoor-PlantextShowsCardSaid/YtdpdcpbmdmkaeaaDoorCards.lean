/-
  DERIVED. GIVEN WITH THE SEED: THE CARDS: each row of YtdpdcpbmdmkaeaaDoorRows.lean that lists a variable, with what it lists TIED to the program's text (the seventh form; the later family's looks); each row that meets fmt, with fmt's text TOLD by the authors' own Lean function (tested against real Go, not proved from fmt's source: count such statements apart). THE CARD IS WHAT COUNTS. Prove the row's statement (the work); the ties are given (YtdpdcpbmdmkaeaaDoorTie.lean); close each card by the builder's one call (the guide's Derived/Test/ToyasCard.lean, 'card_holds'). Laid BY PROGRAM, IN A SANDBOX (cutbox-door.mjs). By AI agents, Wed Nov 11 2026. No macro, syntax, notation, axiom, sorry.
-/
import Derived.Test.YtdpdcpbmdmkaeaaDoorRows
import GoSem.ClaimSeven
namespace Go.Proofs.YtdpdcpbmdmkaeaaDoor
namespace Rows

/-- THE TIED CARD OF 'vesperslaw08.PlantextShows'. -/
def plantextShowsCard : Claim7 := { stood := { row := plantextShowsRow, standIns := [], harness := (true, "59bed4b56de5c1949c626d0c1cf13062bf573dc354003137d6511d0ce9653e70"), looks := false }, kinds := [], alts := [], laidByText := true, laidKinds := [.data, .data, .data, .listed, .data], laidTests := true, laidLooks := .later }
def PlantextShowsCardSaid : Prop := Claim7.holds Tryd.pinned (.plain (OpenSpec.ofChange plantextShowsSpec)) plantextShowsCard

/-- THE SECOND FORM's CARD OF 'vesperslaw08.PlantextShows'. -/
def plantextShowsUptoCard : Claim7 := { stood := { row := plantextShowsUptoRow, standIns := [], harness := (true, "59bed4b56de5c1949c626d0c1cf13062bf573dc354003137d6511d0ce9653e70"), looks := false }, kinds := [], alts := [], laidByText := true, laidKinds := [.data, .data, .data, .listed, .data], laidTests := true, laidLooks := .later }
def PlantextShowsUptoCardSaid : Prop := Claim7.holds Tryd.pinned (.plain (OpenSpec.upto plantextShowsSpec)) plantextShowsUptoCard
end Rows
end Go.Proofs.YtdpdcpbmdmkaeaaDoor
