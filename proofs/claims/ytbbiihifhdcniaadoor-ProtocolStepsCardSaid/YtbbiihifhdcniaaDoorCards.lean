/-
  DERIVED. GIVEN WITH THE SEED: THE CARDS: each row of YtbbiihifhdcniaaDoorRows.lean that lists a variable, with what it lists TIED to the program's text (the seventh form; the later family's looks); each row that meets fmt, with fmt's text TOLD by the authors' own Lean function (tested against real Go, not proved from fmt's source: count such statements apart). THE CARD IS WHAT COUNTS. Prove the row's statement (the work); the ties are given (YtbbiihifhdcniaaDoorTie.lean); close each card by the builder's one call (the guide's Derived/Test/ToyasCard.lean, 'card_holds'). Laid BY PROGRAM, IN A SANDBOX (cutbox-door.mjs). By AI agents, Wed Nov 11 2026. No macro, syntax, notation, axiom, sorry.
-/
import Derived.Test.YtbbiihifhdcniaaDoorRows
import GoSem.ClaimSeven
namespace Go.Proofs.YtbbiihifhdcniaaDoor
namespace Rows

/-- THE TIED CARD OF 'vesperslaw20.ProtocolSteps'. -/
def protocolStepsCard : Claim7 := { stood := { row := protocolStepsRow, standIns := [], harness := (true, "d9a2ff555d6720c502904219f58da0e772de11c3bf139a9f0c7a8ea55dc6f100"), looks := false }, kinds := [], alts := [], laidByText := true, laidKinds := [.listed, .data], laidTests := true, laidLooks := .later }
def ProtocolStepsCardSaid : Prop := Claim7.holds Tryd.pinned (.plain (OpenSpec.ofChange protocolStepsSpec)) protocolStepsCard

/-- THE TIED CARD OF 'vesperslaw20.ProtocolNames'. -/
def protocolNamesCard : Claim7 := { stood := { row := protocolNamesRow, standIns := [], harness := (true, "d9a2ff555d6720c502904219f58da0e772de11c3bf139a9f0c7a8ea55dc6f100"), looks := false }, kinds := [], alts := [], laidByText := true, laidKinds := [.listed, .data], laidTests := true, laidLooks := .later }
def ProtocolNamesCardSaid : Prop := Claim7.holds Tryd.pinned (.plain (OpenSpec.ofChange protocolNamesSpec)) protocolNamesCard

/-- THE SECOND FORM's CARD OF 'vesperslaw20.ProtocolSteps'. -/
def protocolStepsUptoCard : Claim7 := { stood := { row := protocolStepsUptoRow, standIns := [], harness := (true, "d9a2ff555d6720c502904219f58da0e772de11c3bf139a9f0c7a8ea55dc6f100"), looks := false }, kinds := [], alts := [], laidByText := true, laidKinds := [.listed, .data], laidTests := true, laidLooks := .later }
def ProtocolStepsUptoCardSaid : Prop := Claim7.holds Tryd.pinned (.plain (OpenSpec.upto protocolStepsSpec)) protocolStepsUptoCard

/-- THE SECOND FORM's CARD OF 'vesperslaw20.ProtocolNames'. -/
def protocolNamesUptoCard : Claim7 := { stood := { row := protocolNamesUptoRow, standIns := [], harness := (true, "d9a2ff555d6720c502904219f58da0e772de11c3bf139a9f0c7a8ea55dc6f100"), looks := false }, kinds := [], alts := [], laidByText := true, laidKinds := [.listed, .data], laidTests := true, laidLooks := .later }
def ProtocolNamesUptoCardSaid : Prop := Claim7.holds Tryd.pinned (.plain (OpenSpec.upto protocolNamesSpec)) protocolNamesUptoCard
end Rows
end Go.Proofs.YtbbiihifhdcniaaDoor
