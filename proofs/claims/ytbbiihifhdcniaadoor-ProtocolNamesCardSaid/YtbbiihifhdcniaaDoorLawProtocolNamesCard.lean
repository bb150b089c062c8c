/- The card of ProtocolNames: its row, with what it lists tied to the program's text by the given tie. -/
import Derived.Test.YtbbiihifhdcniaaDoorLawProtocolNames
import Derived.Test.YtbbiihifhdcniaaDoorTie
import Derived.Test.YtbbiihifhdcniaaDoorCards
import Derived.SevenTiedAt
namespace Go.Proofs.YtbbiihifhdcniaaDoor
open Go
set_option maxRecDepth 100000
theorem protocolNamesCard_holds : Rows.ProtocolNamesCardSaid :=
  Claim7.holds_tied_plain_at .later [] [.listed, .data] true (true, "d9a2ff555d6720c502904219f58da0e772de11c3bf139a9f0c7a8ea55dc6f100") false
    protocolNames.proved (fun _ h => by cases h) (by kernel_rfl) (fun _ h => by cases h) protocolNames_row_tie rfl ⟨rfl, rfl⟩ (by kernel_rfl) rfl
    (fun f fn hf hfn => by
      obtain rfl : f = 4 := Option.some.inj ((show Tryd.prog.funcNamed "vespers/vesperslaw20.ProtocolNames" = some 4 by kernel_rfl).symm.trans hf) |>.symm
      obtain rfl : fn = Tryd.f4 := (Option.some.inj (Tryd.func4.symm.trans hfn)).symm
      exact ⟨by kernel_rfl, fun j t ht => by
        rw [Tryd.params4] at ht
        simp at ht⟩)
    (by kernel_rfl)
#print axioms protocolNamesCard_holds
end Go.Proofs.YtbbiihifhdcniaaDoor
