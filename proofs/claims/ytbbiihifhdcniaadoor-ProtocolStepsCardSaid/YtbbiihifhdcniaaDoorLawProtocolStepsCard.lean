/- The card of ProtocolSteps: its row, with what it lists tied to the program's text by the given tie. -/
import Derived.Test.YtbbiihifhdcniaaDoorLawProtocolSteps
import Derived.Test.YtbbiihifhdcniaaDoorTie
import Derived.Test.YtbbiihifhdcniaaDoorCards
import Derived.SevenTiedAt
namespace Go.Proofs.YtbbiihifhdcniaaDoor
open Go
set_option maxRecDepth 100000
theorem protocolStepsCard_holds : Rows.ProtocolStepsCardSaid :=
  Claim7.holds_tied_plain_at .later [] [.listed, .data] true (true, "d9a2ff555d6720c502904219f58da0e772de11c3bf139a9f0c7a8ea55dc6f100") false
    protocolSteps.proved (fun _ h => by cases h) (by kernel_rfl) (fun _ h => by cases h) protocolSteps_row_tie rfl ⟨rfl, rfl⟩ (by kernel_rfl) rfl
    (fun f fn hf hfn => by
      obtain rfl : f = 3 := Option.some.inj ((show Tryd.prog.funcNamed "vespers/vesperslaw20.ProtocolSteps" = some 3 by kernel_rfl).symm.trans hf) |>.symm
      obtain rfl : fn = Tryd.f3 := (Option.some.inj (Tryd.func3.symm.trans hfn)).symm
      exact ⟨by kernel_rfl, fun j t ht => by
        rw [Tryd.params3] at ht
        have h3 : t = 3 ∨ t = 3 ∨ t = 3 ∨ t = 3 ∨ t = 22 ∨ t = 9 := by
          match j, ht with
          | 0, ht => exact .inl (by simpa using ht.symm)
          | 1, ht => exact .inr (.inl (by simpa using ht.symm))
          | 2, ht => exact .inr (.inr (.inl (by simpa using ht.symm)))
          | 3, ht => exact .inr (.inr (.inr (.inl (by simpa using ht.symm))))
          | 4, ht => exact .inr (.inr (.inr (.inr (.inl (by simpa using ht.symm)))))
          | 5, ht => exact .inr (.inr (.inr (.inr (.inr ((by simpa using ht.symm))))))
          | j + 6, ht => simp at ht
        rcases h3 with rfl | rfl | rfl | rfl | rfl | rfl <;> (show Program.wantsStandIn Tryd.prog _ = false; kernel_rfl)⟩)
    (by kernel_rfl)
#print axioms protocolStepsCard_holds
end Go.Proofs.YtbbiihifhdcniaaDoor
