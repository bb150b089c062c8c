/- The card of PlantextShows: its row, with what it lists tied to the program's text by the given tie. -/
import Derived.Test.YtdpdcpbmdmkaeaaDoorLawPlantextShows
import Derived.Test.YtdpdcpbmdmkaeaaDoorTie
import Derived.Test.YtdpdcpbmdmkaeaaDoorCards
import Derived.SevenTiedAt
namespace Go.Proofs.YtdpdcpbmdmkaeaaDoor
open Go
set_option maxRecDepth 100000
theorem plantextShowsCard_holds : Rows.PlantextShowsCardSaid :=
  Claim7.holds_tied_plain_at .later [] [.data, .data, .data, .listed, .data] true (true, "59bed4b56de5c1949c626d0c1cf13062bf573dc354003137d6511d0ce9653e70") false
    plantextShows.proved (fun _ h => by cases h) (by kernel_rfl) (fun _ h => by cases h) plantextShows_row_tie rfl ⟨rfl, rfl⟩ (by kernel_rfl) rfl
    (fun f fn hf hfn => by
      obtain rfl : f = 3 := Option.some.inj ((show Tryd.prog.funcNamed "vespers/vesperslaw08.PlantextShows" = some 3 by kernel_rfl).symm.trans hf) |>.symm
      obtain rfl : fn = Tryd.f3 := (Option.some.inj (Tryd.func3.symm.trans hfn)).symm
      exact ⟨by kernel_rfl, fun j t ht => by
        rw [Tryd.params3] at ht
        have h3 : t = 23 ∨ t = 9 := by
          match j, ht with
          | 0, ht => exact .inl (by simpa using ht.symm)
          | 1, ht => exact .inr ((by simpa using ht.symm))
          | j + 2, ht => simp at ht
        rcases h3 with rfl | rfl <;> (show Program.wantsStandIn Tryd.prog _ = false; kernel_rfl)⟩)
    (by kernel_rfl)
#print axioms plantextShowsCard_holds
end Go.Proofs.YtdpdcpbmdmkaeaaDoor
