/- ProtocolNames, the plain law: the chapter's examples, computed. -/
import Derived.Test.YtbbiihifhdcniaaDoorPDx1
set_option linter.unusedVariables false
set_option linter.unusedSimpArgs false
namespace Go.Proofs.YtbbiihifhdcniaaDoor.Pure
set_option maxRecDepth 100000
open Go.RowKit Go.Proofs.YtbbiihifhdcniaaDoor.Hand Go.Proofs.YtbbiihifhdcniaaDoor.PA Go.Proofs.YtbbiihifhdcniaaDoor.PD Go.Proofs.YtbbiihifhdcniaaDoorW.PrintWords Go.Proofs.YtbbiihifhdcniaaDoorW.PrintLast
theorem ProtocolNames : vesperslaw20_ProtocolNames.Pure := by
  show ∃ k, vesperslaw20_ProtocolNames.f k = some true
  exact ⟨20, by decide +kernel⟩
end Go.Proofs.YtbbiihifhdcniaaDoor.Pure
