/- GroupNames: the examples of the chapter (closed). -/
import Derived.Test.YtfjjeadoaoedoaaPDx1
namespace Go.Proofs.Ytfjjeadoaoedoaa.Pure
open Go.RowKit Go.Proofs.Ytfjjeadoaoedoaa.Grp Go.Proofs.Ytfjjeadoaoedoaa.Hand Go.Proofs.Ytfjjeadoaoedoaa.PA Go.Proofs.Ytfjjeadoaoedoaa.PB Go.Proofs.Ytfjjeadoaoedoaa.PD Go.Proofs.YtfjjeadoaoedoaaW.PrintWords
set_option maxRecDepth 100000 in
theorem GroupNames : vesperslaw03_GroupNames.Pure := ⟨100, by decide +kernel⟩
end Go.Proofs.Ytfjjeadoaoedoaa.Pure
