/- CliqueNames: the examples of the chapter are so. -/
import Derived.Test.YtjdojhioifelnaaPBx3
namespace Go.Proofs.Ytjdojhioifelnaa.Pure
open Go.RowKit Go.Proofs.Ytjdojhioifelnaa.Hand Go.Proofs.Ytjdojhioifelnaa.PA Go.Proofs.Ytjdojhioifelnaa.PB Go.Proofs.YtjdojhioifelnaaW.PrintWords Go.Proofs.YtjdojhioifelnaaW.PrintLast

theorem CliqueNames : vesperslaw19_CliqueNames.Pure := by
  show vesperslaw19_CliqueNames.f = some true
  rfl
end Go.Proofs.Ytjdojhioifelnaa.Pure
