/- VectorNames: the examples of the chapter are so. -/
import Derived.Test.YtcfloaplbmpoaaaPBx3
namespace Go.Proofs.Ytcfloaplbmpoaaa.Pure
open Go.RowKit Go.Proofs.Ytcfloaplbmpoaaa.Hand Go.Proofs.Ytcfloaplbmpoaaa.PA Go.Proofs.Ytcfloaplbmpoaaa.PB Go.Proofs.YtcfloaplbmpoaaaW.PrintWords Go.Proofs.YtcfloaplbmpoaaaW.PrintLast

theorem VectorNames : vesperslaw18_VectorNames.Pure := by
  refine ⟨20, ?_⟩
  show vesperslaw18_VectorNames.f 20 = some true
  decide +kernel
end Go.Proofs.Ytcfloaplbmpoaaa.Pure
