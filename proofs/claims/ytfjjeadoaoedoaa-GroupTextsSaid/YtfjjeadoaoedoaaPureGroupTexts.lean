/- GroupTexts. -/
import Derived.Test.YtfjjeadoaoedoaaPureGroupMore
set_option linter.unusedVariables false
set_option linter.unusedSimpArgs false
namespace Go.Proofs.Ytfjjeadoaoedoaa.Pure
open Go.RowKit Go.Proofs.Ytfjjeadoaoedoaa.Grp Go.Proofs.Ytfjjeadoaoedoaa.Hand Go.Proofs.Ytfjjeadoaoedoaa.PA Go.Proofs.Ytfjjeadoaoedoaa.PB Go.Proofs.YtfjjeadoaoedoaaW.PrintWords Go.Proofs.YtfjjeadoaoedoaaW.PrintLast Go.Proofs.YtfjjeadoaoedoaaW.PrintMore

theorem beq_mk (l m : List UInt8) : ((⟨l.toArray⟩ : ByteArray).toList == (⟨m.toArray⟩ : ByteArray).toList) = (l == m) := by rw [ByteArray.toList_mk, ByteArray.toList_mk]
theorem GroupTexts : vesperslaw03_GroupTexts.Pure := by
  intro g h wg wh
  have hg := wf16' wg
  have hh := wf16' wh
  refine ⟨200, ?_⟩
  unfold vesperslaw03_GroupTexts.f
  have e1 : ((txt g == txt h) == (g == h)) = true := by
    rw [beq_iff_eq, Bool.eq_iff_iff, beq_iff_eq, beq_iff_eq]
    exact txt_inj hg hh
  have e2 : ((txt g == ([45] : List UInt8)) == (g == 0)) = true := by
    rw [beq_iff_eq, Bool.eq_iff_iff, beq_iff_eq, beq_iff_eq]
    exact txt_zero hg
  have e3 : (((⟨(txt g).toArray⟩ : ByteArray).size : Nat) : Int) = mx 1 (countG g) := by
    rw [← txt_len hg]
    rfl
  rw [alive_true, Option.bind_some, Text_eq hg, Option.bind_some, Text_eq hh, Option.bind_some, if_pos rfl, ByteArray.toList_mk, ByteArray.toList_mk, if_pos e1, gcount_eq g hg, Option.bind_some, if_pos e3, e2]
end Go.Proofs.Ytfjjeadoaoedoaa.Pure
