/- VectorSteps: a view's step, and what is sent, is the document's. -/
import Derived.Test.YtcfloaplbmpoaaaPAx6
import Derived.Test.YtcfloaplbmpoaaaPureVec1
set_option linter.unusedVariables false
set_option linter.unusedSimpArgs false
namespace Go.Proofs.Ytcfloaplbmpoaaa.Pure
open Go.RowKit Go.Proofs.Ytcfloaplbmpoaaa.Grp Go.Proofs.Ytcfloaplbmpoaaa.Hand Go.Proofs.Ytcfloaplbmpoaaa.PA Go.Proofs.Ytcfloaplbmpoaaa.Vec Go.Proofs.YtcfloaplbmpoaaaW.PrintWords Go.Proofs.YtcfloaplbmpoaaaW.PrintLast

theorem steps_tail (o v a f n r g w : Int) (hv : G16 v) (L : List Int) (hL : L.length ≤ 2) : ∀ d : Nat, ∀ (k i : Nat), i + d = L.length → d + 10 < k →
    vesperslaw18_VectorSteps.l0 k n r g w L L (L.length : Int) (i : Int) o v a f = some true := by
  intro d
  induction d with
  | zero =>
    intro k i hi hk
    obtain ⟨k, rfl⟩ : ∃ m, k = m + 1 := ⟨k - 1, by omega⟩
    simp only [vesperslaw18_VectorSteps.l0]
    rw [if_neg (by omega), step_f, Option.bind_some, rstep_eq o v a f n r hv k (by omega), Option.bind_some, sent_f, Option.bind_some, rsent_eq o v a f k (by omega), Option.bind_some, quiet_f, Option.bind_some, rquiet_eq o v a f k (by omega), Option.bind_some, joined_f, Option.bind_some, rjoined_eq, Option.bind_some]
    simp
  | succ d ih =>
    intro k i hi hk
    obtain ⟨k, rfl⟩ : ∃ m, k = m + 1 := ⟨k - 1, by omega⟩
    simp only [vesperslaw18_VectorSteps.l0]
    rw [if_pos (by omega), if_pos (by omega), if_pos (by omega), if_pos (by omega), if_pos trivial, result_f _ _ (by omega), Option.bind_some, rresult_eq _ _ k (by omega), Option.bind_some, if_pos rfl, wrap_id (by omega) (by omega)]
    exact ih k (i + 1) (by omega) (by omega)
theorem VectorSteps : vesperslaw18_VectorSteps.Pure := by
  intro o v a f n r g w _ hv _ _ _ _ _ _
  have hg := wf16 hv
  obtain ⟨k, hk⟩ : ∃ k, k = 100 := ⟨_, rfl⟩
  refine ⟨k + 1, ?_⟩
  have hl := looksR_len o v a f n
  unfold vesperslaw18_VectorSteps.f
  rw [looks_f, Option.bind_some, rlooks_eq o v a f n _ (by omega), Option.bind_some, if_pos rfl, if_pos rfl, show vector_Check.f o v a f = some (checkV o v a f) from rfl, Option.bind_some, rcheck_eq o v a f _ (by omega), Option.bind_some, if_pos rfl, result_f _ _ (by omega), Option.bind_some, rresult_eq _ _ _ (by omega), Option.bind_some, bne_self_eq_false]
  simp only [vesperslaw18_VectorSteps.j0]
  rw [if_neg (by decide)]
  exact steps_tail o v a f n r g w hg _ hl (looksR o v a f n).1.length k 0 (by omega) (by omega)
end Go.Proofs.Ytcfloaplbmpoaaa.Pure
