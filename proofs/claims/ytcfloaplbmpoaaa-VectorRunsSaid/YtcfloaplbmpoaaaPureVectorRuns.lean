/- VectorRuns: a view that goes on through any slots is the document's, step by step. -/
import Derived.Test.YtcfloaplbmpoaaaPAx7
import Derived.Test.YtcfloaplbmpoaaaPureVec1
set_option linter.unusedVariables false
set_option linter.unusedSimpArgs false
namespace Go.Proofs.Ytcfloaplbmpoaaa.Pure
open Go.RowKit Go.Proofs.Ytcfloaplbmpoaaa.Grp Go.Proofs.Ytcfloaplbmpoaaa.Hand Go.Proofs.Ytcfloaplbmpoaaa.PA Go.Proofs.Ytcfloaplbmpoaaa.Vec Go.Proofs.YtcfloaplbmpoaaaW.PrintWords Go.Proofs.YtcfloaplbmpoaaaW.PrintLast

theorem wrap_u64' {n : Int} (h0 : 0 ≤ n) (h1 : n < 1000) : IntKind.u64.wrap n = n := by
  simp [IntKind.wrap, IntKind.bits, IntKind.signed]
  omega
theorem step_g16 (o : Int) {v : Int} (a f n r : Int) (hv : G16 v) : G16 (stepV o v a f n r).2.1 := by
  have z : G16 0 := ⟨by decide, by decide⟩
  unfold stepV
  by_cases h : mayV o v a f n = true
  · rw [if_pos h]
    by_cases h0 : r = 0
    · rw [if_pos h0]; exact without_g16 hv _
    rw [if_neg h0]
    by_cases h1 : r = 1
    · rw [if_pos h1]; exact without_g16 hv _
    rw [if_neg h1]
    by_cases h2 : r = 2
    · rw [if_pos h2]; exact with_g16 hv _
    rw [if_neg h2]
    by_cases h3 : r = 3
    · rw [if_pos h3]
      by_cases h4 : a = 0
      · rw [if_pos h4]; exact z
      rw [if_neg h4]
      by_cases h5 : a = 1
      · rw [if_pos h5]; exact without_g16 hv _
      rw [if_neg h5]
      exact with_g16 (with_g16 (without_g16 hv _) _) _
    · rw [if_neg h3]; exact z
  · rw [if_neg h]; exact z
theorem same (x y z t : Int) : (!(x == x) || (!(y == y) || (!(z == z) || (!(t == t))))) = false := by simp
theorem j1_false (k : Nat) (own : Int) (l : List Int) (s e i o v a f : Int) : vesperslaw18_VectorRuns.j1 (k + 1) own l s e i false o v a f o v a f = some true := by
  simp only [vesperslaw18_VectorRuns.j1]
  rw [if_neg (by decide)]
  simp
theorem j2_eq (k : Nat) (hk : 8 ≤ k) (own : Int) (l : List Int) (s e i n r o v a f : Int) (hv : G16 v) :
    vesperslaw18_VectorRuns.j2 (k + 1 + 1) own l s e i n r r o v a f o v a f = vesperslaw18_VectorRuns.l0 k own l s e (wrap64 (i + 1)) (stepV o v a f n r).1 (stepV o v a f n r).2.1 (stepV o v a f n r).2.2.1 (stepV o v a f n r).2.2.2.1 (stepV o v a f n r).1 (stepV o v a f n r).2.1 (stepV o v a f n r).2.2.1 (stepV o v a f n r).2.2.2.1 := by
  simp only [vesperslaw18_VectorRuns.j2]
  rw [step_f, Option.bind_some, rstep_eq o v a f n r hv (k + 1) (by omega), Option.bind_some, if_pos rfl, bne_self_eq_false]
  simp only [vesperslaw18_VectorRuns.j3]
  rw [if_neg (by decide), same, if_neg (by decide)]
theorem runs_tail (own : Int) (l : List Int) (s e : Int) (hl : l.length ≤ 60) : ∀ d : Nat, ∀ (k i : Nat) (o v a f : Int), i + d = l.length → 4 * d + 20 < k → G16 v →
    vesperslaw18_VectorRuns.l0 k own l s e (i : Int) o v a f o v a f = some true := by
  intro d
  induction d with
  | zero =>
    intro k i o v a f hi hk hv
    obtain ⟨k, rfl⟩ : ∃ m, k = m + 1 + 1 := ⟨k - 2, by omega⟩
    simp only [vesperslaw18_VectorRuns.l0]
    rw [if_neg (by omega)]
    exact j1_false k own l s e _ o v a f
  | succ d ih =>
    intro k i o v a f hi hk hv
    obtain ⟨k, rfl⟩ : ∃ m, k = m + 1 + 1 + 1 + 1 := ⟨k - 4, by omega⟩
    have hw : wrap64 ((i : Int) + 1) = ((i + 1 : Nat) : Int) := by
      rw [wrap_id (by omega) (by omega)]
      omega
    have next : ∀ (k' : Nat) (o v a f : Int), k ≤ k' → G16 v → vesperslaw18_VectorRuns.l0 k' own l s e (wrap64 ((i : Int) + 1)) o v a f o v a f = some true := by
      intro k' o v a f h1 h2
      rw [hw]
      exact ih k' (i + 1) o v a f (by omega) (by omega) h2
    have hlt : (i : Int) < (l.length : Int) := by omega
    have hk8 : 16 ≤ k := by omega
    clear ih hk hi hw
    simp only [vesperslaw18_VectorRuns.l0]
    rw [if_pos hlt]
    by_cases he : (e == 0) = true
    · rw [he]
      simp only [vesperslaw18_VectorRuns.j1]
      rw [if_pos trivial, if_pos (by rw [wrap_u64' (by omega) (by omega)]; omega)]
      generalize Int.tmod (i : Int) 5 = n
      generalize Go.bits .and .u64 (shr .u64 s (IntKind.u64.wrap (i : Int))) 1 = b
      by_cases hn : n = own
      · rw [if_pos hn]
        by_cases hb : b = 1
        · rw [if_pos hb, quiet_f, Option.bind_some, rquiet_eq o v a f _ (by omega), Option.bind_some, same, if_neg (by decide)]
          exact next _ _ _ _ _ (by omega) (quiet_g16 o a f hv)
        · rw [if_neg hb, sent_f, Option.bind_some, rsent_eq o v a f _ (by omega), Option.bind_some, same, if_neg (by decide)]
          exact next _ _ _ _ _ (by omega) (sent_g16 o a f hv)
      · have hl2 := looksR_len o v a f n
        rw [if_neg hn, looks_f, Option.bind_some, rlooks_eq o v a f n _ (by omega), Option.bind_some, if_pos (by omega), if_pos hlt, result_f _ _ (by omega), Option.bind_some, rresult_eq _ _ _ (by omega), Option.bind_some]
        by_cases hb : b = 1
        · rw [if_pos hb, j2_eq _ (by omega) own l s e _ n 0 o v a f hv]
          exact next _ _ _ _ _ (by omega) (step_g16 o a f n 0 hv)
        · rw [if_neg hb, j2_eq _ (by omega) own l s e _ n _ o v a f hv]
          exact next _ _ _ _ _ (by omega) (step_g16 o a f n _ hv)
    · rw [show (e == 0) = false by simpa using he]
      exact j1_false _ own l s e _ o v a f
theorem VectorRuns : vesperslaw18_VectorRuns.Pure := by
  intro own st l s _ hv _ _ _ _
  have hg := wf16 hv
  obtain ⟨k, hk⟩ : ∃ k, k = 1000 := ⟨_, rfl⟩
  refine ⟨k, ?_⟩
  unfold vesperslaw18_VectorRuns.f
  by_cases hl : (l.length : Int) > 60
  · rw [if_pos hl]
  · rw [if_neg hl, joined_f, Option.bind_some, rjoined_eq, Option.bind_some, if_pos rfl]
    exact runs_tail own l s _ (by omega) l.length k 0 _ _ _ _ (by omega) (by omega) (joined_g16 own hg)
end Go.Proofs.Ytcfloaplbmpoaaa.Pure
