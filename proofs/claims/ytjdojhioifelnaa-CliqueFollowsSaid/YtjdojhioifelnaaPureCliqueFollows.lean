/- CliqueFollows: what a slot makes of view and counters is what it makes of the view, and what that says, added. -/
import Derived.Test.YtjdojhioifelnaaPCx4
namespace Go.Proofs.Ytjdojhioifelnaa.Pure
open Go.RowKit Go.Proofs.Ytjdojhioifelnaa.Grp Go.Proofs.Ytjdojhioifelnaa.Hand Go.Proofs.Ytjdojhioifelnaa.PC Go.Proofs.YtjdojhioifelnaaW.PrintWords Go.Proofs.YtjdojhioifelnaaW.PrintLast

theorem aliveC_true : vesperslaw19_alive.f = some true := by decide +kernel
/-- What a view's step says is one of four; an error says nothing and leaves nothing. -/
theorem stepV_says (o v a f n r : Int) : ((stepV o v a f n r).2.2.2.2.2 = 0 ∧ ((stepV o v a f n r).2.2.2.2.1 = 0 ∨ (stepV o v a f n r).2.2.2.2.1 = 1 ∨ (stepV o v a f n r).2.2.2.2.1 = 2 ∨ (stepV o v a f n r).2.2.2.2.1 = 3)) ∨ stepV o v a f n r = (0, 0, 0, 0, 0, 180) := by
  unfold stepV
  repeat' split
  all_goals simp
/-- One thing that a slot says, added. -/
theorem addC_one (p q s : Int) (hs : s = 0 ∨ s = 1 ∨ s = 2 ∨ s = 3) : ((addC p q [s]).2.2 = 0 ∧ (addC p q [s]).1 + (addC p q [s]).2.1 - p - q ≤ 1 ∧ (s = 0 → (addC p q [s]).1 = p ∧ (addC p q [s]).2.1 = q) ∧ inC p = true ∧ inC q = true ∧ inC (addC p q [s]).1 = true ∧ inC (addC p q [s]).2.1 = true) ∨ addC p q [s] = (0, 0, 190) := by
  unfold addC
  split
  · rename_i h1
    rw [if_pos (by rcases hs with rfl | rfl | rfl | rfl <;> rfl)]
    split
    · rename_i h2
      left
      simp only [Bool.and_eq_true] at h1 h2
      refine ⟨rfl, ?_, ?_, h1.1, h1.2, h2.1, h2.2⟩
      · rcases hs with rfl | rfl | rfl | rfl <;> simp [cntC] <;> omega
      · rintro rfl
        simp [cntC]
    · exact .inr rfl
  · exact .inr rfl

theorem Add_one (p q s : Int) : clique_Add.f p q [s] = some (addC p q [s]) := by
  unfold clique_Add.f; rw [if_pos (by simp)]

theorem CliqueFollows : vesperslaw19_CliqueFollows.Pure := by
  intro o v a f p q n r ho hv ha hf hp hq hn hr
  unfold vesperslaw19_CliqueFollows.f
  rw [aliveC_true]
  simp only [Option.bind_some, clique_Follow.f, vector_Step.f, Add_one]
  rcases stepV_says o v a f n r with ⟨hS, hs⟩ | hS
  · generalize stepV o v a f n r = S at hS hs
    obtain ⟨s1, s2, s3, s4, s5, s6⟩ := S
    simp only at hS hs
    subst hS
    rcases addC_one p q s5 hs with ⟨hA, h1, h2, i1, i2, i3, i4⟩ | hA
    · generalize addC p q [s5] = D at hA h1 h2 i3 i4
      obtain ⟨d1, d2, d3⟩ := D
      simp only at hA h1 h2 i3 i4
      subst hA
      have j1 : 0 ≤ p ∧ p ≤ 2147483647 := by simpa [inC] using i1
      have j2 : 0 ≤ q ∧ q ≤ 2147483647 := by simpa [inC] using i2
      have j3 : 0 ≤ d1 ∧ d1 ≤ 2147483647 := by simpa [inC] using i3
      have j4 : 0 ≤ d2 ∧ d2 ≤ 2147483647 := by simpa [inC] using i4
      have e : wrap64 (wrap64 (wrap64 (d1 + d2) - p) - q) = d1 + d2 - p - q := by unfold wrap64; omega
      simp [e, h1]
      intro h0
      exact h2 h0
    · rw [hA]
      simp
  · rw [hS]
    simp

end Go.Proofs.Ytjdojhioifelnaa.Pure
