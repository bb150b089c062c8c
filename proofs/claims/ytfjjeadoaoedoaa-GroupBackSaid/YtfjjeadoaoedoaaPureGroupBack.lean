/- GroupBack. -/
import Derived.Test.YtfjjeadoaoedoaaPureGroupRound
import Derived.Test.YtfjjeadoaoedoaaPureGroupParse
import Derived.Test.YtfjjeadoaoedoaaPCx1
set_option linter.unusedVariables false
set_option linter.unusedSimpArgs false
namespace Go.Proofs.Ytfjjeadoaoedoaa.Pure
open Go.RowKit Go.Proofs.Ytfjjeadoaoedoaa.Grp Go.Proofs.Ytfjjeadoaoedoaa.Hand Go.Proofs.Ytfjjeadoaoedoaa.PA Go.Proofs.Ytfjjeadoaoedoaa.PB Go.Proofs.Ytfjjeadoaoedoaa.PC Go.Proofs.YtfjjeadoaoedoaaW.PrintWords Go.Proofs.YtfjjeadoaoedoaaW.PrintLast Go.Proofs.YtfjjeadoaoedoaaW.PrintMore

theorem count_one : ∀ i : Fin 16, nodes.count ((i.val : Nat) : Int) = 1 := by decide +kernel
theorem count_split (p : Int → Bool) (n : Int) : ∀ l : List Int, l.countP (fun x => p x || decide (x = n)) = l.countP (fun x => p x && !decide (x = n)) + l.count n
  | [] => rfl
  | x :: l => by
    rw [List.countP_cons, List.countP_cons, List.count_cons, count_split p n l]
    by_cases h : x = n
    · subst h; simp; omega
    · have h2 : (x == n) = false := by simpa using h
      cases hp : p x <;> simp [h, h2] <;> omega
theorem count_diff {g : Int} (hg : G16 g) {n : Int} (hn : 0 ≤ n ∧ n < 16) : wrap64 (countG (withG g n) - countG (withoutG g n)) = 1 := by
  have h1 := with_g16 hg n
  have h2 := without_g16 hg n
  have e1 : (listG (withG g n)).length = nodes.countP (fun x => hasG g x || decide (x = n)) := by
    rw [listG_eq h1, ← List.countP_eq_length_filter]
    apply List.countP_congr
    intro x hx
    have := nodes_mem.1 hx
    rw [has_with hg]
    simp [this]
  have e2 : (listG (withoutG g n)).length = nodes.countP (fun x => hasG g x && !decide (x = n)) := by
    rw [listG_eq h2, ← List.countP_eq_length_filter]
    apply List.countP_congr
    intro x hx
    rw [has_without hg]
  have e3 : nodes.count n = 1 := by
    obtain ⟨a, rfl⟩ := Int.eq_ofNat_of_zero_le hn.1
    exact count_one ⟨a, by omega⟩
  have e4 := count_split (hasG g) n nodes
  have l1 := list_len (withG g n)
  have l2 := list_len (withoutG g n)
  rw [count_len h1, count_len h2, wrap_id (by omega) (by omega)]
  omega
theorem back_tail (s : ByteArray) (k : Nat) : vesperslaw03_GroupBack.j1 (k + 1) s true false = some true := by
  rw [vesperslaw03_GroupBack.j1, if_neg (by simp)]
  rcases Parse_any s with ⟨g, hg, hs, hp⟩ | ⟨_, hp⟩
  · rw [hp, Option.bind_some, if_pos rfl, if_pos rfl, Text_eq hg, Option.bind_some, hs, beq_self_eq_true]
  · rw [hp, Option.bind_some, if_pos rfl, if_neg (by simp)]
theorem GroupBack : vesperslaw03_GroupBack.Pure := by
  intro g m s wg wm ws
  have hg := wf16' wg
  have hm := wf8 wm
  have hl := list_len g
  refine ⟨200, ?_⟩
  have e : Int.tmod (wrap64 m) 16 = m % 16 := by
    rw [wrap_id (by omega) (by omega), Int.tmod_eq_emod_of_nonneg hm.1]
  obtain ⟨n, hn⟩ : ∃ n, m % 16 = n := ⟨_, rfl⟩
  have hnr : 0 ≤ n ∧ n < 16 := by omega
  have hOf := Of_eq hg (listG g) (by omega) (fun x => Iff.rfl) 200 (by omega)
  have hLi : group_List.f g = some (listG g) := rfl
  unfold vesperslaw03_GroupBack.f
  rw [alive_true, Option.bind_some, hLi, Option.bind_some, hOf, Option.bind_some, Text_eq hg, Option.bind_some, Parse_txt hg, Option.bind_some, if_pos rfl, if_pos rfl, if_pos rfl, if_pos rfl, e, hn]
  by_cases hs : (s.size : Int) > 100
  · rw [decide_eq_true hs]
    rw [vesperslaw03_GroupBack.j0, if_pos rfl, if_pos rfl, if_pos hs, if_pos rfl, beq_self_eq_true]
  · rw [decide_eq_false hs]
    have h1 := with_g16 hg n
    have h2 := without_g16 hg n
    have a1 : group_Has.f g n = some (hasG g n) := by unfold group_Has.f; rw [hasB_eq hg]
    have a2 : group_Has.f (withG g n) n = some true := by unfold group_Has.f; rw [hasB_eq h1, has_with hg]; simp [hnr]
    have a3 : group_Has.f (withoutG g n) n = some false := by unfold group_Has.f; rw [hasB_eq h2, has_without hg]; simp
    have a4 : group_With.f g n = some (withG g n) := rfl
    have a5 : group_Without.f g n = some (withoutG g n) := rfl
    have b1 : hasG g n = (withG g n == g) := by
      rw [Bool.eq_iff_iff, beq_iff_eq]
      refine ⟨fun h => with_id hg h, fun h => ?_⟩
      rw [← h, has_with hg]
      simp [hnr]
    have b2 : hasG g n = !(withoutG g n == g) := by
      rw [Bool.eq_iff_iff, Bool.not_eq_true', beq_eq_false_iff_ne]
      refine ⟨fun h e2 => ?_, fun h => ?_⟩
      · rw [← e2, has_without hg] at h
        simp at h
      · cases hh : hasG g n with
        | true => rfl
        | false => exact absurd (without_id hg hh) h
    have cd := count_diff hg hnr
    have c1 : (hasG g n != (withG g n == g)) = false := by rw [← b1]; simp
    have c2 : (hasG g n == (withoutG g n == g)) = false := by rw [b2]; cases (withoutG g n == g) <;> rfl
    have c3 := gcount_eq _ h1
    have c4 := gcount_eq _ h2
    rw [vesperslaw03_GroupBack.j0, if_neg (by simp), a1, Option.bind_some, a4, Option.bind_some, a5, Option.bind_some, a2, Option.bind_some, if_pos rfl, a3, Option.bind_some, if_neg (by simp), c1, if_neg (by simp), c2, if_neg (by simp), c3, Option.bind_some, c4, Option.bind_some, cd]
    exact back_tail s 198
end Go.Proofs.Ytfjjeadoaoedoaa.Pure
