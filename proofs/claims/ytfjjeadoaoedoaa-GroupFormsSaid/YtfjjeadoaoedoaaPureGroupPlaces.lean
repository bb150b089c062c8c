/- GroupPlaces. -/
import Derived.Test.YtfjjeadoaoedoaaPureGroupRanks
import Derived.Test.YtfjjeadoaoedoaaPBx2
set_option linter.unusedVariables false
set_option linter.unusedSimpArgs false
namespace Go.Proofs.Ytfjjeadoaoedoaa.Pure
open Go.RowKit Go.Proofs.Ytfjjeadoaoedoaa.Grp Go.Proofs.Ytfjjeadoaoedoaa.Hand Go.Proofs.Ytfjjeadoaoedoaa.PA Go.Proofs.Ytfjjeadoaoedoaa.PB Go.Proofs.YtfjjeadoaoedoaaW.PrintWords Go.Proofs.YtfjjeadoaoedoaaW.PrintLast Go.Proofs.YtfjjeadoaoedoaaW.PrintMore

theorem aft_turn : ∀ n : Fin 16, aftL n.val 16 = nodes.drop (n.val + 1) ++ nodes.take (n.val + 1) := by decide +kernel
theorem find_filter (p : Int → Bool) : ∀ l : List Int, l.find? p = (l.filter p)[0]?
  | [] => rfl
  | x :: l => by
    rw [List.find?_cons, List.filter_cons]
    cases h : p x with
    | true => rfl
    | false => simpa using find_filter p l
theorem count_take : ∀ n : Fin 16, nodes.take (n.val + 1) = nodes.filter (fun x => decide (x ≤ (n.val : Int))) := by decide +kernel
/-- What follows a node stands in the list behind all that are not above it, round about. -/
theorem next_at {g : Int} (hg : G16 g) (n : Nat) (hn : n < 16) (hne : listG g ≠ []) :
    nextG g (n : Int) = rd (listG g) ((((listG g).countP (fun x => decide (x ≤ (n : Int)))) % (listG g).length : Nat) : Int) := by
  have ht := count_take ⟨n, hn⟩
  simp only at ht
  have hl : listG g = (nodes.take (n + 1)).filter (hasG g) ++ (nodes.drop (n + 1)).filter (hasG g) := by
    rw [← List.filter_append, List.take_append_drop, listG_eq hg]
  have hc : (listG g).countP (fun x => decide (x ≤ (n : Int))) = ((nodes.take (n + 1)).filter (hasG g)).length := by
    rw [ht, listG_eq hg, List.countP_eq_length_filter, List.filter_filter, List.filter_filter]
    congr 2
    funext x
    exact Bool.and_comm _ _
  have ha := aft_turn ⟨n, hn⟩
  simp only at ha
  have h0 : (listG g).length ≠ 0 := fun e => hne (List.length_eq_zero_iff.1 e)
  rw [nextG_eq hg n hn, hc, ha, find_filter, List.filter_append]
  obtain ⟨A, hA⟩ : ∃ A, (nodes.take (n + 1)).filter (hasG g) = A := ⟨_, rfl⟩
  obtain ⟨B, hB⟩ : ∃ B, (nodes.drop (n + 1)).filter (hasG g) = B := ⟨_, rfl⟩
  rw [hA, hB] at hl
  rw [hA, hB, hl]
  rw [hl, List.length_append] at h0
  rw [List.length_append]
  cases B with
  | nil =>
    have hlt : A.length ≠ 0 := by simpa using h0
    rw [List.append_nil, List.nil_append, List.length_nil, Nat.add_zero, Nat.mod_self, rd_at A 0 (by omega), List.getElem?_eq_getElem (by omega), Option.getD_some]
  | cons y B =>
    rw [List.length_cons, Nat.mod_eq_of_lt (by omega), rd_at _ _ (by simp), List.getElem_append_right (Nat.le_refl _)]
    simp
theorem rank_has {g : Int} (hg : G16 g) (n : Int) : (listG g).countP (fun x => decide (x ≤ n)) = (listG g).countP (fun x => decide (x < n)) + if hasG g n = true then 1 else 0 := by
  have hr := list_rise hg
  rw [← list_contains hg n]
  generalize listG g = l at *
  induction l with
  | nil => rfl
  | cons x l ih =>
    rw [List.pairwise_cons] at hr
    have ih := ih hr.2
    rw [List.countP_cons, List.countP_cons, ih]
    by_cases hx : x = n
    · subst hx
      have : ¬ x ∈ l := fun h => by have := hr.1 x h; omega
      simp [this]
    · have e : ((x :: l).contains n) = (l.contains n) := by
        rw [List.contains_cons]
        have : (n == x) = false := by simpa using fun h : n = x => hx h.symm
        rw [this, Bool.false_or]
      rw [e]
      by_cases h1 : x < n
      · have h2 : x ≤ n := by omega
        simp [h1, h2]; omega
      · have h2 : ¬ x ≤ n := by omega
        simp [h1, h2]
theorem places_tail (g h n : Int) (hg : G16 g) (hh : G16 h) (hn : 0 ≤ n ∧ n < 16) (hne : listG g ≠ []) (k : Nat) (at_ : Int) (hat : at_ = (((listG g).countP (fun x => decide (x ≤ n)) : Nat) : Int)) :
    vesperslaw03_GroupPlaces.j0 (k + 1) g h true n (listG g) at_ = some true := by
  have h0 : (listG g).length ≠ 0 := fun e => hne (List.length_eq_zero_iff.1 e)
  obtain ⟨d, rfl⟩ := Int.eq_ofNat_of_zero_le hn.1
  have hB := and_g16 hg hh
  have hL := andNot_g16 hg hh
  have hbB : ∀ x, hasG (Go.bits .and .u16 g h) x = (hasG g x && hasG h x) := has_both hg hh
  have hbL : ∀ x, hasG (Go.bits .andNot .u16 g h) x = (hasG g x && !hasG h x) := has_less hg hh
  have hnx := next_at hg d (by omega) hne
  obtain ⟨c, hc⟩ : ∃ c, (listG g).countP (fun x => decide (x ≤ (d : Int))) = c := ⟨_, rfl⟩
  rw [hc] at hat hnx
  subst hat
  have e : Int.tmod (c : Int) ((listG g).length : Int) = ((c % (listG g).length : Nat) : Int) := rfl
  have hlt := Nat.mod_lt c (Nat.pos_of_ne_zero h0)
  unfold vesperslaw03_GroupPlaces.j0
  simp only [group_Both.f, group_Less.f, group_Has.f, group_Next.f, Option.bind_some, hasB_eq hB, hasB_eq hL, hasB_eq hg, hasB_eq hh, hbB, hbL, if_true, e]
  rw [if_neg (by omega), if_pos (by omega), if_pos (by omega), if_pos hnx]
  cases hasG g (d : Int) <;> cases hasG h (d : Int) <;> rfl
theorem GroupPlaces : vesperslaw03_GroupPlaces.Pure := by
  intro g h m wg wh wm
  have hg := wf16' wg
  have hh := wf16' wh
  have hm := wf8 wm
  have hl := list_len g
  refine ⟨200, ?_⟩
  unfold vesperslaw03_GroupPlaces.f
  have e : Int.tmod (wrap64 m) 16 = m % 16 := by
    rw [wrap_id (by omega) (by omega), Int.tmod_eq_emod_of_nonneg hm.1]
  obtain ⟨n, hn⟩ : ∃ n, m % 16 = n := ⟨_, rfl⟩
  have hnr : 0 ≤ n ∧ n < 16 := by omega
  rw [alive_true, Option.bind_some, show group_List.f g = some (listG g) from rfl, Option.bind_some, e, hn]
  by_cases h0 : ((listG g).length : Int) = 0
  · have hnil : listG g = [] := List.length_eq_zero_iff.1 (by omega)
    have hz : g = 0 := Classical.byContradiction fun hne => list_ne hg hne hnil
    have hno : ∀ x, hasG g x = false := fun x => by rw [hz]; exact has_zero x
    have e1 : nextG g n = -1 := by
      obtain ⟨d, rfl⟩ := Int.eq_ofNat_of_zero_le hnr.1
      rw [nextG_eq hg d (by omega), List.find?_eq_none.2 (fun x _ => by simp [hno])]
      rfl
    have e2 : rankG g n = 0 := by unfold rankG; rw [hnil]; rfl
    rw [if_pos h0, if_pos rfl, show group_Next.f g n = some (nextG g n) from rfl, Option.bind_some, if_pos e1, grank_eq g n hg, Option.bind_some, e2]
    rfl
  · have hne : listG g ≠ [] := fun h1 => h0 (by rw [h1]; rfl)
    have hr := rank_has hg n
    have hcl := List.countP_le_length (p := fun x => decide (x < n)) (l := listG g)
    rw [if_neg h0, grank_eq g n hg, Option.bind_some, show group_Has.f g n = some (hasG g n) by unfold group_Has.f; rw [hasB_eq hg], Option.bind_some]
    cases hx : hasG g n with
    | true =>
      rw [hx] at hr
      rw [if_pos rfl]
      exact places_tail g h n hg hh hnr hne 199 _ (by unfold rankG; rw [wrap_id (by omega) (by omega), hr]; simp)
    | false =>
      rw [hx] at hr
      rw [if_neg (by simp)]
      exact places_tail g h n hg hh hnr hne 199 _ (by unfold rankG; rw [hr]; simp)
end Go.Proofs.Ytfjjeadoaoedoaa.Pure
