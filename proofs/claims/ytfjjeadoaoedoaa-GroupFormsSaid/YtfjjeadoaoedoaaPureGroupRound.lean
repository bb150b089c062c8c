/- GroupRound. -/
import Derived.Test.YtfjjeadoaoedoaaPureGroupPlaces
import Derived.Test.YtfjjeadoaoedoaaPBx3
set_option linter.unusedVariables false
set_option linter.unusedSimpArgs false
namespace Go.Proofs.Ytfjjeadoaoedoaa.Pure
open Go.RowKit Go.Proofs.Ytfjjeadoaoedoaa.Grp Go.Proofs.Ytfjjeadoaoedoaa.Hand Go.Proofs.Ytfjjeadoaoedoaa.PA Go.Proofs.Ytfjjeadoaoedoaa.PB Go.Proofs.YtfjjeadoaoedoaaW.PrintWords Go.Proofs.YtfjjeadoaoedoaaW.PrintLast Go.Proofs.YtfjjeadoaoedoaaW.PrintMore

/-- Next of the node at a place of the list is the one at the next place, round about. -/
theorem next_place {g : Int} (hg : G16 g) (i : Nat) (h : i < (listG g).length) : nextG g (rd (listG g) (i : Int)) = rd (listG g) (((i + 1) % (listG g).length : Nat) : Int) := by
  have hne : listG g ≠ [] := fun e => by rw [e] at h; simp at h
  have hm : hasG g (rd (listG g) (i : Int)) = true := by
    rw [← mem_list hg, rd_at _ i h]
    exact List.getElem_mem _
  have hr := has_node hm
  have hc := rank_has hg (rd (listG g) (i : Int))
  rw [hm, rd_at _ i h, rank_at (list_rise hg) i h] at hc
  rw [rd_at _ i h] at hr ⊢
  obtain ⟨x, hx⟩ : ∃ x, (listG g)[i] = x := ⟨_, rfl⟩
  rw [hx] at hr hc ⊢
  obtain ⟨d, rfl⟩ := Int.eq_ofNat_of_zero_le hr.1
  rw [next_at hg d (by omega) hne, hc]
  simp
/-- The i-th that one comes to. -/
def seenAt (l : List Int) (p i : Nat) : Int := rd l (((p + i) % l.length : Nat) : Int)
def seenL (l : List Int) (p m : Nat) : List Int := (List.range m).map (seenAt l p)
theorem seenL_succ (l : List Int) (p m : Nat) : seenL l p (m + 1) = seenL l p m ++ [seenAt l p m] := by simp [seenL, List.range_succ]
theorem seenL_len (l : List Int) (p m : Nat) : (seenL l p m).length = m := by simp [seenL]
theorem seen_mem {l : List Int} (p : Nat) (h0 : l ≠ []) (x : Int) : x ∈ seenL l p l.length ↔ x ∈ l := by
  have hn : l.length ≠ 0 := fun e => h0 (List.length_eq_zero_iff.1 e)
  unfold seenL seenAt
  rw [List.mem_map]
  constructor
  · rintro ⟨i, _, rfl⟩
    have := Nat.mod_lt (p + i) (Nat.pos_of_ne_zero hn)
    rw [rd_at _ _ this]
    exact List.getElem_mem _
  · intro hx
    obtain ⟨j, hj, rfl⟩ := List.getElem_of_mem hx
    have hp := Nat.mod_lt p (Nat.pos_of_ne_zero hn)
    refine ⟨(j + (l.length - p % l.length)) % l.length, List.mem_range.2 (Nat.mod_lt _ (Nat.pos_of_ne_zero hn)), ?_⟩
    have e : (p + (j + (l.length - p % l.length)) % l.length) % l.length = j := by
      rw [Nat.add_mod, Nat.mod_mod, ← Nat.add_mod]
      have := Nat.div_add_mod p l.length
      have h2 : p + (j + (l.length - p % l.length)) = j + l.length * (p / l.length + 1) := by
        rw [Nat.mul_add, Nat.mul_one]; omega
      rw [h2, Nat.add_mul_mod_self_left, Nat.mod_eq_of_lt hj]
    rw [e, rd_at _ _ hj]
theorem Of_l0 (l : List Int) (hl : l.length ≤ 1000) : ∀ d, ∀ (k i : Nat) (g : Int), G16 g → i + d = l.length → d < k → (∀ x ∈ l, 0 ≤ x ∧ x < 16) →
    ∃ r, group_Of.l0 k g l (l.length : Int) (i : Int) = some (r, 0) ∧ G16 r ∧ ∀ x, hasG r x = (hasG g x || (l.drop i).contains x) := by
  intro d
  induction d with
  | zero =>
    intro k i g ho hi hk hm
    obtain ⟨k, rfl⟩ : ∃ m, k = m + 1 := ⟨k - 1, by omega⟩
    refine ⟨g, ?_, ho, ?_⟩
    · unfold group_Of.l0
      rw [if_neg (by omega)]
    · intro x
      rw [List.drop_eq_nil_of_le (by omega)]
      simp
  | succ d ih =>
    intro k i g ho hi hk hm
    obtain ⟨k, rfl⟩ : ∃ m, k = m + 1 := ⟨k - 1, by omega⟩
    have hd := rd_drop l i (by omega)
    have hx : rd l (i : Int) ∈ l := List.mem_of_mem_drop (i := i) (by rw [hd]; exact List.mem_cons_self ..)
    have hr := hm _ hx
    have e1 : group_node.f (rd l (i : Int)) = some true := by unfold group_node.f nodeB; simp [hr.1, hr.2]
    have e2 : group_only.f (rd l (i : Int)) = some (onlyG (rd l (i : Int))) := rfl
    unfold group_Of.l0
    rw [if_pos (by omega), if_pos (by omega), if_pos (by omega), e1, Option.bind_some, if_pos rfl, e2, Option.bind_some, wrap_id (by omega) (by omega), show (i : Int) + 1 = ((i + 1 : Nat) : Int) by omega]
    obtain ⟨r, h1, h2, h3⟩ := ih k (i + 1) _ (with_g16 ho (rd l (i : Int))) (by omega) (by omega) hm
    refine ⟨r, h1, h2, fun x => ?_⟩
    rw [h3, has_with ho, hd, List.contains_cons]
    by_cases e : x = rd l (i : Int)
    · subst e; simp [hr]
    · have : (x == rd l (i : Int)) = false := by simpa using e
      simp [e, this]
theorem Of_eq {g : Int} (hg : G16 g) (l : List Int) (hl : l.length ≤ 1000) (hm : ∀ x, x ∈ l ↔ x ∈ listG g) (k : Nat) (hk : l.length < k) : group_Of.f k l = some (g, 0) := by
  obtain ⟨r, h1, h2, h3⟩ := Of_l0 l hl l.length k 0 0 zero16 (by omega) hk (fun x hx => list_nodes x ((hm x).1 hx))
  have : r = g := ext_has h2 hg (fun x _ _ => by
    rw [h3, has_zero, List.drop_zero, Bool.false_or, Bool.eq_iff_iff, List.contains_iff_mem, hm, mem_list hg])
  unfold group_Of.f
  rw [show ((0 : Nat) : Int) = 0 from rfl, this] at h1
  exact h1
theorem round_tail (g : Int) (hg : G16 g) (hne : listG g ≠ []) (p : Nat) (first : Int) (hf : first = seenAt (listG g) p 0) : ∀ d, ∀ (k m : Nat), m + d = (listG g).length → d + 50 < k →
    vesperslaw03_GroupRound.l0 k g true first (seenAt (listG g) p m) (seenL (listG g) p m) ((listG g).length : Int) (m : Int) = some true := by
  have hll := list_len g
  have hn : (listG g).length ≠ 0 := fun e => hne (List.length_eq_zero_iff.1 e)
  intro d
  induction d with
  | zero =>
    intro k m hm hk
    obtain ⟨k, rfl⟩ : ∃ j, k = j + 1 := ⟨k - 1, by omega⟩
    obtain rfl : m = (listG g).length := by omega
    have e1 := Of_eq hg (seenL (listG g) p (listG g).length) (by rw [seenL_len]; omega) (seen_mem p hne) k (by rw [seenL_len]; omega)
    have e2 : seenAt (listG g) p (listG g).length = first := by
      rw [hf]
      unfold seenAt
      rw [Nat.add_mod_right, Nat.add_zero]
    have e3 : group_List.f g = some (listG g) := rfl
    unfold vesperslaw03_GroupRound.l0
    rw [if_neg (by omega), e1, Option.bind_some, if_pos rfl, if_pos e2, if_pos rfl, if_pos rfl, e3, Option.bind_some, seenL_len]
    simp
  | succ d ih =>
    intro k m hm hk
    obtain ⟨k, rfl⟩ : ∃ j, k = j + 1 := ⟨k - 1, by omega⟩
    have hlt := Nat.mod_lt (p + m) (Nat.pos_of_ne_zero hn)
    have hh : group_Has.f g (seenAt (listG g) p m) = some true := by
      unfold group_Has.f
      rw [hasB_eq hg, (mem_list hg _).1]
      unfold seenAt
      rw [rd_at _ _ hlt]
      exact List.getElem_mem _
    have hx : group_Next.f g (seenAt (listG g) p m) = some (seenAt (listG g) p (m + 1)) := by
      unfold group_Next.f seenAt
      rw [next_place hg _ hlt]
      congr 3
      rw [Nat.mod_add_mod]
      rfl
    unfold vesperslaw03_GroupRound.l0
    rw [if_pos (by omega), hh, Option.bind_some, if_pos rfl, if_pos (by rw [seenL_len]; omega), hx, Option.bind_some, ← seenL_succ, wrap_id (by omega) (by omega), show (m : Int) + 1 = ((m + 1 : Nat) : Int) by omega]
    exact ih k (m + 1) (by omega) (by omega)
theorem GroupRound : vesperslaw03_GroupRound.Pure := by
  intro g m wg wm
  have hg := wf16' wg
  have hm := wf8 wm
  have hl := list_len g
  refine ⟨200, ?_⟩
  unfold vesperslaw03_GroupRound.f
  have e : Int.tmod (wrap64 m) 16 = m % 16 := by
    rw [wrap_id (by omega) (by omega), Int.tmod_eq_emod_of_nonneg hm.1]
  obtain ⟨n, hn⟩ : ∃ n, m % 16 = n := ⟨_, rfl⟩
  have hnr : 0 ≤ n ∧ n < 16 := by omega
  rw [alive_true, Option.bind_some, e, hn, show group_Next.f g n = some (nextG g n) from rfl, Option.bind_some]
  obtain ⟨d, rfl⟩ := Int.eq_ofNat_of_zero_le hnr.1
  by_cases h0 : g = 0
  · have e1 : nextG g (d : Int) = -1 := by
      rw [nextG_eq hg d (by omega), List.find?_eq_none.2 (fun x _ => by simp [h0, has_zero])]
      rfl
    rw [if_pos h0, if_pos rfl, e1]
    rfl
  · have hne := list_ne hg h0
    have hnl : (listG g).length ≠ 0 := fun e => hne (List.length_eq_zero_iff.1 e)
    rw [if_neg h0, gcount_eq g hg, Option.bind_some, count_len hg]
    have hf := next_at hg d (by omega) hne
    have hs : nextG g (d : Int) = seenAt (listG g) ((listG g).countP (fun x => decide (x ≤ (d : Int)))) 0 := by
      rw [hf]
      rfl
    have := round_tail g hg hne _ _ hs (listG g).length 200 0 (by omega) (by omega)
    rw [← hs] at this
    exact this
end Go.Proofs.Ytfjjeadoaoedoaa.Pure
