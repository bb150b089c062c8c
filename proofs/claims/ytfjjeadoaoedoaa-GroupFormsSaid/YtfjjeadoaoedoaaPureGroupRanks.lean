/- GroupRanks. -/
import Derived.Test.YtfjjeadoaoedoaaPureGroupMore
set_option linter.unusedVariables false
set_option linter.unusedSimpArgs false
namespace Go.Proofs.Ytfjjeadoaoedoaa.Pure
open Go.RowKit Go.Proofs.Ytfjjeadoaoedoaa.Grp Go.Proofs.Ytfjjeadoaoedoaa.Hand Go.Proofs.Ytfjjeadoaoedoaa.PA Go.Proofs.Ytfjjeadoaoedoaa.PB Go.Proofs.YtfjjeadoaoedoaaW.PrintWords Go.Proofs.YtfjjeadoaoedoaaW.PrintLast Go.Proofs.YtfjjeadoaoedoaaW.PrintMore

theorem has_or {a b : Int} (ha : G16 a) (hb : G16 b) (x : Int) : hasG (Go.bits .or .u16 a b) x = (hasG a x || hasG b x) := by
  unfold hasG
  rw [tb_or ha hb]
  cases decide (0 ≤ x) <;> cases decide (x < 16) <;> simp
theorem rd_at (l : List Int) (i : Nat) (h : i < l.length) : rd l (i : Int) = l[i] := by
  unfold rd
  rw [Int.toNat_natCast, List.getD_eq_getElem?_getD, List.getElem?_eq_getElem h, Option.getD_some]
/-- In a list that rises, as many lie below its i-th as stand ahead of it. -/
theorem rank_at {l : List Int} (hl : l.Pairwise (· < ·)) (i : Nat) (h : i < l.length) : l.countP (fun x => decide (x < l[i])) = i := by
  have hs : l = l.take i ++ l[i] :: l.drop (i + 1) := by rw [← List.drop_eq_getElem_cons h, List.take_append_drop]
  have hp := hl
  rw [hs, List.pairwise_append, List.pairwise_cons] at hp
  obtain ⟨_, ⟨h1, _⟩, h2⟩ := hp
  have e1 : (l.take i).countP (fun x => decide (x < l[i])) = i := by
    rw [List.countP_eq_length.2 (fun x hx => decide_eq_true (h2 x hx l[i] (List.mem_cons_self ..))), List.length_take]
    omega
  have e2 : (l.drop (i + 1)).countP (fun x => decide (x < l[i])) = 0 := List.countP_eq_zero.2 (fun x hx => by have := h1 x hx; simp; omega)
  have e3 : l.countP (fun x => decide (x < l[i])) = (l.take i ++ l[i] :: l.drop (i + 1)).countP (fun x => decide (x < l[i])) := congrArg (fun m => List.countP (fun x => decide (x < l[i])) m) hs
  rw [e3, List.countP_append, List.countP_cons, e1, e2]
  simp
theorem ranks_tail (a b : Int) (ha : G16 a) (hb : G16 b) : ∀ (d k i : Nat), i + d = (listG a).length → d + 50 < k → vesperslaw03_GroupRanks.l0 k a b true (listG a) ((listG a).length : Int) (i : Int) = some true := by
  intro d
  induction d with
  | zero =>
    intro k i hi hk
    obtain ⟨k, rfl⟩ : ∃ m, k = m + 1 := ⟨k - 1, by omega⟩
    have hB := and_g16 ha hb
    have hL := andNot_g16 ha hb
    have hbB : ∀ x, hasG (Go.bits .and .u16 a b) x = (hasG a x && hasG b x) := has_both ha hb
    have hbL : ∀ x, hasG (Go.bits .andNot .u16 a b) x = (hasG a x && !hasG b x) := has_less ha hb
    have e1 : Go.bits .or .u16 (Go.bits .and .u16 a b) (Go.bits .andNot .u16 a b) = a := ext_has (or_g16 hB hL) ha (fun x _ _ => by
      rw [has_or hB hL, hbB, hbL]
      cases hasG a x <;> cases hasG b x <;> rfl)
    have e2 : Go.bits .and .u16 (Go.bits .and .u16 a b) (Go.bits .andNot .u16 a b) = 0 := ext_has (and_g16 hB hL) zero16 (fun x _ _ => by
      have := has_both hB hL x
      unfold bothG at this
      rw [this, hbB, hbL, has_zero]
      cases hasG a x <;> cases hasG b x <;> rfl)
    have e3 : Go.bits .and .u16 b a = Go.bits .and .u16 a b := ext_has (and_g16 hb ha) hB (fun x _ _ => by
      have := has_both hb ha x
      unfold bothG at this
      rw [this, hbB, Bool.and_comm])
    have hll := list_len a
    have e4 : wrap64 (countG (Go.bits .and .u16 a b) + countG (Go.bits .andNot .u16 a b)) = ((listG a).length : Int) := by
      have c : (listG (Go.bits .and .u16 a b)).length + (listG (Go.bits .andNot .u16 a b)).length = (listG a).length := by
        rw [listG_eq hB, listG_eq hL, listG_eq ha, ← List.countP_eq_length_filter, ← List.countP_eq_length_filter, ← List.countP_eq_length_filter]
        generalize nodes = l
        induction l with
        | nil => rfl
        | cons x l ih =>
          rw [List.countP_cons, List.countP_cons, List.countP_cons, hbB, hbL]
          cases hasG a x <;> cases hasG b x <;> simp <;> omega
      rw [count_len hB, count_len hL, wrap_id (by omega) (by omega)]
      omega
    have e5 := gcount_eq _ hB
    have e6 := gcount_eq _ hL
    have e7 := Ints_self (listG a) k (by omega) (by omega)
    have e8 : group_Both.f a b = some (Go.bits .and .u16 a b) := rfl
    have e9 : group_Less.f a b = some (Go.bits .andNot .u16 a b) := rfl
    have e10 : group_Both.f b a = some (Go.bits .and .u16 a b) := by rw [← e3]; rfl
    have e11 : group_List.f a = some (listG a) := rfl
    clear hB hL hbB hbL e3
    obtain ⟨B, hB⟩ : ∃ B, Go.bits .and .u16 a b = B := ⟨_, rfl⟩
    obtain ⟨L, hL⟩ : ∃ L, Go.bits .andNot .u16 a b = L := ⟨_, rfl⟩
    rw [hB, hL] at e1 e2 e4
    rw [hB] at e5 e8 e10
    rw [hL] at e6 e9
    clear hB hL
    unfold vesperslaw03_GroupRanks.l0
    rw [if_neg (by omega), e8, Option.bind_some, e9, Option.bind_some, if_pos rfl, if_pos e1, if_pos e2, e5, Option.bind_some, e6, Option.bind_some, if_pos e4, e10, Option.bind_some, if_pos rfl, e1, e11, Option.bind_some, e7]
    rfl
  | succ d ih =>
    intro k i hi hk
    obtain ⟨k, rfl⟩ : ∃ m, k = m + 1 := ⟨k - 1, by omega⟩
    have hll := list_len a
    have hm : hasG a (rd (listG a) (i : Int)) = true := by
      rw [← mem_list ha, rd_at _ i (by omega)]
      exact List.getElem_mem _
    have er : rankG a (rd (listG a) (i : Int)) = (i : Int) := by
      unfold rankG
      rw [rd_at _ i (by omega), rank_at (list_rise ha) i (by omega)]
    have hL := andNot_g16 ha hb
    have hbL : ∀ x, hasG (Go.bits .andNot .u16 a b) x = (hasG a x && !hasG b x) := has_less ha hb
    unfold vesperslaw03_GroupRanks.l0
    rw [if_pos (by omega), if_pos (by omega), if_pos (by omega), grank_eq a _ ha, Option.bind_some, if_pos er]
    simp only [group_Less.f, group_Has.f, Option.bind_some, hasB_eq hL, hasB_eq hb, hbL, hm]
    rw [if_neg (by cases hasG b (rd (listG a) (i : Int)) <;> simp), wrap_id (by omega) (by omega), show (i : Int) + 1 = ((i + 1 : Nat) : Int) by omega]
    exact ih k (i + 1) (by omega) (by omega)
theorem GroupRanks : vesperslaw03_GroupRanks.Pure := by
  intro a b wa wb
  have ha := wf16' wa
  have hb := wf16' wb
  have hl := list_len a
  refine ⟨200, ?_⟩
  unfold vesperslaw03_GroupRanks.f
  rw [alive_true, Option.bind_some, show group_List.f a = some (listG a) from rfl, Option.bind_some]
  exact ranks_tail a b ha hb (listG a).length 200 0 (by omega) (by omega)
end Go.Proofs.Ytfjjeadoaoedoaa.Pure
