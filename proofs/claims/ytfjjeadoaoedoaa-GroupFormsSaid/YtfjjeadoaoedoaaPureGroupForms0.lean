/- GroupForms: Of, Text and Parse of the reference. -/
import Derived.Test.YtfjjeadoaoedoaaPureGroupRound
import Derived.Test.YtfjjeadoaoedoaaPureGroupParse
import Derived.Test.YtfjjeadoaoedoaaPCx2
set_option linter.unusedVariables false
set_option linter.unusedSimpArgs false
namespace Go.Proofs.Ytfjjeadoaoedoaa.Pure
open Go.RowKit Go.Proofs.Ytfjjeadoaoedoaa.Grp Go.Proofs.Ytfjjeadoaoedoaa.Hand Go.Proofs.Ytfjjeadoaoedoaa.PA Go.Proofs.Ytfjjeadoaoedoaa.PB Go.Proofs.Ytfjjeadoaoedoaa.PC Go.Proofs.YtfjjeadoaoedoaaW.PrintWords Go.Proofs.YtfjjeadoaoedoaaW.PrintLast Go.Proofs.YtfjjeadoaoedoaaW.PrintMore

theorem Of_both (l : List Int) (hl : l.length ≤ 1000) : ∀ d, ∀ (k i : Nat) (g : Int), G16 g → i + d = l.length → d + 25 < k →
    ∃ r, group_Of.l0 k g l (l.length : Int) (i : Int) = some r ∧ vespersref03_Of.l0 k l g (i : Int) = some r := by
  intro d
  induction d with
  | zero =>
    intro k i g ho hi hk
    obtain ⟨k, rfl⟩ : ∃ m, k = m + 1 := ⟨k - 1, by omega⟩
    refine ⟨(g, 0), ?_, ?_⟩
    · rw [group_Of.l0, if_neg (by omega)]
    · rw [vespersref03_Of.l0, if_neg (by omega)]
  | succ d ih =>
    intro k i g ho hi hk
    obtain ⟨k, rfl⟩ : ∃ m, k = m + 1 := ⟨k - 1, by omega⟩
    rw [group_Of.l0, vespersref03_Of.l0, if_pos (by omega), if_pos (by omega), if_pos (by omega), if_pos (by omega), if_pos (by omega)]
    obtain ⟨x, hx⟩ : ∃ x, rd l (i : Int) = x := ⟨_, rfl⟩
    rw [hx]
    by_cases h0 : x < 0
    · refine ⟨(0, 2), ?_, ?_⟩
      · have e1 : group_node.f x = some false := by unfold group_node.f nodeB; simp [show ¬ 0 ≤ x by omega]
        rw [e1, Option.bind_some, if_neg (by simp)]
      · rw [if_pos h0]
    · by_cases h1 : x > 15
      · refine ⟨(0, 2), ?_, ?_⟩
        · have e1 : group_node.f x = some false := by unfold group_node.f nodeB; simp [show ¬ x < 16 by omega]
          rw [e1, Option.bind_some, if_neg (by simp)]
        · rw [if_neg h0, if_pos h1]
      · have e1 : group_node.f x = some true := by unfold group_node.f nodeB; simp; omega
        have e2 : group_only.f x = some (onlyG x) := rfl
        rw [e1, Option.bind_some, if_pos rfl, e2, Option.bind_some, if_neg h0, if_neg h1, With_eq g x ho k (by omega), Option.bind_some, wrap_id (by omega) (by omega), show (i : Int) + 1 = ((i + 1 : Nat) : Int) by omega]
        exact ih k (i + 1) _ (with_g16 ho x) (by omega) (by omega)
theorem ext_dig {x : Int} (hx : 0 ≤ x ∧ x < 16) : (⟨#[48, 49, 50, 51, 52, 53, 54, 55, 56, 57, 97, 98, 99, 100, 101, 102]⟩ : ByteArray).extract x.toNat (x + 1).toNat = ⟨#[dig x]⟩ := by
  obtain ⟨a, rfl⟩ := Int.eq_ofNat_of_zero_le hx.1
  have : ∀ i : Fin 16, (⟨#[48, 49, 50, 51, 52, 53, 54, 55, 56, 57, 97, 98, 99, 100, 101, 102]⟩ : ByteArray).extract ((i.val : Nat) : Int).toNat (((i.val : Nat) : Int) + 1).toNat = ⟨#[dig (i.val : Int)]⟩ := by decide +kernel
  exact this ⟨a, by omega⟩
theorem mk_snoc (l : List UInt8) (b : UInt8) : (⟨l.toArray⟩ : ByteArray) ++ (⟨#[b]⟩ : ByteArray) = ⟨(l ++ [b]).toArray⟩ := by
  apply Go.WideShapes.bytes_inj
  rw [ByteArray.toList_data_append]
theorem RText_l0 (l : List Int) (hl : l.length ≤ 16) (hn : ∀ x ∈ l, 0 ≤ x ∧ x < 16) : ∀ d, ∀ (k i : Nat), i + d = l.length → d < k → vespersref03_Text.l0 k l ⟨(textL (l.take i)).toArray⟩ (i : Int) = some ⟨(textL l).toArray⟩ := by
  intro d
  induction d with
  | zero =>
    intro k i hi hk
    obtain ⟨k, rfl⟩ : ∃ m, k = m + 1 := ⟨k - 1, by omega⟩
    rw [vespersref03_Text.l0, if_neg (by omega), List.take_of_length_le (by omega)]
  | succ d ih =>
    intro k i hi hk
    obtain ⟨k, rfl⟩ : ∃ m, k = m + 1 := ⟨k - 1, by omega⟩
    have hlt : i < l.length := by omega
    have hx := hn l[i] (List.getElem_mem hlt)
    have e0 : (⟨(textL (l.take i)).toArray⟩ : ByteArray).size = i := by
      show (textL (l.take i)).toArray.size = _
      simp [textL]; omega
    have e1 : (⟨#[dig l[i]]⟩ : ByteArray).size = 1 := rfl
    have e2 : textL (l.take (i + 1)) = textL (l.take i) ++ [dig l[i]] := by
      rw [List.take_succ_eq_append_getElem hlt]
      unfold textL
      rw [List.map_append]
      rfl
    rw [vespersref03_Text.l0, rd_at l i hlt, wrap_id (by omega) (by omega), ext_dig hx, e0, e1, mk_snoc, ← e2, if_pos (by omega), if_pos (by omega), if_pos hx.1, if_pos (by omega), if_pos (by omega), if_pos (by omega), wrap_id (by omega) (by omega), show (i : Int) + 1 = ((i + 1 : Nat) : Int) by omega]
    exact ih k (i + 1) (by omega) (by omega)
theorem RText_eq {g : Int} (hg : G16 g) (k : Nat) (hk : 60 < k) : vespersref03_Text.f k g = some ⟨(txt g).toArray⟩ := by
  have hl := list_len g
  unfold vespersref03_Text.f txt
  rw [List_eq g hg k (by omega), Option.bind_some]
  by_cases h : g = 0
  · subst h
    rw [list_zero]
    rfl
  · have hne : (listG g).length ≠ 0 := fun e => list_ne hg h (List.length_eq_zero_iff.1 e)
    rw [if_neg (by omega), if_neg h]
    exact RText_l0 (listG g) hl list_nodes (listG g).length k 0 (by omega) (by omega)
end Go.Proofs.Ytfjjeadoaoedoaa.Pure
