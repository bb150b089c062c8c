/- The document's views and ours are the same. -/
import Derived.Test.YtjdojhioifelnaaHandResult
import Derived.Test.YtjdojhioifelnaaPAx4
import Derived.Test.YtjdojhioifelnaaPAx5
import Derived.Test.YtjdojhioifelnaaPAx6
set_option linter.unusedVariables false
set_option linter.unusedSimpArgs false
namespace Go.Proofs.Ytjdojhioifelnaa.Vec
open Go.RowKit Go.Proofs.Ytjdojhioifelnaa.Grp Go.Proofs.Ytjdojhioifelnaa.Hand Go.Proofs.Ytjdojhioifelnaa.PA Go.Proofs.YtjdojhioifelnaaW.PrintWords Go.Proofs.YtjdojhioifelnaaW.PrintMore

theorem wrap_id {x : Int} (h0 : -9223372036854775808 ≤ x) (h1 : x ≤ 9223372036854775807) : wrap64 x = x := by
  unfold wrap64
  omega
theorem wrap_u64 {n : Int} (h0 : 0 ≤ n) (h1 : n < 16) : IntKind.u64.wrap n = n := by
  simp [IntKind.wrap, IntKind.bits, IntKind.signed]
  omega
theorem bit_eq {n : Int} (h0 : 0 ≤ n) (h1 : n < 16) : vespersref18_bit.f n = some (onlyG n) := by
  unfold vespersref18_bit.f
  rw [wrap_u64 h0 h1, if_pos h0, shl_one n h0 h1]
theorem has_eq (g : Int) {n : Int} (h0 : 0 ≤ n) (h1 : n < 16) : vespersref18_has.f g n = some (hasB g n) := by
  unfold vespersref18_has.f
  rw [bit_eq h0 h1]
  rfl
theorem with_eq (g : Int) {n : Int} (h0 : 0 ≤ n) (h1 : n < 16) : vespersref18_with.f g n = some (withG g n) := by
  unfold vespersref18_with.f
  rw [bit_eq h0 h1]
  rfl
theorem without_eq (g : Int) {n : Int} (h0 : 0 ≤ n) (h1 : n < 16) : vespersref18_without.f g n = some (withoutG g n) := by
  unfold vespersref18_without.f
  rw [bit_eq h0 h1]
  rfl
theorem node_iff (n : Int) : nodeB n = true ↔ 0 ≤ n ∧ n < 16 := by simp [nodeB]
theorem view_iff (o v a f : Int) : viewV o v a f = true ↔ (0 ≤ o ∧ o < 16) ∧ 0 ≤ a ∧ a ≤ 2 ∧ (a = 2 → (0 ≤ f ∧ f < 16) ∧ f ≠ o) ∧ (a ≠ 2 → f = 0) ∧ (a = 0 ∨ hasB v o = true) := by
  unfold viewV
  simp only [Bool.and_eq_true, Bool.or_eq_true, decide_eq_true_eq, node_iff]
  by_cases ha : a = 2
  · rw [if_pos ha]
    simp only [Bool.and_eq_true, node_iff, Bool.not_eq_true', decide_eq_false_iff_not]
    constructor
    · rintro ⟨⟨⟨⟨h1, h2⟩, h3⟩, h4, h5⟩, h6⟩
      exact ⟨h1, h2, h3, fun _ => ⟨h4, h5⟩, fun h => absurd ha h, h6⟩
    · rintro ⟨h1, h2, h3, h4, h5, h6⟩
      exact ⟨⟨⟨⟨h1, h2⟩, h3⟩, (h4 ha).1, (h4 ha).2⟩, h6⟩
  · rw [if_neg ha]
    simp only [decide_eq_true_eq]
    constructor
    · rintro ⟨⟨⟨⟨h1, h2⟩, h3⟩, h4⟩, h6⟩
      exact ⟨h1, h2, h3, fun h => absurd h ha, fun _ => h4, h6⟩
    · rintro ⟨h1, h2, h3, h4, h5, h6⟩
      exact ⟨⟨⟨⟨h1, h2⟩, h3⟩, h5 ha⟩, h6⟩
theorem check_bad {o v a f : Int} (h : ¬ viewV o v a f = true) : checkV o v a f = 180 := by unfold checkV; rw [if_neg h]
theorem check_ok {o v a f : Int} (h : viewV o v a f = true) : checkV o v a f = 0 := by unfold checkV; rw [if_pos h]
theorem rcheck_eq (o v a f : Int) (k : Nat) (hk : 2 ≤ k) : vespersref18_Check.f k o v a f = some (checkV o v a f) := by
  obtain ⟨k, rfl⟩ : ∃ m, k = m + 1 + 1 := ⟨k - 2, by omega⟩
  have bad0 : ∀ h : ¬ viewV o v a f = true, vespersref18_Check.j0 (k + 1 + 1) true o v a f = some (checkV o v a f) := by
    intro h
    rw [check_bad h]
    simp only [vespersref18_Check.j0]
    rw [if_pos trivial]
  have bad1 : ∀ h : ¬ viewV o v a f = true, vespersref18_Check.j1 (k + 1) true o v a f = some (checkV o v a f) := by
    intro h
    rw [check_bad h]
    simp only [vespersref18_Check.j1]
    rw [if_pos trivial]
  unfold vespersref18_Check.f
  by_cases h1 : o < 0
  · rw [if_pos h1]; exact bad0 (fun c => by have := (view_iff o v a f).1 c; omega)
  rw [if_neg h1]
  by_cases h2 : o > 15
  · rw [if_pos h2]; exact bad0 (fun c => by have := (view_iff o v a f).1 c; omega)
  rw [if_neg h2]
  by_cases h3 : a < 0
  · rw [if_pos h3]; exact bad0 (fun c => by have := (view_iff o v a f).1 c; omega)
  rw [if_neg h3]
  by_cases h4 : a > 2
  · rw [if_pos h4]; exact bad0 (fun c => by have := (view_iff o v a f).1 c; omega)
  rw [if_neg h4]
  by_cases h5 : f < 0
  · rw [if_pos h5]; exact bad0 (fun c => by have := (view_iff o v a f).1 c; omega)
  rw [if_neg h5]
  by_cases h6 : f > 15
  · rw [decide_eq_true h6]; exact bad0 (fun c => by have := (view_iff o v a f).1 c; omega)
  rw [decide_eq_false h6]
  simp only [vespersref18_Check.j0]
  rw [if_neg (by decide)]
  have tail : (a = 2 → f ≠ o) → (a ≠ 2 → f = 0) → vespersref18_Check.j1 (k + 1) false o v a f = some (checkV o v a f) := by
    intro p1 p2
    simp only [vespersref18_Check.j1]
    rw [if_neg (by decide), has_eq v (by omega) (by omega), Option.bind_some]
    by_cases q : a > 0
    · rw [if_pos q]
      by_cases q2 : hasB v o = true
      · rw [if_pos q2, check_ok ((view_iff o v a f).2 ⟨by omega, by omega, by omega, fun e => ⟨by omega, p1 e⟩, p2, .inr q2⟩)]
      · rw [if_neg q2, check_bad (fun c => by
          have := ((view_iff o v a f).1 c).2.2.2.2.2
          rcases this with e | e
          · omega
          · exact q2 e)]
    · rw [if_neg q, check_ok ((view_iff o v a f).2 ⟨by omega, by omega, by omega, fun e => ⟨by omega, p1 e⟩, p2, .inl (by omega)⟩)]
  by_cases h7 : a < 2
  · rw [if_pos h7]
    by_cases h8 : f = 0
    · rw [if_pos h8, if_neg (by omega)]
      exact tail (fun e => by omega) (fun _ => h8)
    · rw [if_neg h8]
      exact bad1 (fun c => by have := (view_iff o v a f).1 c; omega)
  · rw [if_neg h7, if_pos (by omega)]
    by_cases h8 : f = o
    · rw [show (f == o) = true by simpa using h8]
      exact bad1 (fun c => ((((view_iff o v a f).1 c).2.2.2.1 (by omega)).2 h8))
    · rw [show (f == o) = false by simpa using h8]
      exact tail (fun _ => h8) (fun e => by omega)
theorem may_iff (o v a f n : Int) : mayV o v a f n = true ↔ viewV o v a f = true ∧ (0 ≤ n ∧ n < 16) ∧ n ≠ o := by
  unfold mayV
  simp only [Bool.and_eq_true, node_iff, Bool.not_eq_true', decide_eq_false_iff_not]
  constructor
  · rintro ⟨⟨h1, h2⟩, h3⟩; exact ⟨h1, h2, h3⟩
  · rintro ⟨h1, h2, h3⟩; exact ⟨⟨h1, h2⟩, h3⟩
def looksR (o v a f n : Int) : List Int × Int := if mayV o v a f n = true then (looksV o v a f n, 0) else ([], 180)
theorem rlooks_eq (o v a f n : Int) (k : Nat) (hk : 3 ≤ k) : vespersref18_Looks.f k o v a f n = some (looksR o v a f n) := by
  obtain ⟨k, rfl⟩ : ∃ m, k = m + 1 + 1 + 1 := ⟨k - 3, by omega⟩
  have bad0 : ∀ h : ¬ mayV o v a f n = true, vespersref18_Looks.j0 (k + 1 + 1 + 1) n true o v a f = some (looksR o v a f n) := by
    intro h
    unfold looksR
    rw [if_neg h]
    simp only [vespersref18_Looks.j0]
    rw [if_pos trivial]
  unfold vespersref18_Looks.f
  rw [rcheck_eq o v a f _ (by omega), Option.bind_some]
  by_cases hv : viewV o v a f = true
  · rw [check_ok hv, if_pos rfl]
    by_cases h1 : n < 0
    · rw [if_pos h1]; exact bad0 (fun c => by have := (may_iff o v a f n).1 c; omega)
    rw [if_neg h1]
    by_cases h2 : n > 15
    · rw [if_pos h2]; exact bad0 (fun c => by have := (may_iff o v a f n).1 c; omega)
    rw [if_neg h2]
    by_cases h3 : n = o
    · rw [show (n == o) = true by simpa using h3]
      exact bad0 (fun c => ((may_iff o v a f n).1 c).2.2 h3)
    rw [show (n == o) = false by simpa using h3]
    have hm : mayV o v a f n = true := (may_iff o v a f n).2 ⟨hv, by omega, h3⟩
    have hvv := (view_iff o v a f).1 hv
    unfold looksR looksV look1 lookA
    rw [if_pos hm]
    simp only [vespersref18_Looks.j0]
    rw [if_neg (by decide), with_eq v (by omega) (by omega), Option.bind_some, Option.bind_some]
    rcases (show a = 0 ∨ a = 1 ∨ a = 2 by omega) with rfl | rfl | rfl
    · rw [if_neg (by decide), if_pos rfl]
      simp only [vespersref18_Looks.j1]
      rw [if_neg (by decide)]
    · rw [if_pos rfl, Option.bind_some, without_eq _ (by omega) (by omega), Option.bind_some, if_pos (by simp), if_neg (by decide), if_pos rfl]
      simp only [vespersref18_Looks.j1]
      rw [if_neg (by decide)]
      rfl
    · have hf := (hvv.2.2.2.1 rfl).1
      rw [if_neg (by decide), if_neg (by decide), if_neg (by decide)]
      simp only [vespersref18_Looks.j1]
      rw [if_pos trivial, with_eq v (by omega) (by omega), Option.bind_some, without_eq _ (by omega) (by omega), Option.bind_some, with_eq _ hf.1 hf.2, Option.bind_some, if_pos (by simp)]
      rfl
  · rw [check_bad hv, if_neg (by decide)]
    exact bad0 (fun c => hv ((may_iff o v a f n).1 c).1)
theorem looks_f (o v a f n : Int) : vector_Looks.f o v a f n = some (looksR o v a f n) := rfl
theorem looksR_len (o v a f n : Int) : (looksR o v a f n).1.length ≤ 2 := by
  unfold looksR
  split
  · exact looksV_len o v a f n
  · simp
theorem two_ways {v o n f : Int} (hv : G16 v) (ho : n ≠ o) (hn : 0 ≤ n ∧ n < 16) (hoo : 0 ≤ o ∧ o < 16) : withG (withoutG (withG v n) o) f = withG (withG (withoutG v o) n) f := by
  refine ext16 (with_g16 (without_g16 (with_g16 hv _) _) _) (with_g16 (with_g16 (without_g16 hv _) _) _) (fun i hi => ?_)
  rw [tb_with (without_g16 (with_g16 hv _) _), tb_without (with_g16 hv _), tb_with hv, tb_with (with_g16 (without_g16 hv _) _), tb_with (without_g16 hv _), tb_without hv]
  by_cases h1 : n.toNat = i
  · have h2 : ¬ o.toNat = i := by omega
    simp [h1, h2, hn]
  · simp [h1]
theorem rstep_eq (o v a f n r : Int) (hv : G16 v) (k : Nat) (hk : 5 ≤ k) : vespersref18_Step.f k o v a f n r = some (stepV o v a f n r) := by
  obtain ⟨k, rfl⟩ : ∃ m, k = m + 1 := ⟨k - 1, by omega⟩
  have bad : ∀ L, vespersref18_Step.j0 (k + 1) n r L true o v a f = some (0, 0, 0, 0, 0, 180) := by
    intro L
    simp only [vespersref18_Step.j0]
    rw [if_pos trivial]
  unfold vespersref18_Step.f stepV
  rw [rlooks_eq o v a f n _ (by omega), Option.bind_some]
  unfold looksR
  by_cases hm : mayV o v a f n = true
  · rw [if_pos hm, if_pos hm]
    obtain ⟨hvw, hn, hno⟩ := (may_iff o v a f n).1 hm
    have hvv := (view_iff o v a f).1 hvw
    simp only [if_true]
    by_cases h0 : r < 0
    · rw [if_pos h0, bad, if_neg (by omega), if_neg (by omega), if_neg (by omega), if_neg (by omega)]
    rw [if_neg h0]
    by_cases h1 : r > 3
    · rw [if_pos h1, bad, if_neg (by omega), if_neg (by omega), if_neg (by omega), if_neg (by omega)]
    rw [if_neg h1]
    rcases (show r = 0 ∨ r = 1 ∨ r = 2 ∨ r = 3 by omega) with rfl | rfl | rfl | rfl
    · rw [if_neg (by decide), if_pos rfl]
      simp only [vespersref18_Step.j0]
      rw [if_neg (by decide), if_pos (by decide), without_eq v hn.1 hn.2, Option.bind_some, show wrap64 (2 * 0) = 0 from wrap_id (by omega) (by omega)]
    · rw [if_neg (by decide), if_neg (by decide), if_pos rfl]
      simp only [vespersref18_Step.j0]
      rw [if_neg (by decide), if_pos (by decide), without_eq v hn.1 hn.2, Option.bind_some, show wrap64 (2 * 1) = 2 from wrap_id (by omega) (by omega)]
    · rw [if_neg (by decide), if_neg (by decide), if_neg (by decide), if_pos rfl]
      simp only [vespersref18_Step.j0]
      have hl : (0 : Int) < ((looksV o v a f n).length : Int) := by unfold looksV; split <;> simp
      have hr : rd (looksV o v a f n) 0 = withG v n := by unfold looksV; split <;> rfl
      rw [if_neg (by decide), if_neg (by decide), if_pos trivial, if_pos hl, hr]
    · rw [if_pos rfl, if_neg (by decide), if_neg (by decide), if_neg (by decide), if_pos rfl]
      rcases (show a = 0 ∨ a = 1 ∨ a = 2 by omega) with rfl | rfl | rfl
      · rw [if_pos rfl, show decide (((looksV o v 0 f n).length : Int) < 2) = true from rfl, bad]
      · rw [if_neg (by decide), if_pos rfl, show decide (((looksV o v 1 f n).length : Int) < 2) = false from rfl]
        simp only [vespersref18_Step.j0]
        rw [if_neg (by decide), if_neg (by decide), if_neg (by decide), if_pos trivial, without_eq v hn.1 hn.2, Option.bind_some]
      · rw [if_neg (by decide), if_neg (by decide), show decide (((looksV o v 2 f n).length : Int) < 2) = false from rfl]
        simp only [vespersref18_Step.j0]
        rw [if_neg (by decide), if_neg (by decide), if_neg (by decide), if_neg (by decide), if_pos (show (1 : Int) < ((looksV o v 2 f n).length : Int) from (by show (1 : Int) < ((2 : Nat) : Int); decide))]
        have hr : rd (looksV o v 2 f n) 1 = withG (withoutG (withG v n) o) f := rfl
        rw [hr, two_ways hv hno hn hvv.1]
  · rw [if_neg hm, if_neg hm, if_neg (by decide), bad]
theorem step_f (o v a f n r : Int) : vector_Step.f o v a f n r = some (stepV o v a f n r) := rfl
end Go.Proofs.Ytjdojhioifelnaa.Vec
