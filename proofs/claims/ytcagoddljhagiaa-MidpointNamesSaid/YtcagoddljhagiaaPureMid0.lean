/- The k-th of some numbers, by how many are at most a number; trimmed values. -/
import Derived.Test.YtcagoddljhagiaaHandTrim
set_option linter.unusedVariables false
set_option linter.unusedSimpArgs false
namespace Go.Proofs.Ytcagoddljhagiaa.Mid
open Go.RowKit Go.Proofs.Ytcagoddljhagiaa.Hand Go.Proofs.YtcagoddljhagiaaW.PrintWords

def cle (v : Int) (l : List Int) : Nat := l.countP fun x => decide (x ≤ v)
def srt (l : List Int) (i : Nat) : Int := (sortL l).getD i 0
theorem sortL_perm (l : List Int) : (sortL l).Perm l := List.mergeSort_perm _ _
theorem sortL_sorted (l : List Int) : (sortL l).Pairwise (fun x y => x ≤ y) := by
  have := List.pairwise_mergeSort (le := fun x y : Int => decide (x ≤ y)) (by intro a b c; simp; omega) (by intro a b; simp; omega) l
  refine this.imp ?_
  intro a b h
  simpa using h
theorem srt_get (l : List Int) (i : Nat) (h : i < (sortL l).length) : (sortL l)[i] = srt l i := by
  unfold srt
  rw [List.getD_eq_getElem?_getD, List.getElem?_eq_getElem h, Option.getD_some]
theorem cle_sorted : ∀ (s : List Int), s.Pairwise (fun x y => x ≤ y) → ∀ (i : Nat) (h : i < s.length) (v : Int), s[i] ≤ v ↔ i < cle v s
  | [], _, i, h, _ => absurd h (Nat.not_lt_zero _)
  | x :: t, hs, i, h, v => by
    rw [List.pairwise_cons] at hs
    have ih := cle_sorted t hs.2
    by_cases hx : x ≤ v
    · have e : cle v (x :: t) = cle v t + 1 := by unfold cle; rw [List.countP_cons_of_pos (by simpa using hx)]
      rw [e]
      cases i with
      | zero => simp [hx]
      | succ i => rw [List.getElem_cons_succ, ih i (by simpa using h) v]; omega
    · have e : cle v (x :: t) = 0 := by
        unfold cle
        rw [List.countP_eq_zero]
        intro a ha
        rcases List.mem_cons.1 ha with rfl | ha
        · simpa using hx
        · have := hs.1 a ha
          simp; omega
      rw [e]
      cases i with
      | zero => simp; omega
      | succ i =>
        have := hs.1 _ (List.getElem_mem (l := t) (n := i) (by simpa using h))
        simp; omega
theorem cle_sort (l : List Int) (v : Int) : cle v (sortL l) = cle v l := (sortL_perm l).countP_eq _
/-- THE ONE LAW: the i-th is at most v just if more than i are. -/
theorem srt_le (l : List Int) (i : Nat) (h : i < l.length) (v : Int) : srt l i ≤ v ↔ i < cle v l := by
  have h' : i < (sortL l).length := by rw [sortL_len]; exact h
  rw [← cle_sort l v, ← srt_get l i h']
  exact cle_sorted _ (sortL_sorted l) i h' v
theorem srt_eq (l : List Int) (i : Nat) (v : Int) (h : i < l.length) (h1 : i < cle v l) (h2 : cle (v - 1) l ≤ i) : srt l i = v := by
  have a := (srt_le l i h v).2 h1
  have b := srt_le l i h (v - 1)
  have : ¬ srt l i ≤ v - 1 := fun c => by have := b.1 c; omega
  omega
theorem srt_mono (l : List Int) (i j : Nat) (hij : i ≤ j) (h : j < l.length) : srt l i ≤ srt l j := by
  have a := (srt_le l j h (srt l j)).1 (Int.le_refl _)
  exact (srt_le l i (by omega) _).2 (by omega)
theorem srt_mem (l : List Int) (i : Nat) (h : i < l.length) : srt l i ∈ l := by
  have h' : i < (sortL l).length := by rw [sortL_len]; exact h
  rw [← srt_get l i h']
  exact (sortL_perm l).mem_iff.1 (List.getElem_mem h')
theorem cle_le_len (l : List Int) (v : Int) : cle v l ≤ l.length := List.countP_le_length
theorem cle_ge (l : List Int) (v : Int) : (l.countP fun x => decide (v ≤ x)) + cle (v - 1) l = l.length := by
  unfold cle
  induction l with
  | nil => rfl
  | cons x t ih =>
    by_cases hx : v ≤ x
    · rw [List.countP_cons_of_pos (by simpa using hx), List.countP_cons_of_neg (by simp; omega)]; simp; omega
    · rw [List.countP_cons_of_neg (by simpa using hx), List.countP_cons_of_pos (by simp; omega)]; simp; omega
theorem srt_ext (a b : List Int) (hl : a.length = b.length) (h : ∀ v, cle v a = cle v b) (i : Nat) (hi : i < a.length) : srt a i = srt b i := by
  have h1 := (srt_le a i hi (srt b i)).2 (by rw [h]; exact (srt_le b i (by omega) _).1 (Int.le_refl _))
  have h2 := (srt_le b i (by omega) (srt a i)).2 (by rw [← h]; exact (srt_le a i hi _).1 (Int.le_refl _))
  omega
theorem cle_perm {a b : List Int} (h : a.Perm b) (v : Int) : cle v a = cle v b := h.countP_eq _
/-- Each is moved by at most d. -/
theorem srt_moved (ps : List (Int × Int)) (d : Int) (h : ∀ p ∈ ps, p.2 ≤ p.1 + d) (i : Nat) (hi : i < ps.length) : srt (ps.map Prod.snd) i ≤ srt (ps.map Prod.fst) i + d := by
  rw [srt_le _ i (by simpa using hi)]
  have h1 := (srt_le (ps.map Prod.fst) i (by simpa using hi) _).1 (Int.le_refl _)
  refine Nat.lt_of_lt_of_le h1 ?_
  unfold cle
  rw [List.countP_map, List.countP_map]
  refine List.countP_mono_left ?_
  intro p hp hq
  have := h p hp
  simp only [Function.comp, decide_eq_true_eq] at hq ⊢
  omega
theorem sortL_mem {l : List Int} {x : Int} : x ∈ sortL l ↔ x ∈ l := (sortL_perm l).mem_iff

/-- Values that may be trimmed. -/
structure GoodM (l : List Int) (n : Nat) : Prop where
  room : 2 * n + 1 ≤ l.length
  big : l.length ≤ 1000000
  fine : ∀ x ∈ l, -4294967296 ≤ x ∧ x ≤ 4294967296
theorem GoodM.any {l : List Int} {n : Nat} (h : GoodM l n) : l.any wildB = false := by
  rw [List.any_eq_false]
  intro x hx
  have := h.fine x hx
  simp [wildB]
  omega
theorem Trim_good {l : List Int} {n : Nat} (h : GoodM l n) : midpoint_Trim.f l (n : Int) = some (trimL l (n : Int), 0) := by
  have := h.room
  unfold midpoint_Trim.f
  rw [if_neg (by omega), if_neg (by intro e; rw [e] at this; simp at this), if_neg (by omega), if_pos h.big, h.any]
  simp
theorem Trim_bad {l : List Int} {a : Int} (hb : l.length ≤ 1000000) (h : ∀ n : Nat, a = (n : Int) → ¬ GoodM l n) : midpoint_Trim.f l a = some ([], 140) := by
  unfold midpoint_Trim.f
  by_cases h1 : a < 0
  · rw [if_pos h1]
  rw [if_neg h1]
  by_cases h2 : l = []
  · rw [if_pos h2]
  rw [if_neg h2]
  by_cases h3 : ((l.length : Int) - 1) / 2 < a
  · rw [if_pos h3]
  rw [if_neg h3, if_pos hb]
  by_cases h4 : l.any wildB = true
  · rw [if_pos h4]
  exfalso
  have hpos : 1 ≤ l.length := by cases l with | nil => exact absurd rfl h2 | cons _ _ => simp
  refine h a.toNat (by omega) ⟨by omega, hb, fun x hx => ?_⟩
  have := List.any_eq_false.1 (by simpa using h4) x hx
  simp [wildB] at this
  omega
theorem trimL_eq (l : List Int) (n : Nat) : trimL l (n : Int) = (List.range (l.length - 2 * n)).map fun j => srt l (n + j) := by
  unfold trimL
  rw [Int.toNat_natCast]
  apply List.ext_getElem
  · simp [sortL_len]; omega
  · intro j h1 h2
    have h3 : j < l.length - 2 * n := by simpa using h2
    simp only [List.getElem_take, List.getElem_drop, List.getElem_map, List.getElem_range]
    exact srt_get l (n + j) _
theorem trimL_len (l : List Int) (n : Nat) : (trimL l (n : Int)).length = l.length - 2 * n := by rw [trimL_eq]; simp
theorem trimL_rd (l : List Int) (n j : Nat) (h : j < l.length - 2 * n) : rd (trimL l (n : Int)) (j : Int) = srt l (n + j) := by
  unfold rd
  rw [trimL_eq, Int.toNat_natCast, List.getD_eq_getElem?_getD, List.getElem?_map, List.getElem?_range h]
  rfl
theorem srt_fine {l : List Int} {n : Nat} (h : GoodM l n) (i : Nat) (hi : i < l.length) : -4294967296 ≤ srt l i ∧ srt l i ≤ 4294967296 := h.fine _ (srt_mem l i hi)
end Go.Proofs.Ytcagoddljhagiaa.Mid
