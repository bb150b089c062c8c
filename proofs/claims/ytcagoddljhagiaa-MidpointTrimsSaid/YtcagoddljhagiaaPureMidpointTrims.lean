/- MidpointTrims: any numbers, trimmed by any k, their midpoint and their spread, or the error, are the document's; they stay. -/
import Derived.Test.YtcagoddljhagiaaPureMid1
set_option linter.unusedVariables false
set_option linter.unusedSimpArgs false
namespace Go.Proofs.Ytcagoddljhagiaa.Pure
open Go.RowKit Go.Proofs.Ytcagoddljhagiaa.Hand Go.Proofs.Ytcagoddljhagiaa.Mid Go.Proofs.Ytcagoddljhagiaa.PA Go.Proofs.YtcagoddljhagiaaW.PrintWords Go.Proofs.YtcagoddljhagiaaW.PrintLast

theorem rdg (l : List Int) (i : Nat) (h : i < l.length) : rd l (i : Int) = l[i] := by
  unfold rd
  rw [Int.toNat_natCast, List.getD_eq_getElem?_getD, List.getElem?_eq_getElem h, Option.getD_some]
/-- Does j stand ahead of i, when the values are sorted? -/
def ahB (l : List Int) (i j : Nat) : Bool := decide (rd l (j : Int) < rd l (i : Int)) || (decide (rd l (j : Int) = rd l (i : Int)) && decide (j < i))
/-- How many of the first j stand ahead of i. -/
def rkTo (l : List Int) (i : Nat) : Nat → Nat
  | 0 => 0
  | j + 1 => rkTo l i j + if ahB l i j = true then 1 else 0
theorem rkTo_le (l : List Int) (i : Nat) : ∀ j, rkTo l i j ≤ j
  | 0 => Nat.le_refl _
  | j + 1 => by have := rkTo_le l i j; unfold rkTo; split <;> omega
def eqc (v : Int) (l : List Int) : Nat := l.countP fun x => decide (x = v)
theorem cle_split (v : Int) (l : List Int) : cle v l = cle (v - 1) l + eqc v l := by
  unfold cle eqc
  induction l with
  | nil => rfl
  | cons x t ih =>
    simp only [List.countP_cons, ih, decide_eq_true_eq]
    split <;> split <;> split <;> omega
theorem rkTo_eq (l : List Int) (i : Nat) : ∀ j, j ≤ l.length → rkTo l i j = cle (rd l (i : Int) - 1) (l.take j) + eqc (rd l (i : Int)) (l.take (min j i))
  | 0 => fun _ => by simp [rkTo, cle, eqc]
  | j + 1 => fun hj => by
    have ih := rkTo_eq l i j (by omega)
    have hlt : j < l.length := by omega
    have e1 : cle (rd l (i : Int) - 1) (l.take (j + 1)) = cle (rd l (i : Int) - 1) (l.take j) + if rd l (j : Int) < rd l (i : Int) then 1 else 0 := by
      unfold cle
      rw [List.take_succ_eq_append_getElem hlt, List.countP_append, rdg l j hlt]
      by_cases hx : l[j] < rd l (i : Int)
      · rw [if_pos hx, List.countP_cons_of_pos (by simp; omega)]; rfl
      · rw [if_neg hx, List.countP_cons_of_neg (by simp; omega)]; rfl
    unfold rkTo
    rw [e1, ih]
    by_cases hji : j < i
    · have e2 : eqc (rd l (i : Int)) (l.take (min (j + 1) i)) = eqc (rd l (i : Int)) (l.take (min j i)) + if rd l (j : Int) = rd l (i : Int) then 1 else 0 := by
        rw [show min (j + 1) i = j + 1 by omega, show min j i = j by omega]
        unfold eqc
        rw [List.take_succ_eq_append_getElem hlt, List.countP_append, rdg l j hlt]
        by_cases hx : l[j] = rd l (i : Int)
        · rw [if_pos hx, List.countP_cons_of_pos (by simpa using hx)]; rfl
        · rw [if_neg hx, List.countP_cons_of_neg (by simpa using hx)]; rfl
      rw [e2]
      by_cases p1 : rd l (j : Int) < rd l (i : Int)
      · rw [if_pos (show ahB l i j = true by simp [ahB, p1]), if_pos p1, if_neg (show ¬ rd l (j : Int) = rd l (i : Int) by omega)]; omega
      · by_cases p2 : rd l (j : Int) = rd l (i : Int)
        · rw [if_pos (show ahB l i j = true by simp [ahB, p2, hji]), if_neg p1, if_pos p2]; omega
        · rw [if_neg (show ¬ ahB l i j = true by simp [ahB, p1, p2]), if_neg p1, if_neg p2]; omega
    · have e2 : min (j + 1) i = min j i := by omega
      rw [e2]
      by_cases p1 : rd l (j : Int) < rd l (i : Int)
      · rw [if_pos (show ahB l i j = true by simp [ahB, p1]), if_pos p1]; omega
      · rw [if_neg (show ¬ ahB l i j = true by simp [ahB, p1, hji]), if_neg p1]; omega
/-- The rank of i. -/
def rk (l : List Int) (i : Nat) : Nat := rkTo l i l.length
theorem rk_eq (l : List Int) (i : Nat) (hi : i < l.length) : rk l i = cle (rd l (i : Int) - 1) l + eqc (rd l (i : Int)) (l.take i) := by
  unfold rk
  rw [rkTo_eq l i _ (Nat.le_refl _), List.take_length, show min l.length i = i by omega]
theorem eqc_take (v : Int) (l : List Int) (i : Nat) (hi : i < l.length) (h : l[i] = v) : eqc v (l.take i) < eqc v l := by
  have e : eqc v l = eqc v (l.take (i + 1)) + eqc v (l.drop (i + 1)) := by unfold eqc; rw [← List.countP_append, List.take_append_drop]
  have e2 : eqc v (l.take (i + 1)) = eqc v (l.take i) + 1 := by
    unfold eqc
    rw [List.take_succ_eq_append_getElem hi, List.countP_append, List.countP_cons_of_pos (by simpa using h)]
    rfl
  omega
/-- Who has so many ahead is the value that stands there. -/
theorem rk_srt (l : List Int) (i at' : Nat) (hi : i < l.length) (h : rk l i = at') (ha : at' < l.length) : rd l (i : Int) = srt l at' := by
  have e := rk_eq l i hi
  have h1 := eqc_take (rd l (i : Int)) l i hi (rdg l i hi).symm
  have h2 := cle_split (rd l (i : Int)) l
  exact (srt_eq l at' _ ha (by omega) (by omega)).symm
theorem nth_eq (v : Int) : ∀ (l : List Int) (m : Nat), m < eqc v l → ∃ i, ∃ (h : i < l.length), l[i] = v ∧ eqc v (l.take i) = m
  | [], m, h => absurd h (by simp [eqc])
  | x :: t, m, h => by
    by_cases hx : x = v
    · cases m with
      | zero => exact ⟨0, by simp, by simpa using hx, by simp [eqc]⟩
      | succ m =>
        have e : eqc v (x :: t) = eqc v t + 1 := by unfold eqc; rw [List.countP_cons_of_pos (by simpa using hx)]
        obtain ⟨i, hi, h1, h2⟩ := nth_eq v t m (by omega)
        refine ⟨i + 1, by simpa using hi, by simpa using h1, ?_⟩
        rw [List.take_succ_cons]
        unfold eqc at h2 ⊢
        rw [List.countP_cons_of_pos (by simpa using hx), h2]
    · have e : eqc v (x :: t) = eqc v t := by unfold eqc; rw [List.countP_cons_of_neg (by simpa using hx)]
      obtain ⟨i, hi, h1, h2⟩ := nth_eq v t m (by omega)
      refine ⟨i + 1, by simpa using hi, by simpa using h1, ?_⟩
      rw [List.take_succ_cons]
      unfold eqc at h2 ⊢
      rw [List.countP_cons_of_neg (by simpa using hx), h2]
/-- Each rank is somebody's. -/
theorem rk_some (l : List Int) (at' : Nat) (ha : at' < l.length) : ∃ i, i < l.length ∧ rk l i = at' := by
  have c1 := (srt_le l at' ha (srt l at')).1 (Int.le_refl _)
  have c2 : cle (srt l at' - 1) l ≤ at' := by
    rcases Nat.lt_or_ge at' (cle (srt l at' - 1) l) with h | h
    · have := (srt_le l at' ha _).2 h
      omega
    · exact h
  have c3 := cle_split (srt l at') l
  obtain ⟨i, hi, h1, h2⟩ := nth_eq (srt l at') l (at' - cle (srt l at' - 1) l) (by omega)
  have h3 : rd l (i : Int) = srt l at' := by rw [rdg l i hi, h1]
  refine ⟨i, hi, ?_⟩
  rw [rk_eq l i hi, h3, h2]
  omega
theorem at_inner (l : List Int) (hl : l.length ≤ 40) (at' : Int) (i : Nat) (hi : i < l.length) : ∀ (d k j : Nat), j + d = l.length →
    vespersref14_At.l1 (k + d + 1) l at' (i : Int) (rkTo l i j : Nat) (j : Int) = if ((rk l i : Nat) : Int) = at' then some (rd l (i : Int)) else vespersref14_At.l0 k l at' ((i + 1 : Nat) : Int) := by
  intro d
  induction d with
  | zero =>
    intro k j hj
    obtain rfl : j = l.length := by omega
    simp only [vespersref14_At.l1]
    rw [if_neg (by omega), wrap_id (x := (i : Int) + 1) (by omega) (by omega), show (i : Int) + 1 = ((i + 1 : Nat) : Int) by omega, show rkTo l i l.length = rk l i from rfl]
    by_cases hr : ((rk l i : Nat) : Int) = at'
    · rw [if_pos hr, if_pos hr, if_pos (by omega), if_pos (by omega)]
    · rw [if_neg hr, if_neg hr]
  | succ d ih =>
    intro k j hj
    have i1 := ih k (j + 1) (by omega)
    have hle := rkTo_le l i j
    unfold rkTo at i1
    rw [show k + (d + 1) + 1 = (k + d + 1) + 1 by omega]
    generalize k + d + 1 = K at i1 ⊢
    simp only [vespersref14_At.l1]
    rw [if_pos (by omega), if_pos (by omega), if_pos (by omega), if_pos (by omega), wrap_id (x := (j : Int) + 1) (by omega) (by omega), wrap_id (x := ((rkTo l i j : Nat) : Int) + 1) (by omega) (by omega), show (j : Int) + 1 = ((j + 1 : Nat) : Int) by omega]
    by_cases p1 : rd l (j : Int) < rd l (i : Int)
    · rw [if_pos (by simp [ahB, p1])] at i1
      rw [if_pos p1]
      exact i1
    · rw [if_neg p1]
      by_cases p2 : rd l (j : Int) = rd l (i : Int)
      · rw [if_pos p2]
        by_cases p3 : j < i
        · rw [if_pos (by simp [ahB, p2, p3])] at i1
          rw [if_pos (by omega)]
          exact i1
        · rw [if_neg (by simp [ahB, p1, p3])] at i1
          rw [if_neg (by omega)]
          exact i1
      · rw [if_neg (by simp [ahB, p1, p2])] at i1
        rw [if_neg p2]
        exact i1
theorem at_outer (l : List Int) (hl : l.length ≤ 40) (at' : Nat) (ha : at' < l.length) : ∀ (d k i : Nat), i + d = l.length → (d + 1) * (l.length + 2) ≤ k → (∃ j, i ≤ j ∧ j < l.length ∧ rk l j = at') → vespersref14_At.l0 k l (at' : Int) (i : Int) = some (srt l at') := by
  intro d
  induction d with
  | zero =>
    intro k i hi hk ⟨j, h1, h2, _⟩
    omega
  | succ d ih =>
    intro k i hi hk ⟨j, h1, h2, h3⟩
    have hk2 : (d + 1) * (l.length + 2) + (l.length + 2) ≤ k := by rw [← Nat.succ_mul]; exact hk
    obtain ⟨m, rfl⟩ : ∃ m, k = (m + l.length + 1) + 1 := ⟨k - (l.length + 2), by omega⟩
    simp only [vespersref14_At.l0]
    rw [if_pos (by omega)]
    have := at_inner l hl (at' : Int) i (by omega) l.length m 0 (by omega)
    rw [show (((rkTo l i 0 : Nat)) : Int) = 0 from rfl, show ((0 : Nat) : Int) = 0 from rfl] at this
    rw [this]
    by_cases hr : rk l i = at'
    · rw [if_pos (by omega), rk_srt l i at' (by omega) hr ha]
    · rw [if_neg (by omega)]
      refine ih m (i + 1) (by omega) (by omega) ⟨j, ?_, h2, h3⟩
      rcases Nat.lt_or_ge i j with h | h
      · exact h
      · obtain rfl : i = j := by omega
        exact absurd h3 hr
theorem At_eq (l : List Int) (hl : l.length ≤ 40) (at' : Nat) (ha : at' < l.length) (k : Nat) (hk : 2000 ≤ k) : vespersref14_At.f k l (at' : Int) = some (srt l at') := by
  obtain ⟨i, hi, h⟩ := rk_some l at' ha
  unfold vespersref14_At.f
  have h1 : l.length + 1 ≤ 41 := by omega
  have h2 : l.length + 2 ≤ 42 := by omega
  have := Nat.mul_le_mul h1 h2
  exact at_outer l hl at' ha l.length k 0 (by omega) (by omega) ⟨i, by omega, hi, h⟩
theorem check_loop (l : List Int) (hl : l.length ≤ 40) : ∀ (d k i : Nat), i + d = l.length → d < k → vespersref14_Check.l0 k l (i : Int) = some (if (l.drop i).any wildB = true then 140 else 0) := by
  intro d
  induction d with
  | zero =>
    intro k i hi hk
    obtain ⟨k, rfl⟩ : ∃ m, k = m + 1 := ⟨k - 1, by omega⟩
    simp only [vespersref14_Check.l0]
    rw [if_neg (by omega), List.drop_of_length_le (by omega)]
    rfl
  | succ d ih =>
    intro k i hi hk
    obtain ⟨k, rfl⟩ : ∃ m, k = m + 1 := ⟨k - 1, by omega⟩
    have hlt : i < l.length := by omega
    simp only [vespersref14_Check.l0]
    rw [if_pos (by omega), if_pos (by omega), List.drop_eq_getElem_cons hlt, List.any_cons, rdg l i hlt]
    by_cases p1 : l[i] < -4294967296
    · rw [if_pos p1, show wildB l[i] = true by simp [wildB, p1]]
      rfl
    rw [if_neg p1]
    by_cases p2 : l[i] > 4294967296
    · rw [if_pos p2, show wildB l[i] = true by simp [wildB, p2]]
      rfl
    rw [if_neg p2, wrap_id (x := (i : Int) + 1) (by omega) (by omega), show (i : Int) + 1 = ((i + 1 : Nat) : Int) by omega, ih k (i + 1) (by omega) (by omega), show wildB l[i] = false by simp [wildB]; omega, Bool.false_or]
theorem check_good {l : List Int} {n : Nat} (G : GoodM l n) (hl : l.length ≤ 40) (k : Nat) (hk : 100 ≤ k) : vespersref14_Check.f k l (n : Int) = some 0 := by
  have hr := G.room
  obtain ⟨m, rfl⟩ : ∃ m, k = m + 1 := ⟨k - 1, by omega⟩
  unfold vespersref14_Check.f
  rw [if_neg (by omega), if_neg (by omega), if_neg (by omega), wrap_id (x := 2 * (n : Int)) (by omega) (by omega), wrap_id (x := 2 * (n : Int) + 1) (by omega) (by omega), decide_eq_false (by omega)]
  simp only [vespersref14_Check.j0]
  rw [if_neg (by decide)]
  have := check_loop l hl l.length m 0 (by omega) (by omega)
  rw [show ((0 : Nat) : Int) = 0 from rfl] at this
  rw [this, List.drop_zero, G.any]
  rfl
theorem check_bad {l : List Int} {a : Int} (hl : l.length ≤ 40) (h : ∀ n : Nat, a = (n : Int) → ¬ GoodM l n) (k : Nat) (hk : 100 ≤ k) : vespersref14_Check.f k l a = some 140 := by
  obtain ⟨m, rfl⟩ : ∃ m, k = m + 1 := ⟨k - 1, by omega⟩
  have bad : vespersref14_Check.j0 (m + 1) l true = some 140 := by
    simp only [vespersref14_Check.j0]
    rw [if_pos trivial]
  unfold vespersref14_Check.f
  by_cases h1 : a < 0
  · rw [if_pos h1]; exact bad
  rw [if_neg h1]
  by_cases h2 : (l.length : Int) < 1
  · rw [if_pos h2]; exact bad
  rw [if_neg h2]
  by_cases h3 : a > (l.length : Int)
  · rw [if_pos h3]; exact bad
  rw [if_neg h3, wrap_id (x := 2 * a) (by omega) (by omega), wrap_id (x := 2 * a + 1) (by omega) (by omega)]
  by_cases h4 : 2 * a + 1 > (l.length : Int)
  · rw [decide_eq_true h4]; exact bad
  rw [decide_eq_false h4]
  simp only [vespersref14_Check.j0]
  rw [if_neg (by decide)]
  have := check_loop l hl l.length m 0 (by omega) (by omega)
  rw [show ((0 : Nat) : Int) = 0 from rfl] at this
  rw [this, List.drop_zero]
  cases hw : l.any wildB with
  | true => rfl
  | false =>
    exfalso
    refine h a.toNat (by omega) ⟨by omega, by omega, fun x hx => ?_⟩
    have hx2 := List.any_eq_false.1 hw x hx
    simp [wildB] at hx2
    omega
theorem rtrim_loop (l : List Int) (hl : l.length ≤ 40) (n : Nat) (hn : 2 * n + 1 ≤ l.length) : ∀ (d k i : Nat), i + d = l.length - 2 * n → d + 2000 < k → vespersref14_Trim.l0 k l (n : Int) ((List.range i).map fun j => srt l (n + j)) ((n + i : Nat) : Int) = some (trimL l (n : Int), 0) := by
  intro d
  induction d with
  | zero =>
    intro k i hi hk
    obtain ⟨k, rfl⟩ : ∃ m, k = m + 1 := ⟨k - 1, by omega⟩
    simp only [vespersref14_Trim.l0]
    rw [wrap_id (x := (l.length : Int) - (n : Int)) (by omega) (by omega), if_neg (by omega), trimL_eq, show i = l.length - 2 * n by omega]
  | succ d ih =>
    intro k i hi hk
    obtain ⟨k, rfl⟩ : ∃ m, k = m + 1 := ⟨k - 1, by omega⟩
    simp only [vespersref14_Trim.l0]
    rw [wrap_id (x := (l.length : Int) - (n : Int)) (by omega) (by omega), if_pos (by omega), At_eq l hl (n + i) (by omega) k (by omega), Option.bind_some, if_pos (by simp; omega), wrap_id (x := ((n + i : Nat) : Int) + 1) (by omega) (by omega), show ((n + i : Nat) : Int) + 1 = ((n + (i + 1) : Nat) : Int) by omega]
    have e : ((List.range i).map fun j => srt l (n + j)) ++ [srt l (n + i)] = (List.range (i + 1)).map fun j => srt l (n + j) := by simp [List.range_succ]
    rw [e]
    exact ih k (i + 1) (by omega) (by omega)
theorem rTrim_good {l : List Int} {n : Nat} (G : GoodM l n) (hl : l.length ≤ 40) (k : Nat) (hk : 3000 ≤ k) : vespersref14_Trim.f k l (n : Int) = some (trimL l (n : Int), 0) := by
  have hr := G.room
  unfold vespersref14_Trim.f
  rw [check_good G hl k (by omega), Option.bind_some, if_pos rfl]
  exact rtrim_loop l hl n hr (l.length - 2 * n) k 0 (by omega) (by omega)
theorem rTrim_bad {l : List Int} {a : Int} (hl : l.length ≤ 40) (h : ∀ n : Nat, a = (n : Int) → ¬ GoodM l n) (k : Nat) (hk : 100 ≤ k) : vespersref14_Trim.f k l a = some ([], 140) := by
  unfold vespersref14_Trim.f
  rw [check_bad hl h k hk, Option.bind_some]
  rfl
theorem half_eq (s : Int) (h0 : -9000000000 ≤ s) (h1 : s ≤ 9000000000) : (if (wrap64 (2 * (wrap64 (Int.tdiv (wrap64 s) 2)))) > (wrap64 s) then (some (wrap64 ((wrap64 (Int.tdiv (wrap64 s) 2)) - 1), (0 : Int))) else (some (wrap64 (Int.tdiv (wrap64 s) 2), 0))) = some (s / 2, 0) := by
  rw [wrap_id (x := s) (by omega) (by omega)]
  have ht : Int.tdiv s 2 = if 0 ≤ s then s / 2 else -((-s) / 2) := by
    split
    · exact Int.tdiv_eq_ediv_of_nonneg (by omega)
    · have : s = -(-s) := by omega
      rw [this, Int.neg_tdiv, Int.tdiv_eq_ediv_of_nonneg (by omega), ← this]
  generalize Int.tdiv s 2 = q at ht ⊢
  have hq : -4500000000 ≤ q ∧ q ≤ 4500000000 := by split at ht <;> omega
  rw [wrap_id (x := q) (by omega) (by omega), wrap_id (x := 2 * q) (by omega) (by omega), wrap_id (x := q - 1) (by omega) (by omega)]
  by_cases h : 2 * q > s
  · rw [if_pos h]; congr 2; split at ht <;> omega
  · rw [if_neg h]; congr 2; split at ht <;> omega
theorem rOf_good {l : List Int} {n : Nat} (G : GoodM l n) (hl : l.length ≤ 40) (k : Nat) (hk : 3000 ≤ k) : vespersref14_Of.f k l (n : Int) = some ((srt l n + srt l (l.length - 1 - n)) / 2, 0) := by
  have hr := G.room
  have f1 := srt_fine G n (by omega)
  have f2 := srt_fine G (l.length - 1 - n) (by omega)
  unfold vespersref14_Of.f
  rw [check_good G hl k (by omega), Option.bind_some, if_pos rfl, At_eq l hl n (by omega) k (by omega), Option.bind_some, wrap_id (x := (l.length : Int) - 1) (by omega) (by omega), wrap_id (x := (l.length : Int) - 1 - (n : Int)) (by omega) (by omega), show (l.length : Int) - 1 - (n : Int) = ((l.length - 1 - n : Nat) : Int) by omega, At_eq l hl (l.length - 1 - n) (by omega) k (by omega), Option.bind_some]
  exact half_eq _ (by omega) (by omega)
theorem rOf_bad {l : List Int} {a : Int} (hl : l.length ≤ 40) (h : ∀ n : Nat, a = (n : Int) → ¬ GoodM l n) (k : Nat) (hk : 100 ≤ k) : vespersref14_Of.f k l a = some (0, 140) := by
  unfold vespersref14_Of.f
  rw [check_bad hl h k hk, Option.bind_some]
  rfl
theorem rSpread_good {l : List Int} {n : Nat} (G : GoodM l n) (hl : l.length ≤ 40) (k : Nat) (hk : 3000 ≤ k) : vespersref14_Spread.f k l (n : Int) = some (srt l (l.length - 1 - n) - srt l n, 0) := by
  have hr := G.room
  have f1 := srt_fine G n (by omega)
  have f2 := srt_fine G (l.length - 1 - n) (by omega)
  unfold vespersref14_Spread.f
  rw [check_good G hl k (by omega), Option.bind_some, if_pos rfl, wrap_id (x := (l.length : Int) - 1) (by omega) (by omega), wrap_id (x := (l.length : Int) - 1 - (n : Int)) (by omega) (by omega), show (l.length : Int) - 1 - (n : Int) = ((l.length - 1 - n : Nat) : Int) by omega, At_eq l hl (l.length - 1 - n) (by omega) k (by omega), Option.bind_some, At_eq l hl n (by omega) k (by omega), Option.bind_some, wrap_id (x := srt l (l.length - 1 - n) - srt l n) (by omega) (by omega)]
theorem rSpread_bad {l : List Int} {a : Int} (hl : l.length ≤ 40) (h : ∀ n : Nat, a = (n : Int) → ¬ GoodM l n) (k : Nat) (hk : 100 ≤ k) : vespersref14_Spread.f k l a = some (0, 140) := by
  unfold vespersref14_Spread.f
  rw [check_bad hl h k hk, Option.bind_some]
  rfl
theorem trims_tail (l : List Int) (hl : l.length ≤ 40) : ∀ (d k i : Nat) (t : List Int), i + d = t.length → t.length ≤ 40 → d + 100 < k → vesperslaw14_MidpointTrims.l0 k l l t true (t.length : Int) (i : Int) = some true := by
  intro d
  induction d with
  | zero =>
    intro k i t hi ht hk
    obtain ⟨k, rfl⟩ : ∃ m, k = m + 1 := ⟨k - 1, by omega⟩
    simp only [vesperslaw14_MidpointTrims.l0]
    rw [if_neg (by omega), if_pos trivial, Longs_self l (by omega) k (by omega), Option.bind_some]
  | succ d ih =>
    intro k i t hi ht hk
    obtain ⟨k, rfl⟩ : ∃ m, k = m + 1 := ⟨k - 1, by omega⟩
    simp only [vesperslaw14_MidpointTrims.l0]
    rw [if_pos (by omega), if_pos (by omega), if_pos (by omega), wrap_id (x := (i : Int) + 1) (by omega) (by omega), show (i : Int) + 1 = ((i + 1 : Nat) : Int) by omega]
    generalize ht' : t.set (i : Int).toNat (wrap64 (rd t (i : Int) + 1)) = t'
    have hl' : t'.length = t.length := by rw [← ht', List.length_set]
    clear ht'
    rw [← hl']
    exact ih k (i + 1) t' (by omega) (by omega) (by omega)
theorem MidpointTrims : vesperslaw14_MidpointTrims.Pure := by
  intro l a _ _ _ _
  obtain ⟨k, hk⟩ : ∃ k : Nat, k = 4000 := ⟨4000, rfl⟩
  refine ⟨k + 1, ?_⟩
  unfold vesperslaw14_MidpointTrims.f
  by_cases h0 : (l.length : Int) > 40
  · rw [if_pos h0]
  have hl : l.length ≤ 40 := by omega
  rw [if_neg h0, Option.bind_some, if_pos (by simp; omega), Option.bind_some, List.nil_append]
  by_cases hG : ∃ n : Nat, a = (n : Int) ∧ GoodM l n
  · obtain ⟨n, rfl, G⟩ := hG
    have hr := G.room
    have hp := trimL_len l n
    rw [Trim_good G, Option.bind_some, rTrim_good G hl (k + 1) (by omega), Option.bind_some, Of_good G (k + 1) (by omega), Option.bind_some, rOf_good G hl (k + 1) (by omega), Option.bind_some, Spread_good G (k + 1) (by omega), Option.bind_some, rSpread_good G hl (k + 1) (by omega), Option.bind_some, Longs_self (trimL l (n : Int)) (by omega) (k + 1) (by omega), Option.bind_some]
    simp only [if_true, beq_self_eq_true, vesperslaw14_MidpointTrims.j0]
    exact trims_tail l hl (trimL l (n : Int)).length k 0 _ (by omega) (by omega) (by omega)
  · have hB : ∀ n : Nat, a = (n : Int) → ¬ GoodM l n := fun n hn hg => hG ⟨n, hn, hg⟩
    rw [Trim_bad (by omega) hB, Option.bind_some, rTrim_bad hl hB (k + 1) (by omega), Option.bind_some, Of_bad (by omega) hB, Option.bind_some, rOf_bad hl hB (k + 1) (by omega), Option.bind_some, Spread_bad (by omega) hB, Option.bind_some, rSpread_bad hl hB (k + 1) (by omega), Option.bind_some, Longs_self [] (by simp) (k + 1) (by simp), Option.bind_some]
    simp only [if_true, beq_self_eq_true, vesperslaw14_MidpointTrims.j0]
    exact trims_tail l hl 0 k 0 [] (by simp) (by simp) (by omega)
end Go.Proofs.Ytcagoddljhagiaa.Pure
