/- MidpointTrimmed: trimmed, values rise, are 2 k fewer, and each was there; k are at most the least of them, and k at least the greatest. -/
import Derived.Test.YtcagoddljhagiaaPureMid1
set_option linter.unusedVariables false
set_option linter.unusedSimpArgs false
namespace Go.Proofs.Ytcagoddljhagiaa.Pure
open Go.RowKit Go.Proofs.Ytcagoddljhagiaa.Hand Go.Proofs.Ytcagoddljhagiaa.Mid Go.Proofs.Ytcagoddljhagiaa.PA Go.Proofs.YtcagoddljhagiaaW.PrintWords Go.Proofs.YtcagoddljhagiaaW.PrintLast

def cge (v : Int) (l : List Int) : Nat := l.countP fun x => decide (v ≤ x)
theorem cle_take (v : Int) (l : List Int) (i : Nat) (h : i < l.length) : cle v (l.take (i + 1)) = cle v (l.take i) + (if l[i] ≤ v then 1 else 0) := by
  unfold cle
  rw [List.take_succ_eq_append_getElem h, List.countP_append]
  by_cases hx : l[i] ≤ v
  · rw [if_pos hx, List.countP_cons_of_pos (by simpa using hx)]; rfl
  · rw [if_neg hx, List.countP_cons_of_neg (by simpa using hx)]; rfl
theorem cge_take (v : Int) (l : List Int) (i : Nat) (h : i < l.length) : cge v (l.take (i + 1)) = cge v (l.take i) + (if v ≤ l[i] then 1 else 0) := by
  unfold cge
  rw [List.take_succ_eq_append_getElem h, List.countP_append]
  by_cases hx : v ≤ l[i]
  · rw [if_pos hx, List.countP_cons_of_pos (by simpa using hx)]; rfl
  · rw [if_neg hx, List.countP_cons_of_neg (by simpa using hx)]; rfl
theorem rd_get (l : List Int) (i : Nat) (h : i < l.length) : rd l (i : Int) = l[i] := by
  unfold rd
  rw [Int.toNat_natCast, List.getD_eq_getElem?_getD, List.getElem?_eq_getElem h, Option.getD_some]
theorem tail_counts (A : List Int) (n : Nat) (G : GoodM A n) (hb : A.length ≤ 30) (T : List Int) (hT : T = trimL A (n : Int)) : ∀ (d k i : Nat), i + d = A.length → d < k →
    vesperslaw14_MidpointTrimmed.l2 k true (n : Int) T (cle (srt A n) (A.take i) : Nat) (cge (srt A (A.length - 1 - n)) (A.take i) : Nat) A (A.length : Int) (i : Int) = some true := by
  have hr := G.room
  have hl : T.length = A.length - 2 * n := by rw [hT]; exact trimL_len A n
  have h0 : rd T 0 = srt A n := by rw [hT]; have := trimL_rd A n 0 (by omega); simpa using this
  have h1 : rd T ((T.length : Int) - 1) = srt A (A.length - 1 - n) := by
    have := trimL_rd A n (A.length - 2 * n - 1) (by omega)
    rw [show n + (A.length - 2 * n - 1) = A.length - 1 - n by omega] at this
    rw [← this, hT]
    congr 1
    rw [← hT]
    omega
  intro d
  induction d with
  | zero =>
    intro k i hi hk
    obtain ⟨k, rfl⟩ : ∃ m, k = m + 1 := ⟨k - 1, by omega⟩
    have c1 := (srt_le A n (by omega) _).1 (Int.le_refl _)
    have c2 : n + 1 ≤ cge (srt A (A.length - 1 - n)) A := by
      have e := cle_ge A (srt A (A.length - 1 - n))
      have : ¬ (A.length - 1 - n < cle (srt A (A.length - 1 - n) - 1) A) := fun c => by
        have := (srt_le A (A.length - 1 - n) (by omega) _).2 c
        omega
      unfold cge
      omega
    simp only [vesperslaw14_MidpointTrimmed.l2]
    rw [if_neg (by omega), List.take_of_length_le (by omega), if_pos trivial, wrap_id (x := (n : Int) + 1) (by omega) (by omega), if_pos (by omega), decide_eq_true (by omega)]
  | succ d ih =>
    intro k i hi hk
    obtain ⟨k, rfl⟩ : ∃ m, k = m + 1 := ⟨k - 1, by omega⟩
    have hlt : i < A.length := by omega
    have b1 := cle_le_len (A.take i) (srt A n)
    have b2 : cge (srt A (A.length - 1 - n)) (A.take i) ≤ (A.take i).length := List.countP_le_length
    rw [List.length_take] at b1 b2
    have i1 := ih k (i + 1) (by omega) (by omega)
    rw [cle_take _ A i hlt, cge_take _ A i hlt] at i1
    simp only [vesperslaw14_MidpointTrimmed.l2]
    rw [if_pos (by omega), if_pos (by omega), if_pos (by omega), if_pos (by omega), rd_get A i hlt, h0, wrap_id (x := (T.length : Int) - 1) (by omega) (by omega), h1]
    clear h0 h1
    have p1 : (0 : Int) ≤ (T.length : Int) - 1 := by omega
    have p2 : (T.length : Int) - 1 < (T.length : Int) := by omega
    simp only [if_pos p1, if_pos p2]
    rw [wrap_id (x := (i : Int) + 1) (by omega) (by omega), wrap_id (x := ((cle (srt A n) (A.take i) : Nat) : Int) + 1) (by omega) (by omega), wrap_id (x := ((cge (srt A (A.length - 1 - n)) (A.take i) : Nat) : Int) + 1) (by omega) (by omega), show (i : Int) + 1 = ((i + 1 : Nat) : Int) by omega]
    by_cases q1 : A[i] ≤ srt A n
    · by_cases q2 : srt A (A.length - 1 - n) ≤ A[i]
      · rw [if_pos q1, if_pos q2] at i1
        rw [if_pos q1, if_pos q2]
        exact i1
      · rw [if_pos q1, if_neg q2] at i1
        rw [if_pos q1, if_neg q2]
        exact i1
    · by_cases q2 : srt A (A.length - 1 - n) ≤ A[i]
      · rw [if_neg q1, if_pos q2] at i1
        rw [if_neg q1, if_pos q2]
        exact i1
      · rw [if_neg q1, if_neg q2] at i1
        rw [if_neg q1, if_neg q2]
        exact i1
theorem inner_there (A T : List Int) (hb : A.length ≤ 30) (x5 : Bool) (x6 x10 x11 : Int) (p : Nat) (hp : p < T.length) (hT : T.length ≤ 30) (hmono : 0 < p → rd T ((p : Int) - 1) ≤ rd T (p : Int)) :
    ∀ (d k i : Nat) (b : Bool), i + d = A.length → (b = true ∨ ∃ j, i ≤ j ∧ j < A.length ∧ rd A (j : Int) = rd T (p : Int)) →
      vesperslaw14_MidpointTrimmed.l1 (k + d + 1) x5 x6 A T x10 x11 (p : Int) (rd T (p : Int)) b T (T.length : Int) (p : Int) A (A.length : Int) (i : Int) = vesperslaw14_MidpointTrimmed.l0 k x5 x6 A T x10 x11 T (T.length : Int) ((p + 1 : Nat) : Int) := by
  intro d
  induction d with
  | zero =>
    intro k i b hi h
    obtain rfl : b = true := by
      rcases h with h | ⟨j, h1, h2, _⟩
      · exact h
      · omega
    simp only [vesperslaw14_MidpointTrimmed.l1]
    rw [if_neg (by omega), if_pos trivial, wrap_id (x := (p : Int) + 1) (by omega) (by omega), show (p : Int) + 1 = ((p + 1 : Nat) : Int) by omega]
    by_cases hp0 : (p : Int) > 0
    · have hm := hmono (by omega)
      rw [if_pos hp0, wrap_id (x := (p : Int) - 1) (by omega) (by omega), if_pos (by omega), if_pos (by omega), if_neg (by omega)]
    · rw [if_neg hp0]
  | succ d ih =>
    intro k i b hi h
    simp only [show k + (d + 1) + 1 = (k + d + 1) + 1 by omega, vesperslaw14_MidpointTrimmed.l1]
    rw [if_pos (by omega), if_pos (by omega), if_pos (by omega), wrap_id (x := (i : Int) + 1) (by omega) (by omega), show (i : Int) + 1 = ((i + 1 : Nat) : Int) by omega]
    cases b with
    | true =>
      rw [if_pos rfl]
      exact ih k (i + 1) true (by omega) (.inl rfl)
    | false =>
      rw [if_neg (by simp)]
      refine ih k (i + 1) _ (by omega) ?_
      rcases h with h | ⟨j, h1, h2, h3⟩
      · cases h
      · by_cases hj : j = i
        · subst hj
          exact .inl (by rw [h3]; simp)
        · exact .inr ⟨j, by omega, h2, h3⟩
theorem outer_there (A : List Int) (n : Nat) (G : GoodM A n) (hb : A.length ≤ 30) (T : List Int) (hT : T = trimL A (n : Int)) : ∀ (d k p : Nat), p + d = T.length → (d + 1) * (A.length + 2) ≤ k →
    vesperslaw14_MidpointTrimmed.l0 k true (n : Int) A T 0 0 T (T.length : Int) (p : Int) = some true := by
  have hr := G.room
  have hl : T.length = A.length - 2 * n := by rw [hT]; exact trimL_len A n
  have hrd : ∀ j : Nat, j < A.length - 2 * n → rd T (j : Int) = srt A (n + j) := fun j hj => by rw [hT]; exact trimL_rd A n j hj
  intro d
  induction d with
  | zero =>
    intro k p hp hk
    obtain ⟨k, rfl⟩ : ∃ m, k = m + 1 := ⟨k - 1, by omega⟩
    simp only [vesperslaw14_MidpointTrimmed.l0]
    rw [if_neg (by omega)]
    have := tail_counts A n G hb T hT A.length k 0 (by omega) (by omega)
    simpa [cle, cge] using this
  | succ d ih =>
    intro k p hp hk
    have hk2 : (d + 1) * (A.length + 2) + (A.length + 2) ≤ k := by rw [← Nat.succ_mul]; exact hk
    obtain ⟨m, rfl⟩ : ∃ m, k = (m + A.length + 1) + 1 := ⟨k - (A.length + 2), by omega⟩
    simp only [vesperslaw14_MidpointTrimmed.l0]
    rw [if_pos (by omega), if_pos (by omega), if_pos (by omega)]
    have hm : 0 < p → rd T ((p : Int) - 1) ≤ rd T (p : Int) := fun h0 => by
      rw [show (p : Int) - 1 = ((p - 1 : Nat) : Int) by omega, hrd (p - 1) (by omega), hrd p (by omega)]
      exact srt_mono A _ _ (by omega) (by omega)
    have hmem : ∃ j, 0 ≤ j ∧ j < A.length ∧ rd A (j : Int) = rd T (p : Int) := by
      rw [hrd p (by omega)]
      obtain ⟨j, hj, e⟩ := List.getElem_of_mem (srt_mem A (n + p) (by omega))
      exact ⟨j, by omega, hj, by rw [rd_get A j hj, e]⟩
    have := inner_there A T hb true (n : Int) 0 0 p (by omega) (by omega) hm A.length m 0 false (by omega) (.inr hmem)
    rw [show ((0 : Nat) : Int) = 0 from rfl] at this
    rw [this]
    exact ih m (p + 1) (by omega) (by omega)
theorem MidpointTrimmed : vesperslaw14_MidpointTrimmed.Pure := by
  intro l a _ _ _ wa
  have ha := wf8 wa
  obtain ⟨k, hk⟩ : ∃ k : Nat, k = 2000 := ⟨2000, rfl⟩
  refine ⟨k + 1 + 1, ?_⟩
  unfold vesperslaw14_MidpointTrimmed.f
  rw [alive_true (k + 1 + 1) (by omega), Option.bind_some]
  by_cases h0 : (l.length : Int) = 0
  · rw [if_pos h0]
    simp only [vesperslaw14_MidpointTrimmed.j0]
    rw [if_pos trivial]
  rw [if_neg h0]
  by_cases h1 : (l.length : Int) > 30
  · rw [if_pos h1]
    simp only [vesperslaw14_MidpointTrimmed.j0]
    rw [if_pos trivial]
  rw [if_neg h1, Bool.not_true]
  simp only [vesperslaw14_MidpointTrimmed.j0]
  have hsome := some_eq l (by omega) (k + 1) (by omega)
  have hL : l.length ≤ 30 := by omega
  obtain ⟨hne, n, hn, e⟩ := cut_eq l.length a (by omega) (by omega) ha
  rw [if_neg (by decide), if_neg hne, hsome, Option.bind_some, e]
  clear e hne hsome
  have G := modL_good l n hn (by omega)
  have hl := modL_len l
  have hp := trimL_len (modL l) n
  rw [Trim_good G, Option.bind_some]
  simp only [if_true]
  rw [wrap_id (x := 2 * (n : Int)) (by omega) (by omega), wrap_id (x := ((modL l).length : Int) - 2 * (n : Int)) (by omega) (by omega), show (((trimL (modL l) (n : Int)).length : Int) != ((modL l).length : Int) - 2 * (n : Int)) = false by rw [bne_eq_false_iff_eq]; omega]
  simp only [vesperslaw14_MidpointTrimmed.j1]
  rw [if_neg (by decide)]
  have hM : (modL l).length ≤ 30 := by omega
  refine outer_there (modL l) n G hM _ rfl (trimL (modL l) (n : Int)).length k 0 (by omega) ?_
  have h31 : (trimL (modL l) (n : Int)).length + 1 ≤ 31 := by omega
  have h32 : (modL l).length + 2 ≤ 32 := by omega
  have := Nat.mul_le_mul h31 h32
  omega
end Go.Proofs.Ytcagoddljhagiaa.Pure
