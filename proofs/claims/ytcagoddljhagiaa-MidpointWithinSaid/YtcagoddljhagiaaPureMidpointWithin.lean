/- MidpointWithin: if all but k of the values lie between two numbers, so does the midpoint, whatever the k others are. -/
import Derived.Test.YtcagoddljhagiaaPureMid1
set_option linter.unusedVariables false
set_option linter.unusedSimpArgs false
namespace Go.Proofs.Ytcagoddljhagiaa.Pure
open Go.RowKit Go.Proofs.Ytcagoddljhagiaa.Hand Go.Proofs.Ytcagoddljhagiaa.Mid Go.Proofs.Ytcagoddljhagiaa.PA Go.Proofs.YtcagoddljhagiaaW.PrintWords Go.Proofs.YtcagoddljhagiaaW.PrintLast Go.Proofs.YtcagoddljhagiaaW.PrintMore

/-- The values behind i rounds. -/
def allL (W A : List Int) (n : Nat) (lo hi : Int) : Nat → List Int
  | 0 => []
  | i + 1 => (allL W A n lo hi i ++ if i < n then [Int.tmod (rd W (i : Int)) 2147483648] else []) ++ [mx lo (mn (rd A (i : Int)) hi)]
theorem allL_len (W A : List Int) (n : Nat) (lo hi : Int) : ∀ i, (allL W A n lo hi i).length = i + min i n
  | 0 => by simp [allL]
  | i + 1 => by
    simp only [allL, List.length_append, allL_len W A n lo hi i, List.length_cons, List.length_nil]
    by_cases h : i < n
    · rw [if_pos h]; simp; omega
    · rw [if_neg h]; simp; omega
theorem clamp_in (lo hi x : Int) (h : lo ≤ hi) : lo ≤ mx lo (mn x hi) ∧ mx lo (mn x hi) ≤ hi := by
  unfold mx mn
  split <;> split <;> omega
theorem allL_fine (W A : List Int) (n : Nat) (lo hi : Int) (h : lo ≤ hi) (h0 : -2147483648 < lo) (h1 : hi < 2147483648) : ∀ i, ∀ x ∈ allL W A n lo hi i, -2147483648 < x ∧ x < 2147483648
  | 0 => fun x hx => by simp [allL] at hx
  | i + 1 => fun x hx => by
    simp only [allL] at hx
    rcases List.mem_append.1 hx with hx | hx
    · rcases List.mem_append.1 hx with hx | hx
      · exact allL_fine W A n lo hi h h0 h1 i x hx
      · by_cases hi : i < n
        · rw [if_pos hi] at hx
          rw [List.mem_singleton.1 hx]
          exact tmod_bound _
        · rw [if_neg hi] at hx
          cases hx
    · rw [List.mem_singleton.1 hx]
      have := clamp_in lo hi (rd A (i : Int)) h
      omega
theorem allL_low (W A : List Int) (n : Nat) (lo hi : Int) (h : lo ≤ hi) : ∀ i, cle (lo - 1) (allL W A n lo hi i) ≤ min i n
  | 0 => by simp [allL, cle]
  | i + 1 => by
    have ih := allL_low W A n lo hi h i
    have c := clamp_in lo hi (rd A (i : Int)) h
    unfold cle at ih ⊢
    simp only [allL, List.countP_append]
    rw [List.countP_cons_of_neg (by simp; omega)]
    by_cases hi : i < n
    · rw [if_pos hi]
      have : List.countP (fun x => decide (x ≤ lo - 1)) [Int.tmod (rd W (i : Int)) 2147483648] ≤ 1 := List.countP_le_length
      simp at ih this ⊢
      omega
    · rw [if_neg hi]
      simp at ih ⊢
      omega
theorem allL_high (W A : List Int) (n : Nat) (lo hi : Int) (h : lo ≤ hi) : ∀ i, i ≤ cle hi (allL W A n lo hi i)
  | 0 => Nat.zero_le _
  | i + 1 => by
    have ih := allL_high W A n lo hi h i
    have c := clamp_in lo hi (rd A (i : Int)) h
    unfold cle at ih ⊢
    simp only [allL, List.countP_append]
    rw [List.countP_cons_of_pos (by simp; omega)]
    omega
theorem within_tail (L : List Int) (n : Nat) (lo hi : Int) (G : GoodM L n) (hL : L.length ≤ 100) (h : lo ≤ hi) (h0 : -2147483648 < lo) (h1 : hi < 2147483648) (hlow : cle (lo - 1) L ≤ n) (hhigh : L.length - n ≤ cle hi L) (k : Nat) (hk : 200 ≤ k) :
    ((midpoint_Of.f k L (n : Int)).bind fun bt318 => ((midpoint_Spread.f k L (n : Int)).bind fun bt320 => (if true = true then (if bt318.2 = 0 then (if bt320.2 = 0 then (if bt318.1 ≥ lo then (if bt318.1 ≤ hi then (if bt320.1 ≥ 0 then (some (decide (bt320.1 ≤ (wrap64 (hi - lo))))) else (none)) else (none)) else (none)) else (none)) else (none)) else (none)))) = some true := by
  have hr := G.room
  have a1 : lo ≤ srt L n := by
    have : ¬ srt L n ≤ lo - 1 := fun c => by have := (srt_le L n (by omega) _).1 c; omega
    omega
  have a2 : srt L (L.length - 1 - n) ≤ hi := (srt_le L (L.length - 1 - n) (by omega) _).2 (by omega)
  have a3 := srt_mono L n (L.length - 1 - n) (by omega) (by omega)
  rw [Of_good G k (by omega), Option.bind_some, Spread_good G k (by omega), Option.bind_some]
  simp only [if_true]
  generalize srt L n = x at *
  generalize srt L (L.length - 1 - n) = y at *
  rw [if_pos (by omega), if_pos (by omega), if_pos (by omega), wrap_id (x := hi - lo) (by omega) (by omega), decide_eq_true (by omega)]
theorem within_loop (W A : List Int) (n : Nat) (lo hi : Int) (hn : n = W.length) (hn1 : n ≤ 10) (hA : A.length ≤ 30) (hAn : n + 1 ≤ A.length) (h : lo ≤ hi) (h0 : -2147483648 < lo) (h1 : hi < 2147483648) : ∀ (e k i : Nat), i + e = A.length → e + 300 < k →
    vesperslaw14_MidpointWithin.l0 k W true (n : Int) lo hi (allL W A n lo hi i) A (A.length : Int) (i : Int) = some true := by
  intro e
  induction e with
  | zero =>
    intro k i hi' hk
    obtain ⟨k, rfl⟩ : ∃ m, k = m + 1 := ⟨k - 1, by omega⟩
    obtain rfl : i = A.length := by omega
    have hl := allL_len W A n lo hi A.length
    have hf := allL_fine W A n lo hi h h0 h1 A.length
    have hw := allL_low W A n lo hi h A.length
    have hg := allL_high W A n lo hi h A.length
    simp only [vesperslaw14_MidpointWithin.l0]
    rw [if_neg (by omega)]
    have := within_tail (allL W A n lo hi A.length) n lo hi ⟨by omega, by omega, fun x hx => by have := hf x hx; omega⟩ (by omega) h h0 h1 (by omega) (by omega) k (by omega)
    simpa only [if_true] using this
  | succ e ih =>
    intro k i hi' hk
    obtain ⟨k, rfl⟩ : ∃ m, k = m + 1 := ⟨k - 1, by omega⟩
    have i1 := ih k (i + 1) (by omega) (by omega)
    have hl := allL_len W A n lo hi i
    simp only [vesperslaw14_MidpointWithin.l0]
    simp only [allL] at i1
    rw [if_pos (by omega), if_pos (by omega), if_pos (by omega)]
    by_cases hin : i < n
    · rw [if_pos hin] at i1
      rw [if_pos (by omega), if_pos (by omega), if_pos (by omega), Option.bind_some, if_pos (by rw [List.length_append, hl]; simp; omega), wrap_id (x := (i : Int) + 1) (by omega) (by omega), show (i : Int) + 1 = ((i + 1 : Nat) : Int) by omega]
      exact i1
    · rw [if_neg hin, List.append_nil] at i1
      rw [if_neg (by omega), if_pos (by omega), wrap_id (x := (i : Int) + 1) (by omega) (by omega), show (i : Int) + 1 = ((i + 1 : Nat) : Int) by omega]
      exact i1
theorem MidpointWithin : vesperslaw14_MidpointWithin.Pure := by
  intro l W a b _ _ _ _ _ _ _ _
  obtain ⟨k, hk⟩ : ∃ k : Nat, k = 400 := ⟨400, rfl⟩
  refine ⟨k + 1 + 1, ?_⟩
  unfold vesperslaw14_MidpointWithin.f
  rw [alive_true (k + 1 + 1) (by omega), Option.bind_some]
  have done : vesperslaw14_MidpointWithin.j0 (k + 1 + 1) l W a b true (W.length : Int) true = some true := by
    simp only [vesperslaw14_MidpointWithin.j0]
    rw [if_pos trivial]
  by_cases h0 : (l.length : Int) > 30
  · rw [if_pos h0]; exact done
  rw [if_neg h0]
  by_cases h1 : (W.length : Int) > 10
  · rw [if_pos h1]; exact done
  rw [if_neg h1, wrap_id (x := (W.length : Int) + 1) (by omega) (by omega)]
  by_cases h2 : (l.length : Int) < (W.length : Int) + 1
  · rw [if_pos h2]; exact done
  rw [if_neg h2, Bool.not_true]
  simp only [vesperslaw14_MidpointWithin.j0]
  rw [if_neg (by decide), some_eq l (by omega) (k + 1) (by omega), Option.bind_some]
  have hl := modL_len l
  have t1 := tmod_bound a
  have t2 := tmod_bound b
  generalize Int.tmod a 2147483648 = x at *
  generalize Int.tmod b 2147483648 = y at *
  have hlo : -2147483648 < mn x y ∧ mn x y ≤ mx x y ∧ mx x y < 2147483648 := by
    unfold mn mx
    split <;> split <;> omega
  exact within_loop W (modL l) W.length (mn x y) (mx x y) rfl (by omega) (by omega) (by omega) hlo.2.1 hlo.1 hlo.2.2 (modL l).length (k + 1) 0 (by omega) (by omega)
end Go.Proofs.Ytcagoddljhagiaa.Pure
