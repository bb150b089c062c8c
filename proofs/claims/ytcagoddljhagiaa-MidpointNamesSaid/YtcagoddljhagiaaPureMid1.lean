/- What midpoint's functions answer at values that may be trimmed, and at others. -/
import Derived.Test.YtcagoddljhagiaaPureMid0
import Derived.Test.YtcagoddljhagiaaPAx
set_option linter.unusedVariables false
set_option linter.unusedSimpArgs false
namespace Go.Proofs.Ytcagoddljhagiaa.Mid
open Go.RowKit Go.Proofs.Ytcagoddljhagiaa.Hand Go.Proofs.Ytcagoddljhagiaa.PA Go.Proofs.YtcagoddljhagiaaW.PrintWords Go.Proofs.YtcagoddljhagiaaW.PrintMore

theorem wrap_id {x : Int} (h0 : -9223372036854775808 ≤ x) (h1 : x ≤ 9223372036854775807) : wrap64 x = x := by
  unfold wrap64
  omega
theorem ends_loop (xs : List Int) (hl : xs.length ≤ 1000000) (m : Int) (hm : ∀ i : Nat, i < xs.length → m ≤ rd xs (i : Int)) (hmono : ∀ i j : Nat, i ≤ j → j < xs.length → rd xs (i : Int) ≤ rd xs (j : Int)) :
    ∀ (d k i : Nat) (x5 : Int), i + d = xs.length → d < k → (∀ j : Nat, i ≤ j → j < xs.length → x5 ≤ rd xs (j : Int)) → midpoint_ends_int64.l0 k m x5 xs (xs.length : Int) (i : Int) = some (m, if i = xs.length then x5 else rd xs ((xs.length - 1 : Nat) : Int)) := by
  intro d
  induction d with
  | zero =>
    intro k i x5 hi hk hx
    obtain ⟨k, rfl⟩ : ∃ m, k = m + 1 := ⟨k - 1, by omega⟩
    simp only [midpoint_ends_int64.l0]
    rw [if_neg (by omega), if_pos (by omega)]
  | succ d ih =>
    intro k i x5 hi hk hx
    obtain ⟨k, rfl⟩ : ∃ m, k = m + 1 := ⟨k - 1, by omega⟩
    simp only [midpoint_ends_int64.l0]
    have e1 : mn m (rd xs (i : Int)) = m := by unfold mn; rw [if_neg (by have := hm i (by omega); omega)]
    have e2 : mx x5 (rd xs (i : Int)) = rd xs (i : Int) := by
      unfold mx
      have := hx i (Nat.le_refl _) (by omega)
      split <;> omega
    rw [if_pos (by omega), if_pos (by omega), if_pos (by omega), e1, e2, wrap_id (by omega) (by omega), show (i : Int) + 1 = ((i + 1 : Nat) : Int) by omega, ih k (i + 1) _ (by omega) (by omega) (fun j h1 h2 => hmono i j (by omega) h2)]
    by_cases he : i + 1 = xs.length
    · rw [if_pos he, if_neg (by omega), show xs.length - 1 = i by omega]
    · rw [if_neg he, if_neg (by omega)]
theorem rd_drop1 (xs : List Int) (j : Nat) : rd (xs.drop 1) (j : Int) = rd xs ((j + 1 : Nat) : Int) := by
  unfold rd
  rw [Int.toNat_natCast, Int.toNat_natCast, List.getD_eq_getElem?_getD, List.getD_eq_getElem?_getD, List.getElem?_drop, Nat.add_comm]
theorem ends_trim {l : List Int} {n : Nat} (h : GoodM l n) (k : Nat) (hk : l.length < k) : midpoint_ends_int64.f k (rd (trimL l (n : Int)) 0) ((trimL l (n : Int)).drop 1) = some (srt l n, srt l (l.length - 1 - n)) := by
  have hr := h.room
  have hb := h.big
  have hlen := trimL_len l n
  have hd : ((trimL l (n : Int)).drop 1).length = l.length - 2 * n - 1 := by rw [List.length_drop, hlen]
  have h0 : rd (trimL l (n : Int)) 0 = srt l n := by have := trimL_rd l n 0 (by omega); simpa using this
  have hj : ∀ j : Nat, j < l.length - 2 * n - 1 → rd ((trimL l (n : Int)).drop 1) (j : Int) = srt l (n + j + 1) := fun j h1 => by
    rw [rd_drop1, trimL_rd l n (j + 1) (by omega), Nat.add_assoc]
  unfold midpoint_ends_int64.f
  have := ends_loop ((trimL l (n : Int)).drop 1) (by omega) (srt l n) (fun i hi => by rw [hj i (by omega)]; exact srt_mono l n _ (by omega) (by omega))
    (fun i j h1 h2 => by rw [hj i (by omega), hj j (by omega)]; exact srt_mono l _ _ (by omega) (by omega)) ((trimL l (n : Int)).drop 1).length k 0 (srt l n) (by omega) (by omega) (fun j h1 h2 => by rw [hj j (by omega)]; exact srt_mono l n _ (by omega) (by omega))
  rw [h0]
  rw [show ((0 : Nat) : Int) = 0 from rfl] at this
  rw [this]
  congr 2
  by_cases he : 0 = ((trimL l (n : Int)).drop 1).length
  · rw [if_pos he, show l.length - 1 - n = n by omega]
  · rw [if_neg he, hj _ (by omega), hd, show n + (l.length - 2 * n - 1 - 1) + 1 = l.length - 1 - n by omega]
theorem Of_good {l : List Int} {n : Nat} (h : GoodM l n) (k : Nat) (hk : l.length < k) : midpoint_Of.f k l (n : Int) = some ((srt l n + srt l (l.length - 1 - n)) / 2, 0) := by
  have hr := h.room
  have f1 := srt_fine h n (by omega)
  have f2 := srt_fine h (l.length - 1 - n) (by omega)
  unfold midpoint_Of.f
  rw [Trim_good h, Option.bind_some]
  simp only [if_true]
  rw [if_pos (by rw [trimL_len]; omega), if_pos (by rw [trimL_len]; omega), ends_trim h k hk, Option.bind_some, wrap_id (by omega) (by omega)]
theorem Spread_good {l : List Int} {n : Nat} (h : GoodM l n) (k : Nat) (hk : l.length < k) : midpoint_Spread.f k l (n : Int) = some (srt l (l.length - 1 - n) - srt l n, 0) := by
  have hr := h.room
  have f1 := srt_fine h n (by omega)
  have f2 := srt_fine h (l.length - 1 - n) (by omega)
  unfold midpoint_Spread.f
  rw [Trim_good h, Option.bind_some]
  simp only [if_true]
  rw [if_pos (by rw [trimL_len]; omega), if_pos (by rw [trimL_len]; omega), ends_trim h k hk, Option.bind_some, wrap_id (by omega) (by omega)]
theorem Of_bad {l : List Int} {a : Int} (hb : l.length ≤ 1000000) (h : ∀ n : Nat, a = (n : Int) → ¬ GoodM l n) (k : Nat) : midpoint_Of.f k l a = some (0, 140) := by
  unfold midpoint_Of.f
  rw [Trim_bad hb h, Option.bind_some]
  rfl
theorem Spread_bad {l : List Int} {a : Int} (hb : l.length ≤ 1000000) (h : ∀ n : Nat, a = (n : Int) → ¬ GoodM l n) (k : Nat) : midpoint_Spread.f k l a = some (0, 140) := by
  unfold midpoint_Spread.f
  rw [Trim_bad hb h, Option.bind_some]
  rfl
instance (l : List Int) (n : Nat) : Decidable (GoodM l n) := decidable_of_iff (2 * n + 1 ≤ l.length ∧ l.length ≤ 1000000 ∧ ∀ x ∈ l, -4294967296 ≤ x ∧ x ≤ 4294967296) ⟨fun h => ⟨h.1, h.2.1, h.2.2⟩, fun h => ⟨h.1, h.2, h.3⟩⟩
theorem is_true (l : List Int) (n : Nat) (v lo hi : Int) (k : Nat) (h : GoodM l n) (hk : l.length < k) (h1 : n < cle lo l) (h2 : cle (lo - 1) l ≤ n) (h3 : l.length - 1 - n < cle hi l) (h4 : cle (hi - 1) l ≤ l.length - 1 - n) (hv : (lo + hi) / 2 = v) : vesperslaw14_is.f k v (n : Int) l = some true := by
  have hr := h.room
  unfold vesperslaw14_is.f
  rw [Of_good h k hk, Option.bind_some, srt_eq l n lo (by omega) h1 h2, srt_eq l (l.length - 1 - n) hi (by omega) h3 h4, hv]
  simp
theorem alive_true (k : Nat) (hk : 10 ≤ k) : vesperslaw14_alive.f k = some true := by
  have a1 := is_true [5, 1, 9] 1 5 5 5 k (by decide) (by simp; omega) (by decide) (by decide) (by decide) (by decide) (by decide)
  have a2 := is_true [5, 1, 9] 0 5 1 9 k (by decide) (by simp; omega) (by decide) (by decide) (by decide) (by decide) (by decide)
  have a3 := is_true [4, (-7)] 0 (-2) (-7) 4 k (by decide) (by simp; omega) (by decide) (by decide) (by decide) (by decide) (by decide)
  rw [show ((1 : Nat) : Int) = 1 from rfl] at a1
  rw [show ((0 : Nat) : Int) = 0 from rfl] at a2 a3
  unfold vesperslaw14_alive.f
  rw [a1, Option.bind_some]
  simp only [if_true]
  rw [a2, Option.bind_some]
  simp only [if_true]
  rw [a3, Option.bind_some]
theorem longs_loop (a : List Int) (hl : a.length ≤ 1000000) : ∀ (d k i : Nat), i + d = a.length → d < k → vespersref13_Longs.l0 k a a (i : Int) = some true := by
  intro d
  induction d with
  | zero =>
    intro k i hi hk
    obtain ⟨k, rfl⟩ : ∃ m, k = m + 1 := ⟨k - 1, by omega⟩
    simp only [vespersref13_Longs.l0]
    rw [if_neg (by omega)]
  | succ d ih =>
    intro k i hi hk
    obtain ⟨k, rfl⟩ : ∃ m, k = m + 1 := ⟨k - 1, by omega⟩
    simp only [vespersref13_Longs.l0]
    rw [if_pos (by omega), if_pos (by omega), if_pos (by omega), if_pos trivial, wrap_id (by omega) (by omega), show (i : Int) + 1 = ((i + 1 : Nat) : Int) by omega]
    exact ih k (i + 1) (by omega) (by omega)
theorem Longs_self (a : List Int) (hl : a.length ≤ 1000000) (k : Nat) (hk : a.length < k) : vespersref13_Longs.f k a a = some true := by
  unfold vespersref13_Longs.f
  rw [if_pos rfl]
  exact longs_loop a hl _ k 0 (by omega) hk
/-- What 'some' makes of numbers. -/
def modL (l : List Int) : List Int := l.map fun n => Int.tmod n 2147483648
theorem modL_len (l : List Int) : (modL l).length = l.length := by simp [modL]
theorem some_loop (l : List Int) (hl : l.length ≤ 1000000) : ∀ (d k i : Nat), i + d = l.length → d < k → vesperslaw14_some.l0 k (modL (l.take i)) l (l.length : Int) (i : Int) = some (modL l) := by
  intro d
  induction d with
  | zero =>
    intro k i hi hk
    obtain ⟨k, rfl⟩ : ∃ m, k = m + 1 := ⟨k - 1, by omega⟩
    simp only [vesperslaw14_some.l0]
    rw [if_neg (by omega), List.take_of_length_le (by omega)]
  | succ d ih =>
    intro k i hi hk
    obtain ⟨k, rfl⟩ : ∃ m, k = m + 1 := ⟨k - 1, by omega⟩
    simp only [vesperslaw14_some.l0]
    rw [if_pos (by omega), if_pos (by omega), if_pos (by omega), if_pos (by rw [modL_len, List.length_take]; omega), wrap_id (by omega) (by omega), show (i : Int) + 1 = ((i + 1 : Nat) : Int) by omega]
    have e : modL (l.take i) ++ [Int.tmod (rd l (i : Int)) 2147483648] = modL (l.take (i + 1)) := by
      unfold modL rd
      rw [List.take_succ_eq_append_getElem (by omega : i < l.length), List.map_append, Int.toNat_natCast, List.getD_eq_getElem?_getD, List.getElem?_eq_getElem (by omega)]
      rfl
    rw [e]
    exact ih k (i + 1) (by omega) (by omega)
theorem some_eq (l : List Int) (hl : l.length ≤ 1000000) (k : Nat) (hk : l.length < k) : vesperslaw14_some.f k l = some (modL l) := by
  unfold vesperslaw14_some.f
  exact some_loop l hl _ k 0 (by omega) hk
theorem tmod_bound (a : Int) : -2147483648 < Int.tmod a 2147483648 ∧ Int.tmod a 2147483648 < 2147483648 := by
  have h1 := Int.tmod_lt_of_pos a (show (0 : Int) < 2147483648 by omega)
  have h2 : -2147483648 < Int.tmod a 2147483648 := by
    rcases Int.le_total 0 a with h | h
    · have := Int.tmod_nonneg 2147483648 h
      omega
    · have h3 := Int.tmod_lt_of_pos (-a) (show (0 : Int) < 2147483648 by omega)
      rw [Int.neg_tmod] at h3
      omega
  exact ⟨h2, h1⟩
theorem modL_bound (l : List Int) : ∀ x ∈ modL l, -2147483648 < x ∧ x < 2147483648 := by
  intro x hx
  obtain ⟨y, _, rfl⟩ := List.mem_map.1 hx
  exact tmod_bound y
theorem modL_good (l : List Int) (n : Nat) (h : 2 * n + 1 ≤ l.length) (hb : l.length ≤ 1000000) : GoodM (modL l) n :=
  ⟨by rw [modL_len]; exact h, by rw [modL_len]; exact hb, fun x hx => by have := modL_bound l x hx; omega⟩
theorem wf8 {a : Int} (h : (Lit.int .u8 a).wf = true) : 0 ≤ a ∧ a ≤ 255 := by
  simp [Lit.wf, IntKind.min, IntKind.max, IntKind.bits, IntKind.signed] at h
  constructor <;> omega
theorem wfu16 {a : Int} (h : (Lit.int .u16 a).wf = true) : 0 ≤ a ∧ a ≤ 65535 := by
  simp [Lit.wf, IntKind.min, IntKind.max, IntKind.bits, IntKind.signed] at h
  constructor <;> omega
theorem wfi16 {a : Int} (h : (Lit.int .i16 a).wf = true) : -32768 ≤ a ∧ a ≤ 32767 := by
  simp [Lit.wf, IntKind.min, IntKind.max, IntKind.bits, IntKind.signed] at h
  constructor <;> omega
theorem wfi64 {a : Int} (h : (Lit.int .i64 a).wf = true) : -9223372036854775808 ≤ a ∧ a ≤ 9223372036854775807 := by
  simp [Lit.wf, IntKind.min, IntKind.max, IntKind.bits, IntKind.signed] at h
  constructor <;> omega
/-- The k of the laws: 'k % ((len - 1) / 2 + 1)'. -/
theorem cut_eq (L : Nat) (a : Int) (h0 : 0 < L) (h1 : L ≤ 30) (ha : 0 ≤ a ∧ a ≤ 255) :
    (wrap64 ((wrap64 (Int.tdiv (wrap64 ((L : Int) - 1)) 2)) + 1)) ≠ 0 ∧ ∃ n : Nat, 2 * n + 1 ≤ L ∧ Int.tmod (wrap64 a) (wrap64 ((wrap64 (Int.tdiv (wrap64 ((L : Int) - 1)) 2)) + 1)) = (n : Int) := by
  have e1 : wrap64 ((L : Int) - 1) = (L : Int) - 1 := wrap_id (by omega) (by omega)
  have e2 : Int.tdiv ((L : Int) - 1) 2 = ((L : Int) - 1) / 2 := Int.tdiv_eq_ediv_of_nonneg (by omega)
  have e3 : wrap64 (((L : Int) - 1) / 2) = ((L : Int) - 1) / 2 := wrap_id (by omega) (by omega)
  have e4 : wrap64 (((L : Int) - 1) / 2 + 1) = ((L : Int) - 1) / 2 + 1 := wrap_id (by omega) (by omega)
  have e5 : wrap64 a = a := wrap_id (by omega) (by omega)
  rw [e1, e2, e3, e4, e5]
  refine ⟨by omega, ?_⟩
  have p : (0 : Int) < ((L : Int) - 1) / 2 + 1 := by omega
  have t0 := Int.tmod_nonneg (((L : Int) - 1) / 2 + 1) ha.1
  have t1 := Int.tmod_lt_of_pos a p
  generalize Int.tmod a (((L : Int) - 1) / 2 + 1) = r at t0 t1 ⊢
  exact ⟨r.toNat, by omega, by omega⟩
end Go.Proofs.Ytcagoddljhagiaa.Mid
