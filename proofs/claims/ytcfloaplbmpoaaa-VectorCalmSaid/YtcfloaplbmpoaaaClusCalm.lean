/- A cluster without a fault, or with one that is silent: all runs, by computing them; plain. -/
import Derived.Test.YtcfloaplbmpoaaaClus0
namespace Go.Proofs.Ytcfloaplbmpoaaa.Cl
theorem calm_3 : calmOk 3 = true := by decide +kernel
theorem calm_4 : calmOk 4 = true := by decide +kernel
theorem calm_5 : calmOk 5 = true := by decide +kernel
theorem calm_6 : calmOk 6 = true := by decide +kernel
theorem calm_7 : calmOk 7 = true := by decide +kernel
theorem calm_8 : calmOk 8 = true := by decide +kernel
theorem calm_9 : calmOk 9 = true := by decide +kernel
theorem calm_10 : calmOk 10 = true := by decide +kernel
theorem calm_11 : calmOk 11 = true := by decide +kernel
theorem calm_12 : calmOk 12 = true := by decide +kernel
theorem calm_13 : calmOk 13 = true := by decide +kernel
theorem calm_14 : calmOk 14 = true := by decide +kernel
theorem calm_15 : calmOk 15 = true := by decide +kernel
theorem calm_16 : calmOk 16 = true := by decide +kernel
theorem calm_all (n : Nat) (h : 3 ≤ n) (h' : n ≤ 16) : calmOk n = true := by
  have : n = 3 ∨ n = 4 ∨ n = 5 ∨ n = 6 ∨ n = 7 ∨ n = 8 ∨ n = 9 ∨ n = 10 ∨ n = 11 ∨ n = 12 ∨ n = 13 ∨ n = 14 ∨ n = 15 ∨ n = 16 := by omega
  rcases this with rfl | rfl | rfl | rfl | rfl | rfl | rfl | rfl | rfl | rfl | rfl | rfl | rfl | rfl
  · exact calm_3
  · exact calm_4
  · exact calm_5
  · exact calm_6
  · exact calm_7
  · exact calm_8
  · exact calm_9
  · exact calm_10
  · exact calm_11
  · exact calm_12
  · exact calm_13
  · exact calm_14
  · exact calm_15
  · exact calm_16
theorem allB_at {p : Nat → Bool} : ∀ {n : Nat}, allB p n = true → ∀ k, k < n → p k = true
  | 0, _, k, hk => absurd hk (Nat.not_lt_zero k)
  | n + 1, h, k, hk => by
    rw [allB, Bool.and_eq_true] at h
    by_cases e : k = n
    · rw [e]; exact h.1
    · exact allB_at h.2 k (by omega)
theorem run_calm {n k : Nat} (h : 3 ≤ n) (h' : n ≤ 16) (hk : k < 20) : runC n k (3 * n) 0 (startC k (2 ^ n - 1) n) = true := allB_at (calm_all n h h') k hk
end Go.Proofs.Ytcfloaplbmpoaaa.Cl
