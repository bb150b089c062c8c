/- A cluster with one fault: all runs, by computing them; plain. -/
import Derived.Test.YtcfloaplbmpoaaaClus0
namespace Go.Proofs.Ytcfloaplbmpoaaa.Cl
theorem faults_4 : faultsOk 4 = true := by decide +kernel
theorem faults_5 : faultsOk 5 = true := by decide +kernel
theorem faults_6 : faultsOk 6 = true := by decide +kernel
theorem faults_7 : faultsOk 7 = true := by decide +kernel
theorem faults_8 : faultsOk 8 = true := by decide +kernel
theorem faults_9 : faultsOk 9 = true := by decide +kernel
theorem faults_10 : faultsOk 10 = true := by decide +kernel
theorem faults_all (n : Nat) (h : 4 ≤ n) (h' : n ≤ 10) : faultsOk n = true := by
  have : n = 4 ∨ n = 5 ∨ n = 6 ∨ n = 7 ∨ n = 8 ∨ n = 9 ∨ n = 10 := by omega
  rcases this with rfl | rfl | rfl | rfl | rfl | rfl | rfl
  · exact faults_4
  · exact faults_5
  · exact faults_6
  · exact faults_7
  · exact faults_8
  · exact faults_9
  · exact faults_10
theorem allB_at {p : Nat → Bool} : ∀ {n : Nat}, allB p n = true → ∀ k, k < n → p k = true
  | 0, _, k, hk => absurd hk (Nat.not_lt_zero k)
  | n + 1, h, k, hk => by
    rw [allB, Bool.and_eq_true] at h
    by_cases e : k = n
    · rw [e]; exact h.1
    · exact allB_at h.2 k (by omega)
theorem run_send {n w : Nat} (h : 4 ≤ n) (h' : n ≤ 10) (hw : w < n) : runF n w w true (4 * n) 0 0 (start n (2 ^ n - 1)) = true := by
  have := allB_at (faults_all n h h') w hw
  rw [Bool.and_eq_true] at this
  exact this.1
theorem run_deaf {n w d : Nat} (h : 4 ≤ n) (h' : n ≤ 10) (hw : w < n) (hd : d < n) (hn : d ≠ w) : runF n w d false (4 * n) 0 0 (start n (2 ^ n - 1)) = true := by
  have := allB_at (faults_all n h h') w hw
  rw [Bool.and_eq_true] at this
  have := allB_at this.2 d hd
  rw [Bool.or_eq_true] at this
  rcases this with e | e
  · exact absurd (by simpa using e) hn
  · exact e
end Go.Proofs.Ytcfloaplbmpoaaa.Cl
