/- A capture as a list of 32 slots: plain facts. -/
import Derived.Test.YtfhkmokgbndeeaaProg
import Derived.Test.YtfhkmokgbndeeaaWWords
import Derived.Test.YtfhkmokgbndeeaaWMore
set_option linter.unusedVariables false
namespace Go.Proofs.Ytfhkmokgbndeeaa.Cap
open Go.RowKit

abbrev Cp := List (Option Int)
def cel (o : Option Int) : List Value := match o with | some x => [.bool true, .int .i64 x] | none => [.bool false, .int .i64 0]
theorem cel_len (o : Option Int) : (cel o).length = 2 := by cases o <;> rfl
def encL (m : Cp) : List Value := m.flatMap cel
def encC (m : Cp) : Array Value := (encL m).toArray
theorem encL_len (m : Cp) : (encL m).length = 2 * m.length := by
  induction m with
  | nil => rfl
  | cons o t ih => simp [encL, cel_len] at ih ⊢; omega
theorem encC_size (m : Cp) : (encC m).size = 2 * m.length := by simp [encC, encL_len]
theorem encL_get (m : Cp) : ∀ (j : Nat) (h : j < m.length), (encL m)[2 * j]? = some (.bool (m[j]).isSome) ∧ (encL m)[2 * j + 1]? = some (.int .i64 ((m[j]).getD 0)) := by
  induction m with
  | nil => intro j h; simp at h
  | cons o t ih =>
    intro j h
    have e : encL (o :: t) = cel o ++ encL t := rfl
    cases j with
    | zero => cases o <;> simp [e, cel]
    | succ j =>
      have := ih j (by simpa using h)
      rw [e, show 2 * (j + 1) = 2 * j + 2 by omega, show 2 * j + 2 + 1 = 2 * j + 1 + 2 by omega, List.getElem?_append_right (by rw [cel_len]; omega), List.getElem?_append_right (by rw [cel_len]; omega), cel_len]
      simpa using this
theorem encC_is (m : Cp) (j : Nat) (h : j < m.length) : (encC m)[2 * j]? = some (.bool (m[j]).isSome) := by simp [encC, (encL_get m j h).1]
theorem encC_x (m : Cp) (j : Nat) (h : j < m.length) : (encC m)[2 * j + 1]? = some (.int .i64 ((m[j]).getD 0)) := by simp [encC, (encL_get m j h).2]
theorem encL_set (m : Cp) : ∀ (j : Nat) (h : j < m.length) (o : Option Int), (encL m).take (2 * j) ++ cel o ++ (encL m).drop (2 * j + 2) = encL (m.set j o) := by
  induction m with
  | nil => intro j h; simp at h
  | cons a t ih =>
    intro j h o
    have e : ∀ a t, encL (a :: t) = cel a ++ encL t := fun _ _ => rfl
    cases j with
    | zero =>
      rw [List.set_cons_zero, e, e]
      simp only [Nat.mul_zero, List.take_zero, List.nil_append, Nat.zero_add]
      rw [List.drop_append_of_le_length (by rw [cel_len]; omega), List.drop_of_length_le (by rw [cel_len]; omega), List.nil_append]
    | succ j =>
      rw [List.set_cons_succ, e, e, ← ih j (by simpa using h) o, show 2 * (j + 1) = 2 + 2 * j by omega, show 2 + 2 * j + 2 = 2 + (2 * j + 2) by omega]
      rw [List.take_append, List.drop_append, cel_len, List.take_of_length_le (by rw [cel_len]; omega), List.drop_of_length_le (by rw [cel_len]; omega)]
      simp [show 2 + 2 * j - 2 = 2 * j by omega, show 2 + (2 * j + 2) - 2 = 2 * j + 2 by omega]
/-- The deviation of both channels. -/
def byR (a b : Option Int) : Int × Bool := match a, b with
  | some x, some y => ((x + y) / 2, true)
  | some x, none => (x, true)
  | none, some y => (y, true)
  | none, none => (0, false)
def slotN (n ch : Nat) : Nat := 2 * n + ch
def okN (n ch by_ : Int) : Bool := decide (0 ≤ n ∧ n < 16 ∧ 0 ≤ ch ∧ ch < 2 ∧ -4294967296 ≤ by_ ∧ by_ ≤ 4294967296)
def atS (m : Cp) (j : Nat) : Option Int := m.getD j none
def noteE (m : Cp) (n ch by_ : Int) : Int := if okN n ch by_ = true ∧ atS m (slotN n.toNat ch.toNat) = none then 0 else 130
def noteM (m : Cp) (n ch by_ : Int) : Cp := if okN n ch by_ = true ∧ atS m (slotN n.toNat ch.toNat) = none then m.set (slotN n.toNat ch.toNat) (some by_) else m
def ofR (m : Cp) (n : Int) : Int × Bool := if 0 ≤ n ∧ n < 16 then byR (atS m (2 * n.toNat)) (atS m (2 * n.toNat + 1)) else (0, false)
/-- What is told of each node. -/
def pairN (m : Cp) (n : Nat) : Option Int × Option Int := (atS m (2 * n), atS m (2 * n + 1))
def listD (m : Cp) : List (Int × Int) := (List.range 16).filterMap fun (n : Nat) => if (byR (pairN m n).1 (pairN m n).2).2 = true then some ((n : Int), (byR (pairN m n).1 (pairN m n).2).1) else none
def valsD (m : Cp) (own : Int) : List Int := (List.range 16).filterMap fun (n : Nat) => if (n : Int) = own then some 0 else if (byR (pairN m n).1 (pairN m n).2).2 = true then some (byR (pairN m n).1 (pairN m n).2).1 else none
def forgetM (m : Cp) (n : Int) : Cp := if (ofR m n).2 = true then (m.set (2 * n.toNat) none).set (2 * n.toNat + 1) none else m
def none32 : Cp := List.replicate 32 none
end Go.Proofs.Ytfhkmokgbndeeaa.Cap
