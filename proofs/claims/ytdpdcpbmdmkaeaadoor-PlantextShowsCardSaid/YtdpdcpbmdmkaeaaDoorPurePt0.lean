/- Plan texts, plain: what the document shows of a number are its digits. -/
import Derived.Test.YtdpdcpbmdmkaeaaDoorPAx1
import Derived.Test.YtdpdcpbmdmkaeaaDoorHandPt6
set_option linter.unusedVariables false
set_option linter.unusedSimpArgs false
namespace Go.Proofs.YtdpdcpbmdmkaeaaDoor.Pure
set_option maxRecDepth 100000
open Go.RowKit Go.Proofs.YtdpdcpbmdmkaeaaDoor.Hand Go.Proofs.YtdpdcpbmdmkaeaaDoor.PA Go.Proofs.YtdpdcpbmdmkaeaaDoorW.PrintWords Go.Proofs.YtdpdcpbmdmkaeaaDoorW.PrintLast

theorem u64_id {x : Int} (h0 : 0 ≤ x) (h1 : x < 18446744073709551616) : IntKind.u64.wrap x = x := by
  unfold IntKind.wrap
  simp [IntKind.bits, IntKind.signed]
  omega
theorem w_id {x : Int} (h0 : -9223372036854775808 ≤ x) (h1 : x ≤ 9223372036854775807) : wrap64 x = x := by unfold wrap64; omega
theorem cat_ (a b : List UInt8) : (⟨a.toArray⟩ : ByteArray) ++ (⟨b.toArray⟩ : ByteArray) = ⟨(a ++ b).toArray⟩ := by
  apply ByteArray.ext
  simp
theorem dd (m : Nat) : Lib.decDigits m = (if m / 10 = 0 then [] else Lib.decDigits (m / 10)) ++ [UInt8.ofNat (48 + m % 10)] := by
  rw [Lib.decDigits]
  by_cases h : m < 10
  · rw [dif_pos h, if_pos (by omega), show m % 10 = m by omega]
    rfl
  · rw [dif_neg h, if_neg (by omega)]
theorem dig (m : Nat) (h : m < 18446744073709551616) : strOfNums [(IntKind.u64.wrap (48 + (Int.tmod (m : Int) 10))) % 256] = ⟨[UInt8.ofNat (48 + m % 10)].toArray⟩ := by
  have h1 : Int.tmod (m : Int) 10 = ((m % 10 : Nat) : Int) := rfl
  rw [h1, u64_id (by omega) (by omega)]
  have h2 : (48 + ((m % 10 : Nat) : Int)) % 256 = ((48 + m % 10 : Nat) : Int) := by omega
  rw [h2]
  rfl
theorem quo (m : Nat) (h : m < 18446744073709551616) : IntKind.u64.wrap (Int.tdiv (m : Int) 10) = ((m / 10 : Nat) : Int) := by
  have h1 : Int.tdiv (m : Int) 10 = ((m / 10 : Nat) : Int) := rfl
  rw [h1, u64_id (by omega) (by omega)]
def fin_ (n : Int) (l : List UInt8) : ByteArray := if n < 0 then ⟨(45 :: l).toArray⟩ else ⟨l.toArray⟩
theorem size_ (l : List UInt8) : (⟨l.toArray⟩ : ByteArray).size = l.length := by simp [ByteArray.size]
theorem fin_eq (n : Int) (l : List UInt8) (hl : l.length ≤ 1000) : (if n < 0 then (if 1 + (⟨l.toArray⟩ : ByteArray).size ≤ 9223372036854775807 then (some ((⟨#[45]⟩ : ByteArray) ++ (⟨l.toArray⟩ : ByteArray))) else (none)) else (some (⟨l.toArray⟩ : ByteArray))) = some (fin_ n l) := by
  unfold fin_
  by_cases h : n < 0
  · rw [if_pos h, if_pos h, if_pos (by rw [size_]; omega)]
    exact congrArg some (cat_ [45] l)
  · rw [if_neg h, if_neg h]
theorem shown_step (n : Int) (m : Nat) (hm : m < 18446744073709551616) (l : List UInt8) (hl : l.length ≤ 100) (i k : Nat) (hi : i < 20) (h : 0 < m ∨ i = 0) : vespersref08_shown.l0 (k + 1) n (m : Int) ⟨l.toArray⟩ (i : Int) = vespersref08_shown.l0 k n ((m / 10 : Nat) : Int) ⟨(UInt8.ofNat (48 + m % 10) :: l).toArray⟩ ((i + 1 : Nat) : Int) := by
  have hw : wrap64 ((i : Int) + 1) = ((i + 1 : Nat) : Int) := by rw [w_id (by omega) (by omega)]; rfl
  have hc := cat_ [UInt8.ofNat (48 + m % 10)] l
  rw [vespersref08_shown.l0, if_pos (by omega)]
  by_cases h0 : (m : Int) > 0
  · rw [if_pos h0]
    simp only [Option.bind_some]
    rw [dig m hm, quo m hm, hw, hc, if_pos (by rw [size_, size_]; simp; omega)]
    rfl
  · rw [if_neg h0, if_pos (by omega)]
    simp only [Option.bind_some]
    rw [dig m hm, quo m hm, hw, hc, if_pos (by rw [size_, size_]; simp; omega)]
    rfl
theorem shown_end (n : Int) (l : List UInt8) (hl : l.length ≤ 100) (i k : Nat) (hi : 0 < i) : vespersref08_shown.l0 (k + 1) n ((0 : Nat) : Int) ⟨l.toArray⟩ (i : Int) = some (fin_ n l) := by
  have hf := fin_eq n l (by omega)
  rw [vespersref08_shown.l0]
  by_cases h : (i : Int) < 20
  · rw [if_pos h, if_neg (by simp), if_neg (by omega), hf]
  · rw [if_neg h, hf]
theorem shown_loop (n : Int) : ∀ (d m : Nat) (l : List UInt8) (i k : Nat), m < 10 ^ d → d + i ≤ 20 → 0 < i → m < 18446744073709551616 → l.length ≤ i → d < k → vespersref08_shown.l0 k n (m : Int) ⟨l.toArray⟩ (i : Int) = some (fin_ n ((if m = 0 then [] else Lib.decDigits m) ++ l)) := by
  intro d
  induction d with
  | zero =>
    intro m l i k hm hd hi hm2 hl hk
    obtain ⟨k, rfl⟩ : ∃ j, k = j + 1 := ⟨k - 1, by omega⟩
    obtain rfl : m = 0 := by simpa using hm
    rw [shown_end n l (by omega) i k hi]
    rfl
  | succ d ih =>
    intro m l i k hm hd hi hm2 hl hk
    obtain ⟨k, rfl⟩ : ∃ j, k = j + 1 := ⟨k - 1, by omega⟩
    by_cases h0 : m = 0
    · subst h0
      rw [shown_end n l (by omega) i k hi]
      rfl
    · rw [shown_step n m hm2 l (by omega) i k (by omega) (.inl (by omega)), ih (m / 10) _ (i + 1) k (by rw [Nat.pow_succ] at hm; omega) (by omega) (by omega) (by omega) (by simp; omega) (by omega), if_neg h0, dd m]
      simp
theorem shown_m (n : Int) (m : Nat) (hm : m < 18446744073709551616) (k : Nat) (hk : 25 ≤ k) : vespersref08_shown.j0 k n (m : Int) ⟨#[]⟩ = some (fin_ n (Lib.decDigits m)) := by
  obtain ⟨k, rfl⟩ : ∃ j, k = j + 2 := ⟨k - 2, by omega⟩
  rw [vespersref08_shown.j0]
  have h1 := shown_step n m hm [] (by simp) 0 k (by omega) (.inr rfl)
  have h2 := shown_loop n 19 (m / 10) [UInt8.ofNat (48 + m % 10)] 1 k (by omega) (by omega) (by omega) (by omega) (by simp) (by omega)
  rw [dd m, ← h2]
  exact h1
theorem shown_eq (n : Int) (hn : -9223372036854775808 ≤ n ∧ n ≤ 9223372036854775807) (k : Nat) (hk : 25 ≤ k) : vespersref08_shown.f k n = some ⟨(Lib.itoa n).toArray⟩ := by
  unfold vespersref08_shown.f Lib.itoa
  by_cases h : n < 0
  · have hw : IntKind.u64.wrap (-(IntKind.u64.wrap n)) = ((n.natAbs : Nat) : Int) := by
      unfold IntKind.wrap
      simp [IntKind.bits, IntKind.signed]
      omega
    rw [if_pos h, hw, shown_m n _ (by omega) k hk, if_pos h]
    unfold fin_
    rw [if_pos h]
  · have hw : IntKind.u64.wrap n = ((n.toNat : Nat) : Int) := by rw [u64_id (by omega) (by omega)]; omega
    rw [if_neg h, hw, shown_m n _ (by omega) k hk, if_neg h]
    unfold fin_
    rw [if_neg h]
end Go.Proofs.YtdpdcpbmdmkaeaaDoor.Pure
