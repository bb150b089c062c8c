/- GroupForms: Parse of the reference. -/
import Derived.Test.YtfjjeadoaoedoaaPureGroupForms0
set_option linter.unusedVariables false
set_option linter.unusedSimpArgs false
namespace Go.Proofs.Ytfjjeadoaoedoaa.Pure
open Go.RowKit Go.Proofs.Ytfjjeadoaoedoaa.Grp Go.Proofs.Ytfjjeadoaoedoaa.Hand Go.Proofs.Ytfjjeadoaoedoaa.PA Go.Proofs.Ytfjjeadoaoedoaa.PB Go.Proofs.Ytfjjeadoaoedoaa.PC Go.Proofs.YtfjjeadoaoedoaaW.PrintWords Go.Proofs.YtfjjeadoaoedoaaW.PrintLast Go.Proofs.YtfjjeadoaoedoaaW.PrintMore

/-- The digit that a byte is, as the reference looks for it, from place j on. -/
def scan (b : Int) : Nat → Nat → Int → Int
  | 0, _, n => n
  | d + 1, j, n => scan b d (j + 1) (if bt digs (j : Int) = b then (j : Int) else n)
def dval (b : Int) : Int := scan b 16 0 (-1)
theorem dval_facts : ∀ b : Fin 256, dval (b.val : Int) = -1 ∨ (0 ≤ dval (b.val : Int) ∧ dval (b.val : Int) < 16 ∧ (dig (dval (b.val : Int))).toNat = b.val) := by decide +kernel
theorem dval_dig : ∀ i : Fin 16, dval (((dig (i.val : Int)).toNat : Nat) : Int) = (i.val : Int) := by decide +kernel
theorem l1_scan (s : ByteArray) (g last : Int) (i : Nat) (hi : i < s.size) (hs : s.size ≤ 1000) : ∀ d, ∀ (k j : Nat) (n : Int), j + d = 16 → vespersref03_Parse.l1 (k + d) s g last (i : Int) n (j : Int) = vespersref03_Parse.l1 k s g last (i : Int) (scan (bt s (i : Int)) d j n) 16 := by
  intro d
  induction d with
  | zero =>
    intro k j n hj
    obtain rfl : j = 16 := by omega
    rfl
  | succ d ih =>
    intro k j n hj
    rw [show k + (d + 1) = (k + d) + 1 by omega, vespersref03_Parse.l1, if_pos (by omega), if_pos (by omega), if_pos (by omega), if_pos (by omega), wrap_id (by omega) (by omega), show (j : Int) + 1 = ((j + 1 : Nat) : Int) by omega, ih k (j + 1) _ (by omega), ih k (j + 1) _ (by omega)]
    have hsc : scan (bt s (i : Int)) (d + 1) j n = scan (bt s (i : Int)) d (j + 1) (if bt digs (j : Int) = bt s (i : Int) then (j : Int) else n) := rfl
    rw [hsc]
    by_cases h : bt digs (j : Int) = bt s (i : Int)
    · have h' := h
      unfold digs at h'
      rw [if_pos h', if_pos h]
    · have h' := h
      unfold digs at h'
      rw [if_neg h', if_neg h]
/-- What the reference says of what is left of a text. -/
def refP : List UInt8 → Int → Int → Int × Int
  | [], last, g => if last < 0 then (0, 2) else (g, 0)
  | b :: t, last, g => if dval ((b.toNat : Nat) : Int) ≤ last then (0, 2) else refP t (dval ((b.toNat : Nat) : Int)) (withG g (dval ((b.toNat : Nat) : Int)))
theorem bt_nat (s : ByteArray) (i : Nat) (h : i < s.size) : bt s (i : Int) = (((s.data.toList[i]'(by rw [data_length]; exact h)).toNat : Nat) : Int) := by
  unfold bt
  rw [dif_pos (by simpa using h)]
  rfl
theorem l0_ref (s : ByteArray) (hs : s.size ≤ 1000) : ∀ d, ∀ (k i : Nat) (g last : Int), i + d = s.size → 18 * d + 60 < k → G16 g → -1 ≤ last → vespersref03_Parse.l0 k s g last (i : Int) = some (refP (s.data.toList.drop i) last g) := by
  intro d
  induction d with
  | zero =>
    intro k i g last hi hk hg hl
    obtain ⟨k, rfl⟩ : ∃ m, k = m + 1 := ⟨k - 1, by omega⟩
    rw [vespersref03_Parse.l0, if_neg (by omega), List.drop_eq_nil_of_le (by rw [data_length]; omega), refP]
    split <;> rfl
  | succ d ih =>
    intro k i g last hi hk hg hl
    obtain ⟨k, rfl⟩ : ∃ m, k = m + 1 + 16 + 1 := ⟨k - 18, by omega⟩
    have hlt : i < s.size := by omega
    have hsc := l1_scan s g last i hlt hs 16 (k + 1) 0 (-1) (by omega)
    rw [show ((0 : Nat) : Int) = 0 from rfl] at hsc
    rw [vespersref03_Parse.l0, if_pos (by omega), hsc, vespersref03_Parse.l1, if_neg (by omega), List.drop_eq_getElem_cons (by rw [data_length]; exact hlt), refP, bt_nat s i hlt]
    show (if dval _ ≤ last then _ else _) = _
    obtain ⟨v, hv⟩ : ∃ v, dval (((s.data.toList[i]'(by rw [data_length]; exact hlt)).toNat : Nat) : Int) = v := ⟨_, rfl⟩
    unfold dval at hv ⊢
    rw [hv]
    by_cases h : v ≤ last
    · rw [if_pos h, if_pos h]
    · rw [if_neg h, if_neg h, With_eq g v hg k (by omega), Option.bind_some, wrap_id (by omega) (by omega), show (i : Int) + 1 = ((i + 1 : Nat) : Int) by omega]
      exact ih k (i + 1) _ v (by omega) (by omega) (with_g16 hg v) (by omega)
end Go.Proofs.Ytfjjeadoaoedoaa.Pure
