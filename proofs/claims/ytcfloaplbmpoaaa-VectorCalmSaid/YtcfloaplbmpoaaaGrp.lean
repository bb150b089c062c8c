/- Groups of sixteen as sixteen bits: what '&', '|', '&^' and a bit's shift say of each bit. -/
import Derived.Laws.BitsLemmas
import Derived.Test.YtcfloaplbmpoaaaWMore
set_option linter.unusedVariables false
set_option linter.unusedSimpArgs false
namespace Go.Proofs.Ytcfloaplbmpoaaa.Grp
open Go.Proofs.YtcfloaplbmpoaaaW.PrintWords Go.Proofs.YtcfloaplbmpoaaaW.PrintMore

/-- Is bit i set? -/
def tb (g : Int) (i : Nat) : Bool := g.toNat.testBit i
def G16 (g : Int) : Prop := 0 ≤ g ∧ g < 65536
theorem wrap_u16 (n : Int) : IntKind.u16.wrap n = n % 65536 := by simp [IntKind.wrap, IntKind.bits, IntKind.signed]
theorem wraps_u16 (n : Int) (h0 : 0 ≤ n) (h1 : n < 2 ^ 16) : IntKind.u16.wrap n = n := by rw [wrap_u16]; omega
theorem and_nat (a b : Nat) (ha : a < 65536) (hb : b < 65536) : Go.bits .and .u16 (a : Int) (b : Int) = ((a &&& b : Nat) : Int) :=
  (bits_nat .u16 16 (by decide) wraps_u16 a b (by simpa using ha) (by simpa using hb)).1
theorem or_nat (a b : Nat) (ha : a < 65536) (hb : b < 65536) : Go.bits .or .u16 (a : Int) (b : Int) = ((a ||| b : Nat) : Int) :=
  (bits_nat .u16 16 (by decide) wraps_u16 a b (by simpa using ha) (by simpa using hb)).2
theorem andNot_nat (a b : Nat) (ha : a < 65536) (hb : b < 65536) : Go.bits .andNot .u16 (a : Int) (b : Int) = ((a &&& (65535 - b) : Nat) : Int) := by
  have h : (BitVec.ofInt 16 (a : Int) &&& ~~~ (BitVec.ofInt 16 (b : Int))).toNat = a &&& (65535 - b) := by
    simp only [BitVec.ofInt_natCast, BitVec.toNat_and, BitVec.toNat_not, BitVec.toNat_ofNat]
    rw [Nat.mod_eq_of_lt (by simpa using ha), Nat.mod_eq_of_lt (by simpa using hb)]
  have hlt : a &&& (65535 - b) < 65536 := Nat.lt_of_le_of_lt Nat.and_le_left ha
  show IntKind.u16.wrap ((BitVec.ofInt 16 (a : Int) &&& ~~~ (BitVec.ofInt 16 (b : Int))).toNat : Int) = _
  rw [h]
  exact wraps_u16 _ (by omega) (by simp; omega)
theorem nat_of {g : Int} (h : G16 g) : ∃ a : Nat, a < 65536 ∧ g = (a : Int) := ⟨g.toNat, by have := h.1; have := h.2; omega, by have := h.1; omega⟩
theorem g16_nat {a : Nat} (h : a < 65536) : G16 (a : Int) := ⟨by omega, by omega⟩
theorem and_g16 {g h : Int} (hg : G16 g) (hh : G16 h) : G16 (Go.bits .and .u16 g h) := by
  obtain ⟨a, ha, rfl⟩ := nat_of hg
  obtain ⟨b, hb, rfl⟩ := nat_of hh
  rw [and_nat a b ha hb]
  exact g16_nat (Nat.lt_of_le_of_lt Nat.and_le_left ha)
theorem or_g16 {g h : Int} (hg : G16 g) (hh : G16 h) : G16 (Go.bits .or .u16 g h) := by
  obtain ⟨a, ha, rfl⟩ := nat_of hg
  obtain ⟨b, hb, rfl⟩ := nat_of hh
  rw [or_nat a b ha hb]
  exact g16_nat (Nat.or_lt_two_pow (n := 16) (by simpa using ha) (by simpa using hb))
theorem andNot_g16 {g h : Int} (hg : G16 g) (hh : G16 h) : G16 (Go.bits .andNot .u16 g h) := by
  obtain ⟨a, ha, rfl⟩ := nat_of hg
  obtain ⟨b, hb, rfl⟩ := nat_of hh
  rw [andNot_nat a b ha hb]
  exact g16_nat (Nat.lt_of_le_of_lt Nat.and_le_left ha)
theorem tb_nat (a i : Nat) : tb (a : Int) i = a.testBit i := by simp [tb]
theorem tb_and {g h : Int} (hg : G16 g) (hh : G16 h) (i : Nat) : tb (Go.bits .and .u16 g h) i = (tb g i && tb h i) := by
  obtain ⟨a, ha, rfl⟩ := nat_of hg
  obtain ⟨b, hb, rfl⟩ := nat_of hh
  rw [and_nat a b ha hb]
  simp only [tb_nat, Nat.testBit_and]
theorem tb_or {g h : Int} (hg : G16 g) (hh : G16 h) (i : Nat) : tb (Go.bits .or .u16 g h) i = (tb g i || tb h i) := by
  obtain ⟨a, ha, rfl⟩ := nat_of hg
  obtain ⟨b, hb, rfl⟩ := nat_of hh
  rw [or_nat a b ha hb]
  simp only [tb_nat, Nat.testBit_or]
theorem tb_high {g : Int} (hg : G16 g) {i : Nat} (hi : 16 ≤ i) : tb g i = false := by
  obtain ⟨a, ha, rfl⟩ := nat_of hg
  rw [tb_nat]
  exact Nat.testBit_lt_two_pow (Nat.lt_of_lt_of_le ha (Nat.pow_le_pow_right (n := 2) (by decide) hi : 2 ^ 16 ≤ 2 ^ i))
theorem tb_andNot {g h : Int} (hg : G16 g) (hh : G16 h) (i : Nat) : tb (Go.bits .andNot .u16 g h) i = (tb g i && !tb h i) := by
  by_cases hi : i < 16
  · obtain ⟨a, ha, rfl⟩ := nat_of hg
    obtain ⟨b, hb, rfl⟩ := nat_of hh
    rw [andNot_nat a b ha hb]
    simp only [tb_nat, Nat.testBit_and]
    congr 1
    have := Nat.testBit_two_pow_sub_succ (x := b) (n := 16) (by simpa using hb) i
    rw [show 2 ^ 16 - (b + 1) = 65535 - b by omega] at this
    rw [this]
    simp [hi]
  · rw [tb_high (andNot_g16 hg hh) (by omega), tb_high hg (by omega)]
    rfl
/-- A group is what its bits are. -/
theorem ext16 {g h : Int} (hg : G16 g) (hh : G16 h) (H : ∀ i, i < 16 → tb g i = tb h i) : g = h := by
  obtain ⟨a, ha, rfl⟩ := nat_of hg
  obtain ⟨b, hb, rfl⟩ := nat_of hh
  have : a = b := by
    apply Nat.eq_of_testBit_eq
    intro i
    by_cases hi : i < 16
    · simpa only [tb_nat] using H i hi
    · have h1 := tb_high hg (i := i) (by omega)
      have h2 := tb_high hh (i := i) (by omega)
      rw [tb_nat] at h1 h2
      rw [h1, h2]
  rw [this]
theorem eq_zero_iff {g : Int} (hg : G16 g) : g = 0 ↔ ∀ i, i < 16 → tb g i = false :=
  ⟨fun h i _ => by rw [h]; simp [tb], fun H => ext16 hg ⟨by omega, by omega⟩ (fun i hi => by rw [H i hi]; simp [tb])⟩
theorem pos_iff {g : Int} (hg : G16 g) : 0 < g ↔ ∃ i, i < 16 ∧ tb g i = true := by
  constructor
  · intro h
    apply Classical.byContradiction
    intro hn
    have : g = 0 := (eq_zero_iff hg).2 (fun i hi => by
      cases hb : tb g i with
      | false => rfl
      | true => exact absurd ⟨i, hi, hb⟩ hn)
    omega
  · rintro ⟨i, hi, hb⟩
    have h0 := hg.1
    have : g ≠ 0 := by
      intro h
      rw [(eq_zero_iff hg).1 h i hi] at hb
      cases hb
    omega

/-! ### a node's own bit -/
/-- The group of a node alone; none, if it is none. -/
def onlyG (n : Int) : Int := if 0 ≤ n ∧ n < 16 then ((2 ^ n.toNat : Nat) : Int) else 0
theorem only_g16 (n : Int) : G16 (onlyG n) := by
  unfold onlyG
  split
  · rename_i h
    refine g16_nat ?_
    have : n.toNat < 16 := by omega
    exact Nat.pow_lt_pow_right (a := 2) (m := n.toNat) (n := 16) (by decide) this
  · exact ⟨by omega, by omega⟩
theorem tb_only (n : Int) (i : Nat) : tb (onlyG n) i = decide (0 ≤ n ∧ n < 16 ∧ n.toNat = i) := by
  unfold onlyG
  split
  · rename_i h
    rw [tb_nat, Nat.testBit_two_pow]
    have h0 := h.1
    have h1 := h.2
    simp [h0, h1]
  · rename_i h
    have : ¬ (0 ≤ n ∧ n < 16 ∧ n.toNat = i) := fun hh => h ⟨hh.1, hh.2.1⟩
    simp [tb, this]
def hasG (g n : Int) : Bool := decide (0 ≤ n) && decide (n < 16) && tb g n.toNat
def withG (g n : Int) : Int := Go.bits .or .u16 g (onlyG n)
def withoutG (g n : Int) : Int := Go.bits .andNot .u16 g (onlyG n)
theorem with_g16 {g : Int} (hg : G16 g) (n : Int) : G16 (withG g n) := or_g16 hg (only_g16 n)
theorem without_g16 {g : Int} (hg : G16 g) (n : Int) : G16 (withoutG g n) := andNot_g16 hg (only_g16 n)
theorem has_bits {g : Int} (hg : G16 g) (n : Int) : decide (Go.bits .and .u16 g (onlyG n) > 0) = hasG g n := by
  have hp := pos_iff (and_g16 hg (only_g16 n))
  simp only [tb_and hg (only_g16 n), tb_only] at hp
  rw [Bool.eq_iff_iff, decide_eq_true_iff]
  show (0 < _) ↔ _
  rw [hp]
  unfold hasG
  simp only [Bool.and_eq_true, decide_eq_true_eq]
  constructor
  · rintro ⟨i, hi, h1, h2, h3, rfl⟩
    exact ⟨⟨h2, h3⟩, h1⟩
  · rintro ⟨⟨h2, h3⟩, h1⟩
    exact ⟨n.toNat, by omega, h1, h2, h3, rfl⟩
theorem tb_with {g : Int} (hg : G16 g) (n : Int) (i : Nat) : tb (withG g n) i = (tb g i || decide (0 ≤ n ∧ n < 16 ∧ n.toNat = i)) := by
  unfold withG; rw [tb_or hg (only_g16 n), tb_only]
theorem tb_without {g : Int} (hg : G16 g) (n : Int) (i : Nat) : tb (withoutG g n) i = (tb g i && !decide (0 ≤ n ∧ n < 16 ∧ n.toNat = i)) := by
  unfold withoutG; rw [tb_andNot hg (only_g16 n), tb_only]
theorem has_at {g : Int} {i : Nat} (hi : i < 16) : hasG g (i : Int) = tb g i := by
  unfold hasG
  simp
  intro h
  omega
theorem ext_has {g h : Int} (hg : G16 g) (hh : G16 h) (H : ∀ n : Int, 0 ≤ n → n < 16 → hasG g n = hasG h n) : g = h :=
  ext16 hg hh (fun i hi => by rw [← has_at hi, ← has_at hi]; exact H _ (by omega) (by omega))
theorem has_with {g : Int} (hg : G16 g) (n m : Int) : hasG (withG g n) m = (hasG g m || decide (0 ≤ m ∧ m < 16 ∧ m = n)) := by
  unfold hasG
  rw [tb_with hg]
  by_cases h0 : 0 ≤ m <;> by_cases h1 : m < 16
  · have e : (0 ≤ n ∧ n < 16 ∧ n.toNat = m.toNat) ↔ (0 ≤ m ∧ m < 16 ∧ m = n) := by omega
    simp only [h0, h1, e, decide_true, Bool.true_and]
  all_goals simp [h0, h1]
theorem has_without {g : Int} (hg : G16 g) (n m : Int) : hasG (withoutG g n) m = (hasG g m && !decide (m = n)) := by
  unfold hasG
  rw [tb_without hg]
  by_cases h0 : 0 ≤ m <;> by_cases h1 : m < 16
  · have e : (0 ≤ n ∧ n < 16 ∧ n.toNat = m.toNat) ↔ m = n := by omega
    simp only [h0, h1, e, decide_true, Bool.true_and]
  all_goals simp [h0, h1]
theorem pow_one (n : Int) (h0 : 0 ≤ n) (h1 : n < 16) : IntKind.u16.wrap (2 ^ n.toNat) = onlyG n := by
  unfold onlyG
  rw [if_pos ⟨h0, h1⟩]
  have hlt : (2 ^ n.toNat : Nat) < 2 ^ 16 := Nat.pow_lt_pow_right (by decide) (by omega)
  rw [wraps_u16]
  · simp
  · exact Int.pow_nonneg (by omega)
  · exact_mod_cast hlt
theorem shl_one (n : Int) (h0 : 0 ≤ n) (h1 : n < 16) : shl .u16 1 n = onlyG n := by
  unfold shl onlyG
  rw [if_pos ⟨h0, h1⟩, Nat.min_eq_left (by simp [IntKind.bits]; omega)]
  have hlt : (2 ^ n.toNat : Nat) < 2 ^ 16 := Nat.pow_lt_pow_right (by decide) (by omega)
  rw [Int.one_mul, wraps_u16]
  · simp
  · exact Int.pow_nonneg (by omega)
  · exact_mod_cast hlt
def hasB (g n : Int) : Bool := decide (Go.bits .and .u16 g (onlyG n) > 0)
theorem hasB_eq {g : Int} (hg : G16 g) (n : Int) : hasB g n = hasG g n := has_bits hg n
/-- Is it a node? -/
def nodeB (n : Int) : Bool := decide (0 ≤ n) && decide (n < 16)
/-- May a view be? -/
def viewV (o v a f : Int) : Bool := nodeB o && decide (0 ≤ a) && decide (a ≤ 2) && (if a = 2 then nodeB f && !decide (f = o) else decide (f = 0)) && (decide (a = 0) || hasB v o)
def checkV (o v a f : Int) : Int := if viewV o v a f = true then 0 else 180
def mayV (o v a f n : Int) : Bool := viewV o v a f && nodeB n && !decide (n = o)
def stepV (o v a f n r : Int) : Int × Int × Int × Int × Int × Int :=
  if mayV o v a f n = true then
    if r = 0 then (o, withoutG v n, a, f, 0, 0)
    else if r = 1 then (o, withoutG v n, a, f, 2, 0)
    else if r = 2 then (o, withG v n, 0, 0, 1, 0)
    else if r = 3 then
      if a = 0 then (0, 0, 0, 0, 0, 180)
      else if a = 1 then (o, withoutG v n, 2, n, 2, 0)
      else (o, withG (withG (withoutG v o) n) f, 0, 0, 3, 0)
    else (0, 0, 0, 0, 0, 180)
  else (0, 0, 0, 0, 0, 180)
end Go.Proofs.Ytcfloaplbmpoaaa.Grp
