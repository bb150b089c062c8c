/- math/bits.OnesCount16, by hand: the table of bytes. -/
import Derived.Test.YtfjjeadoaoedoaaHandGroup
import Derived.Lib.BitFns
set_option linter.unusedVariables false
set_option linter.unusedSimpArgs false
namespace Go.Proofs.Ytfjjeadoaoedoaa.Hand
open Go.RowKit Go.Proofs.Ytfjjeadoaoedoaa.Grp Go.Proofs.YtfjjeadoaoedoaaW.PrintWords Go.Proofs.YtfjjeadoaoedoaaW.PrintMore
attribute [local go_sem] Oper.semAt_some
theorem pop_at (n : Nat) (h : n < 256) : Lib.pop8 (n : Int) = (Lib.onesCount n : Int) ∧ Lib.onesCount n ≤ 8 := ⟨Lib.pop8_eq ⟨n, h⟩, Lib.onesCount_le8 ⟨n, h⟩⟩
theorem pop_sum (a : Int) (h0 : 0 ≤ a) (h1 : a < 65536) : (Lib.pop8 (a / 256) + Lib.pop8 (max a 0 % 256)) % 256 = ((Lib.onesCount (a.toNat / 256) + Lib.onesCount (a.toNat % 256) : Nat) : Int) := by
  obtain ⟨n, hn, rfl⟩ := nat_of ⟨h0, h1⟩
  rw [Int.toNat_natCast]
  have e1 : (n : Int) / 256 = ((n / 256 : Nat) : Int) := by omega
  have e2 : max (n : Int) 0 % 256 = ((n % 256 : Nat) : Int) := by omega
  obtain ⟨k1, l1⟩ := pop_at (n / 256) (by omega)
  obtain ⟨k2, l2⟩ := pop_at (n % 256) (by omega)
  rw [e1, e2, k1, k2]
  generalize Lib.onesCount (n / 256) = x at *
  generalize Lib.onesCount (n % 256) = y at *
  omega
set_option maxRecDepth 100000 in
theorem fold_tab : (ByteArray.mk (List.toArray (List.append (List.append ([0, 1, 1, 2, 1, 2, 2, 3, 1, 2, 2, 3, 2, 3, 3, 4, 1, 2, 2, 3, 2, 3, 3, 4, 2, 3, 3, 4, 3, 4, 4, 5, 1, 2, 2, 3, 2, 3, 3, 4, 2, 3, 3, 4, 3, 4, 4, 5, 2, 3, 3, 4, 3, 4, 4, 5, 3, 4, 4, 5, 4, 5, 5, 6] : List UInt8) ([1, 2, 2, 3, 2, 3, 3, 4, 2, 3, 3, 4, 3, 4, 4, 5, 2, 3, 3, 4, 3, 4, 4, 5, 3, 4, 4, 5, 4, 5, 5, 6, 2, 3, 3, 4, 3, 4, 4, 5, 3, 4, 4, 5, 4, 5, 5, 6, 3, 4, 4, 5, 4, 5, 5, 6, 4, 5, 5, 6, 5, 6, 6, 7] : List UInt8)) (List.append ([1, 2, 2, 3, 2, 3, 3, 4, 2, 3, 3, 4, 3, 4, 4, 5, 2, 3, 3, 4, 3, 4, 4, 5, 3, 4, 4, 5, 4, 5, 5, 6, 2, 3, 3, 4, 3, 4, 4, 5, 3, 4, 4, 5, 4, 5, 5, 6, 3, 4, 4, 5, 4, 5, 5, 6, 4, 5, 5, 6, 5, 6, 6, 7] : List UInt8) ([2, 3, 3, 4, 3, 4, 4, 5, 3, 4, 4, 5, 4, 5, 5, 6, 3, 4, 4, 5, 4, 5, 5, 6, 4, 5, 5, 6, 5, 6, 6, 7, 3, 4, 4, 5, 4, 5, 5, 6, 4, 5, 5, 6, 5, 6, 6, 7, 4, 5, 5, 6, 5, 6, 6, 7, 5, 6, 6, 7, 6, 7, 7, 8] : List UInt8))))) = Lib.pop8tab := by decide +kernel
attribute [local go_sem high] fold_tab
set_option maxRecDepth 100000 in
set_option maxHeartbeats 2000000 in
theorem ones_core (a : Int) (h0 : 0 ≤ a) (h1 : a < 65536) (w : World) : Calls Try.prog 42 #[.int .u16 a] w fun e w' => e = .returned (.int .i64 ((Lib.onesCount (a.toNat / 256) + Lib.onesCount (a.toNat % 256) : Nat) : Int)) ∧ Drawn0 w w' := by
  have b0 : (0 : Int) ≤ Go.bits .and .u16 a 255 := by
    obtain ⟨n, hn, rfl⟩ := nat_of ⟨h0, h1⟩
    rw [show (255 : Int) = ((255 : Nat) : Int) from rfl, and_nat n 255 hn (by omega)]; omega
  have b1 : Go.bits .and .u16 a 255 < 256 := by
    obtain ⟨n, hn, rfl⟩ := nat_of ⟨h0, h1⟩
    rw [show (255 : Int) = ((255 : Nat) : Int) from rfl, and_nat n 255 hn (by omega)]
    have : n &&& 255 ≤ 255 := Nat.and_le_right
    omega
  have hb : Go.bits .and .u16 a 255 = ((a.toNat % 256 : Nat) : Int) := by
    obtain ⟨n, hn, rfl⟩ := nat_of ⟨h0, h1⟩
    rw [show (255 : Int) = ((255 : Nat) : Int) from rfl, and_nat n 255 hn (by omega), Int.toNat_natCast]
    congr 1
    exact Nat.and_two_pow_sub_one_eq_mod n 8
  have a0 : 0 ≤ a / 256 := by omega
  have a1 : a / 256 ≤ 255 := by omega
  have b2 : Go.bits .and .u16 a 255 ≤ 255 := by omega
  go_enter Try.func42, Try.ntmps42
  go_wp2
  go_region
  all_goals go_wp2
  all_goals go_ret
  all_goals exact ⟨by rw [pop_sum a h0 h1]; rfl, by repeat (first | exact Drawn0.refl _ | apply Drawn0.step)⟩
/-- How many nodes a group has. -/
def countG (g : Int) : Int := ((Lib.onesCount (g.toNat / 256) + Lib.onesCount (g.toNat % 256) : Nat) : Int)
def bits_OnesCount16.f (a0 : Int) : Option Int := if 0 ≤ a0 ∧ a0 < 65536 then some (countG a0) else none
theorem bits_OnesCount16.calls (a0 : Int) (r : Int) (w : World) (h : bits_OnesCount16.f a0 = some r) : Calls Try.prog 42 #[.int .u16 a0] w fun e w' => e = .returned (.int .i64 r) ∧ Drawn0 w w' := by
  unfold bits_OnesCount16.f at h
  split at h
  · rename_i h0
    obtain rfl := Option.some.inj h
    exact ones_core a0 h0.1 h0.2 w
  · cases h
end Go.Proofs.Ytfjjeadoaoedoaa.Hand
