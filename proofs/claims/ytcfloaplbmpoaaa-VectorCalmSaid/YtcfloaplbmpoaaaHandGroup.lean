/- What the layer group computes of one node's bit, by hand: contracts in the form of the printed ones. -/
import Derived.Test.YtcfloaplbmpoaaaProg
import Derived.WalkKit
import Derived.KernelRfl
import Derived.RowKit3
import Derived.Outline
import Derived.Lib.Hide
import Derived.Deep.QuietTactic
import Derived.BigQuiet
import Derived.RegionTactic
import Derived.ChangeAlike
import Derived.BigRegion
import Derived.Deep.RegionWith
import Derived.Test.YtcfloaplbmpoaaaGrp
import Derived.Test.YtcfloaplbmpoaaaWWords
import Derived.Test.YtcfloaplbmpoaaaWMore
set_option linter.unusedVariables false
set_option linter.unusedSimpArgs false
namespace Go.Proofs.Ytcfloaplbmpoaaa.Hand
open Go.RowKit Go.Proofs.Ytcfloaplbmpoaaa.Grp Go.Proofs.YtcfloaplbmpoaaaW.PrintWords Go.Proofs.YtcfloaplbmpoaaaW.PrintMore

theorem bcell {W w1 : World} (hb : Below W.heap.size W w1) : (∀ b o, b < W.heap.size → w1.cell? ⟨b, o, none⟩ = W.cell? ⟨b, o, none⟩) ∧ (∀ b o, b < W.heap.size → w1.frozen? ⟨b, o, none⟩ = W.frozen? ⟨b, o, none⟩) :=
  ⟨fun b o h => hb.cell (p := ⟨b, o, none⟩) h, fun b o h => hb.frozen (p := ⟨b, o, none⟩) h⟩
theorem second_block (w : World) (o1 o2 : Obj) : ((w.alloc o1).alloc o2).heap[w.heap.size + 1]? = some o2 := by
  have := heap_alloc_new (w.alloc o1) o2
  rwa [World.size_alloc] at this
theorem equalIn_func_nil {P : Program} (w : World) (d : Nat) {t : TypeId} {a b c} (ht : P.underlying t = some (.func a b c)) (f) (x y : Array Value) :
    (Op.equalIn (d + 1) t (.func f x y) .nilFunc).run P w = .ok false w := by
  simp [Op.equalIn, run_underlying ht]
theorem equalIn_nil_nil {P : Program} (w : World) (d : Nat) {t : TypeId} {a b c} (ht : P.underlying t = some (.func a b c)) :
    (Op.equalIn (d + 1) t .nilFunc .nilFunc).run P w = .ok true w := by
  simp [Op.equalIn, run_underlying ht]
theorem eql_func_nil {P : Program} (w : World) {t : TypeId} {a b c} (ht : P.underlying t = some (.func a b c)) (f) (x y : Array Value) :
    (binOp .eql t (.func f x y) .nilFunc).run P w = .ok (.bool false) w := by
  simp only [binOp]
  simp [Op.equal, Op.maxDepth, equalIn_func_nil w 9999 ht f x y]
theorem eql_nil_nil {P : Program} (w : World) {t : TypeId} {a b c} (ht : P.underlying t = some (.func a b c)) :
    (binOp .eql t .nilFunc .nilFunc).run P w = .ok (.bool true) w := by
  simp only [binOp]
  simp [Op.equal, Op.maxDepth, equalIn_nil_nil w 9999 ht]
theorem gnode_core (n : Int) (w : World) : Calls Try.prog 46 #[.int .i64 n] w fun e w' => e = .returned (.bool (nodeB n)) ∧ w' = w := by
  by_cases h0 : 0 ≤ n
  · by_cases h1 : n < 16
    · go_enter Try.func46, Try.ntmps46
      go_wp2
      go_ret
      exact ⟨by simp [nodeB, h0, h1], rfl⟩
    · go_enter Try.func46, Try.ntmps46
      go_wp2
      go_ret
      exact ⟨by simp [nodeB, h0, h1], rfl⟩
  · have h2 : decide (0 ≤ n) = false := by simpa using h0
    go_enter Try.func46, Try.ntmps46
    go_wp2
    go_ret
    exact ⟨by simp [nodeB, h2], rfl⟩
theorem only_core (n : Int) (w : World) : Calls Try.prog 38 #[.int .i64 n] w fun e w' => e = .returned (.int .u16 (onlyG n)) ∧ w' = w := by
  cases h : nodeB n with
  | false =>
    have hn : onlyG n = 0 := by unfold onlyG; rw [if_neg]; intro hh; simp [nodeB, hh.1, hh.2] at h
    have HN := Lib.hid hn
    clear hn
    go_enter Try.func38, Try.ntmps38
    go_wp2_with (go_at_call 46; refine (gnode_core _ _).mono ?_; rintro e w' ⟨rfl, rfl⟩)
    go_ret
    exact ⟨by rw [HN.out]; rfl, rfl⟩
  | true =>
    have hb : 0 ≤ n ∧ n < 16 := by simpa [nodeB] using h
    have h0 := hb.1
    have h1 := hb.2
    clear hb
    have HN := Lib.hid (pow_one n h0 h1)
    go_enter Try.func38, Try.ntmps38
    go_wp2_with (go_at_call 46; refine (gnode_core _ _).mono ?_; rintro e w' ⟨rfl, rfl⟩)
    go_ret
    exact ⟨by rw [← HN.out]; rfl, rfl⟩
theorem has_core (g n : Int) (w : World) : Calls Try.prog 33 #[.int .u16 g, .int .i64 n] w fun e w' => e = .returned (.bool (hasB g n)) ∧ w' = w := by
  go_enter Try.func33, Try.ntmps33
  go_wp2_with (go_at_call 38; refine (only_core _ _).mono ?_; rintro e w' ⟨rfl, rfl⟩)
  go_ret
  exact ⟨rfl, rfl⟩
theorem with_core (g n : Int) (w : World) : Calls Try.prog 37 #[.int .u16 g, .int .i64 n] w fun e w' => e = .returned (.int .u16 (withG g n)) ∧ w' = w := by
  go_enter Try.func37, Try.ntmps37
  go_wp2_with (go_at_call 38; refine (only_core _ _).mono ?_; rintro e w' ⟨rfl, rfl⟩)
  go_ret
  exact ⟨rfl, rfl⟩
theorem without_core (g n : Int) (w : World) : Calls Try.prog 27 #[.int .u16 g, .int .i64 n] w fun e w' => e = .returned (.int .u16 (withoutG g n)) ∧ w' = w := by
  go_enter Try.func27, Try.ntmps27
  go_wp2_with (go_at_call 38; refine (only_core _ _).mono ?_; rintro e w' ⟨rfl, rfl⟩)
  go_ret
  exact ⟨rfl, rfl⟩
def group_node.f (a0 : Int) : Option Bool := some (nodeB a0)
def group_only.f (a0 : Int) : Option Int := some (onlyG a0)
def group_Has.f (a0 a1 : Int) : Option Bool := some (hasB a0 a1)
def group_With.f (a0 a1 : Int) : Option Int := some (withG a0 a1)
def group_Without.f (a0 a1 : Int) : Option Int := some (withoutG a0 a1)
theorem group_node.calls (a0 : Int) (r : Bool) (w : World) (h : group_node.f a0 = some r) : Calls Try.prog 46 #[.int .i64 a0] w fun e w' => e = .returned (.bool r) ∧ Drawn0 w w' :=
  (gnode_core a0 w).mono fun e w' ⟨he, hw⟩ => ⟨by rw [he, Option.some.inj h], hw ▸ Drawn0.refl _⟩
theorem group_only.calls (a0 : Int) (r : Int) (w : World) (h : group_only.f a0 = some r) : Calls Try.prog 38 #[.int .i64 a0] w fun e w' => e = .returned (.int .u16 r) ∧ Drawn0 w w' :=
  (only_core a0 w).mono fun e w' ⟨he, hw⟩ => ⟨by rw [he, Option.some.inj h], hw ▸ Drawn0.refl _⟩
theorem group_Has.calls (a0 : Int) (a1 : Int) (r : Bool) (w : World) (h : group_Has.f a0 a1 = some r) : Calls Try.prog 33 #[.int .u16 a0, .int .i64 a1] w fun e w' => e = .returned (.bool r) ∧ Drawn0 w w' :=
  (has_core a0 a1 w).mono fun e w' ⟨he, hw⟩ => ⟨by rw [he, Option.some.inj h], hw ▸ Drawn0.refl _⟩
theorem group_With.calls (a0 : Int) (a1 : Int) (r : Int) (w : World) (h : group_With.f a0 a1 = some r) : Calls Try.prog 37 #[.int .u16 a0, .int .i64 a1] w fun e w' => e = .returned (.int .u16 r) ∧ Drawn0 w w' :=
  (with_core a0 a1 w).mono fun e w' ⟨he, hw⟩ => ⟨by rw [he, Option.some.inj h], hw ▸ Drawn0.refl _⟩
theorem group_Without.calls (a0 : Int) (a1 : Int) (r : Int) (w : World) (h : group_Without.f a0 a1 = some r) : Calls Try.prog 27 #[.int .u16 a0, .int .i64 a1] w fun e w' => e = .returned (.int .u16 r) ∧ Drawn0 w w' :=
  (without_core a0 a1 w).mono fun e w' ⟨he, hw⟩ => ⟨by rw [he, Option.some.inj h], hw ▸ Drawn0.refl _⟩


end Go.Proofs.Ytcfloaplbmpoaaa.Hand
