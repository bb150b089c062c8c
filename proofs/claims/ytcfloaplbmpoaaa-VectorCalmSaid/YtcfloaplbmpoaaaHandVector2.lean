/- What the layer vector computes of a view, by hand: contracts in the form of the printed ones. -/
import Derived.Test.YtcfloaplbmpoaaaProg
import Derived.WalkKit
import Derived.KernelRfl
import Derived.RowKit3
import Derived.Outline
import Derived.Lib.Hide
import Derived.Deep.QuietTactic
import Derived.BigQuiet
import Derived.RegionTactic
import Derived.ChangeAlike
import Derived.BigRegion
import Derived.Deep.RegionWith
import Derived.Test.YtcfloaplbmpoaaaGrp
import Derived.Test.YtcfloaplbmpoaaaHandGroup
import Derived.Test.YtcfloaplbmpoaaaWWords
import Derived.Test.YtcfloaplbmpoaaaWMore
set_option linter.unusedVariables false
set_option linter.unusedSimpArgs false
namespace Go.Proofs.Ytcfloaplbmpoaaa.Hand
open Go.RowKit Go.Proofs.Ytcfloaplbmpoaaa.Grp Go.Proofs.YtcfloaplbmpoaaaW.PrintWords Go.Proofs.YtcfloaplbmpoaaaW.PrintMore

theorem vnode_core (n : Int) (w : World) : Calls Try.prog 32 #[.int .i64 n] w fun e w' => e = .returned (.bool (nodeB n)) ∧ w' = w := by
  by_cases h0 : 0 ≤ n
  · by_cases h1 : n < 16
    · go_enter Try.func32, Try.ntmps32
      go_wp2
      go_ret
      exact ⟨by simp [nodeB, h0, h1], rfl⟩
    · go_enter Try.func32, Try.ntmps32
      go_wp2
      go_ret
      exact ⟨by simp [nodeB, h0, h1], rfl⟩
  · have h2 : decide (0 ≤ n) = false := by simpa using h0
    go_enter Try.func32, Try.ntmps32
    go_wp2
    go_ret
    exact ⟨by simp [nodeB, h2], rfl⟩
def vector_node.f (a0 : Int) : Option Bool := some (nodeB a0)
theorem vector_node.calls (a0 : Int) (r : Bool) (w : World) (h : vector_node.f a0 = some r) : Calls Try.prog 32 #[.int .i64 a0] w fun e w' => e = .returned (.bool r) ∧ Drawn0 w w' :=
  (vnode_core a0 w).mono fun e w' ⟨he, hw⟩ => ⟨by rw [he, Option.some.inj h], hw ▸ Drawn0.refl _⟩
/-! ### Check -/
theorem vnode_t {n : Int} (h : nodeB n = true) (w : World) : Calls Try.prog 32 #[.int .i64 n] w fun e w' => e = .returned (.bool true) ∧ w' = w :=
  (vnode_core n w).mono fun e w' hh => by rw [h] at hh; exact hh
theorem vnode_f {n : Int} (h : nodeB n = false) (w : World) : Calls Try.prog 32 #[.int .i64 n] w fun e w' => e = .returned (.bool false) ∧ w' = w :=
  (vnode_core n w).mono fun e w' hh => by rw [h] at hh; exact hh
set_option maxHeartbeats 1000000 in
theorem vcheck_core (o v a f : Int) (w : World) : Calls Try.prog 10 #[.agg #[.int .i64 o, .int .u16 v, .int .i64 a, .int .i64 f]] w fun e w' => e = .returned (.int .i64 (checkV o v a f)) ∧ w' = w.alloc (.cells #[.int .i64 o, .int .u16 v, .int .i64 a, .int .i64 f] 25) := by
  cases ho : nodeB o with
  | false =>
    have HE : Hid (checkV o v a f = 180) := Lib.hid (by simp [checkV, viewV, ho])
    go_enter Try.func10, Try.ntmps10
    go_wp2_with (first | (go_at_call 32; refine (vnode_core _ _).mono ?_; rintro e w' ⟨rfl, rfl⟩) | (go_at_call 33; refine (has_core _ _ _).mono ?_; rintro e w' ⟨rfl, rfl⟩))
    go_ret
    exact ⟨by rw [HE.out]; rfl, rfl⟩
  | true =>
    by_cases ha0 : 0 ≤ a
    · by_cases ha2 : a ≤ 2
      · have hc : a = 0 ∨ a = 1 ∨ a = 2 := by omega
        clear ha0 ha2
        rcases hc with rfl | rfl | rfl
        · cases hf : (f == 0) with
          | true =>
            have hf' : f = 0 := by simpa using hf
            have HF := Lib.hid hf'
            clear hf'
            have HE : Hid (checkV o v 0 f = 0) := Lib.hid (by simp [checkV, viewV, ho, HF.out])
            go_enter Try.func10, Try.ntmps10
            go_wp2_with (first | (go_at_call 32; refine (vnode_core _ _).mono ?_; rintro e w' ⟨rfl, rfl⟩) | (go_at_call 33; refine (has_core _ _ _).mono ?_; rintro e w' ⟨rfl, rfl⟩))
            go_ret
            exact ⟨by rw [HE.out]; rfl, rfl⟩
          | false =>
            have HF := Lib.hid (show ¬ f = 0 by simpa using hf)
            have HE : Hid (checkV o v 0 f = 180) := Lib.hid (by simp [checkV, viewV, ho, HF.out])
            go_enter Try.func10, Try.ntmps10
            go_wp2_with (first | (go_at_call 32; refine (vnode_core _ _).mono ?_; rintro e w' ⟨rfl, rfl⟩) | (go_at_call 33; refine (has_core _ _ _).mono ?_; rintro e w' ⟨rfl, rfl⟩))
            go_ret
            exact ⟨by rw [HE.out]; rfl, rfl⟩
        · cases hf : (f == 0) with
          | true =>
            have HF := Lib.hid (show f = 0 by simpa using hf)
            cases hh : hasB v o with
            | true =>
              have HE : Hid (checkV o v 1 f = 0) := Lib.hid (by simp [checkV, viewV, ho, HF.out, hh])
              go_enter Try.func10, Try.ntmps10
              go_wp2_with (first | (go_at_call 32; refine (vnode_core _ _).mono ?_; rintro e w' ⟨rfl, rfl⟩) | (go_at_call 33; refine (has_core _ _ _).mono ?_; rintro e w' ⟨rfl, rfl⟩))
              go_ret
              exact ⟨by rw [HE.out]; rfl, rfl⟩
            | false =>
              have HE : Hid (checkV o v 1 f = 180) := Lib.hid (by simp [checkV, viewV, ho, HF.out, hh])
              go_enter Try.func10, Try.ntmps10
              go_wp2_with (first | (go_at_call 32; refine (vnode_core _ _).mono ?_; rintro e w' ⟨rfl, rfl⟩) | (go_at_call 33; refine (has_core _ _ _).mono ?_; rintro e w' ⟨rfl, rfl⟩))
              go_ret
              exact ⟨by rw [HE.out]; rfl, rfl⟩
          | false =>
            have HF := Lib.hid (show ¬ f = 0 by simpa using hf)
            have HE : Hid (checkV o v 1 f = 180) := Lib.hid (by simp [checkV, viewV, ho, HF.out])
            go_enter Try.func10, Try.ntmps10
            go_wp2_with (first | (go_at_call 32; refine (vnode_core _ _).mono ?_; rintro e w' ⟨rfl, rfl⟩) | (go_at_call 33; refine (has_core _ _ _).mono ?_; rintro e w' ⟨rfl, rfl⟩))
            go_ret
            exact ⟨by rw [HE.out]; rfl, rfl⟩
        · cases hf : nodeB f with
          | false =>
            have HE : Hid (checkV o v 2 f = 180) := Lib.hid (by simp [checkV, viewV, ho, hf])
            go_enter Try.func10, Try.ntmps10
            go_wp2_with (first | (go_at_call 32; refine (vnode_core _ _).mono ?_; rintro e w' ⟨rfl, rfl⟩) | (go_at_call 33; refine (has_core _ _ _).mono ?_; rintro e w' ⟨rfl, rfl⟩))
            go_ret
            exact ⟨by rw [HE.out]; rfl, rfl⟩
          | true =>
            cases hfo : (f != o) with
            | false =>
              have HF := Lib.hid (show f = o by simpa using hfo)
              have HE : Hid (checkV o v 2 f = 180) := Lib.hid (by simp [checkV, viewV, ho, hf, HF.out])
              go_enter Try.func10, Try.ntmps10
              go_wp2_with (first | (go_at_call 32; refine (vnode_core _ _).mono ?_; rintro e w' ⟨rfl, rfl⟩) | (go_at_call 33; refine (has_core _ _ _).mono ?_; rintro e w' ⟨rfl, rfl⟩))
              go_ret
              exact ⟨by rw [HE.out]; rfl, rfl⟩
            | true =>
              have HF := Lib.hid (show ¬ f = o by simpa using hfo)
              cases hh : hasB v o with
              | true =>
                have HE : Hid (checkV o v 2 f = 0) := Lib.hid (by simp [checkV, viewV, ho, hf, HF.out, hh])
                go_enter Try.func10, Try.ntmps10
                go_wp2_with (first | (go_at_call 32; refine (vnode_core _ _).mono ?_; rintro e w' ⟨rfl, rfl⟩) | (go_at_call 33; refine (has_core _ _ _).mono ?_; rintro e w' ⟨rfl, rfl⟩))
                go_ret
                exact ⟨by rw [HE.out]; rfl, rfl⟩
              | false =>
                have HE : Hid (checkV o v 2 f = 180) := Lib.hid (by simp [checkV, viewV, ho, hf, HF.out, hh])
                go_enter Try.func10, Try.ntmps10
                go_wp2_with (first | (go_at_call 32; refine (vnode_core _ _).mono ?_; rintro e w' ⟨rfl, rfl⟩) | (go_at_call 33; refine (has_core _ _ _).mono ?_; rintro e w' ⟨rfl, rfl⟩))
                go_ret
                exact ⟨by rw [HE.out]; rfl, rfl⟩
      · have hd2 : decide (a ≤ 2) = false := by simpa using ha2
        have HF := Lib.hid ha2
        clear ha2
        have HE : Hid (checkV o v a f = 180) := Lib.hid (by simp [checkV, viewV, ho, HF.out])
        go_enter Try.func10, Try.ntmps10
        go_wp2_with (first | (go_at_call 32; refine (vnode_core _ _).mono ?_; rintro e w' ⟨rfl, rfl⟩) | (go_at_call 33; refine (has_core _ _ _).mono ?_; rintro e w' ⟨rfl, rfl⟩))
        go_ret
        exact ⟨by rw [HE.out]; rfl, rfl⟩
    · have hd : decide (0 ≤ a) = false := by simpa using ha0
      have HF := Lib.hid ha0
      have HE : Hid (checkV o v a f = 180) := Lib.hid (by simp [checkV, viewV, ho, HF.out])
      go_enter Try.func10, Try.ntmps10
      go_wp2_with (first | (go_at_call 32; refine (vnode_core _ _).mono ?_; rintro e w' ⟨rfl, rfl⟩) | (go_at_call 33; refine (has_core _ _ _).mono ?_; rintro e w' ⟨rfl, rfl⟩))
      go_ret
      exact ⟨by rw [HE.out]; rfl, rfl⟩

def vector_Check.f (a0_0 a0_1 a0_2 a0_3 : Int) : Option Int := some (checkV a0_0 a0_1 a0_2 a0_3)
theorem vector_Check.calls (a0_0 a0_1 a0_2 a0_3 : Int) (r : Int) (w : World) (h : vector_Check.f a0_0 a0_1 a0_2 a0_3 = some r) : Calls Try.prog 10 #[.agg #[.int .i64 a0_0, .int .u16 a0_1, .int .i64 a0_2, .int .i64 a0_3]] w fun e w' => e = .returned (.int .i64 r) ∧ Below w.heap.size w w' :=
  (vcheck_core a0_0 a0_1 a0_2 a0_3 w).mono fun e w' ⟨he, hw⟩ => ⟨by rw [he, Option.some.inj h], hw ▸ (Below.refl _ _).alloc (Nat.le_refl _) _⟩
theorem checkV_cases (o v a f : Int) : (viewV o v a f = true ∧ checkV o v a f = 0) ∨ (viewV o v a f = false ∧ checkV o v a f = 180) := by
  unfold checkV
  cases viewV o v a f <;> simp
set_option maxHeartbeats 1000000 in
theorem vmay_core (o v a f n : Int) (w : World) : Calls Try.prog 28 #[.agg #[.int .i64 o, .int .u16 v, .int .i64 a, .int .i64 f], .int .i64 n] w fun e w' => e = .returned (.bool (mayV o v a f n)) ∧ w' = (w.alloc (.cells #[.int .i64 o, .int .u16 v, .int .i64 a, .int .i64 f] 25)).alloc (.cells #[.int .i64 o, .int .u16 v, .int .i64 a, .int .i64 f] 25) := by
  rcases checkV_cases o v a f with ⟨h1, h2⟩ | ⟨h1, h2⟩
  · have HV := Lib.hid h1
    clear h1
    cases hn : nodeB n with
    | false =>
      have HE : Hid (mayV o v a f n = false) := Lib.hid (by simp [mayV, hn])
      go_enter Try.func28, Try.ntmps28
      go_wp2_with (first | (go_at_call 10; refine (vcheck_core _ _ _ _ _).mono ?_; rintro e w' ⟨rfl, rfl⟩) | (go_at_call 32; refine (vnode_core _ _).mono ?_; rintro e w' ⟨rfl, rfl⟩))
      go_ret
      exact ⟨by rw [HE.out]; rfl, rfl⟩
    | true =>
      cases hno : (n != o) with
      | false =>
        have HN := Lib.hid (show n = o by simpa using hno)
        have HE : Hid (mayV o v a f n = false) := Lib.hid (by simp [mayV, HN.out])
        go_enter Try.func28, Try.ntmps28
        go_wp2_with (first | (go_at_call 10; refine (vcheck_core _ _ _ _ _).mono ?_; rintro e w' ⟨rfl, rfl⟩) | (go_at_call 32; refine (vnode_core _ _).mono ?_; rintro e w' ⟨rfl, rfl⟩))
        go_ret
        exact ⟨by rw [HE.out]; rfl, rfl⟩
      | true =>
        have HN := Lib.hid (show ¬ n = o by simpa using hno)
        have HE : Hid (mayV o v a f n = true) := Lib.hid (by simp [mayV, HN.out, hn, HV.out])
        go_enter Try.func28, Try.ntmps28
        go_wp2_with (first | (go_at_call 10; refine (vcheck_core _ _ _ _ _).mono ?_; rintro e w' ⟨rfl, rfl⟩) | (go_at_call 32; refine (vnode_core _ _).mono ?_; rintro e w' ⟨rfl, rfl⟩))
        go_ret
        exact ⟨by rw [HE.out]; rfl, rfl⟩
  · have HV := Lib.hid h1
    clear h1
    have HE : Hid (mayV o v a f n = false) := Lib.hid (by simp [mayV, HV.out])
    go_enter Try.func28, Try.ntmps28
    go_wp2_with (first | (go_at_call 10; refine (vcheck_core _ _ _ _ _).mono ?_; rintro e w' ⟨rfl, rfl⟩) | (go_at_call 32; refine (vnode_core _ _).mono ?_; rintro e w' ⟨rfl, rfl⟩))
    go_ret
    exact ⟨by rw [HE.out]; rfl, rfl⟩
def vector_may.f (a0_0 a0_1 a0_2 a0_3 a1 : Int) : Option Bool := some (mayV a0_0 a0_1 a0_2 a0_3 a1)
theorem vector_may.calls (a0_0 a0_1 a0_2 a0_3 a1 : Int) (r : Bool) (w : World) (h : vector_may.f a0_0 a0_1 a0_2 a0_3 a1 = some r) : Calls Try.prog 28 #[.agg #[.int .i64 a0_0, .int .u16 a0_1, .int .i64 a0_2, .int .i64 a0_3], .int .i64 a1] w fun e w' => e = .returned (.bool r) ∧ Below w.heap.size w w' :=
  (vmay_core a0_0 a0_1 a0_2 a0_3 a1 w).mono fun e w' ⟨he, hw⟩ => ⟨by rw [he, Option.some.inj h], hw ▸ ((Below.refl _ _).alloc (Nat.le_refl _) _).alloc (by simp) _⟩

/-! ### what a result makes of a view -/
set_option maxHeartbeats 1000000 in
theorem gone_core (o v a f n : Int) (w : World) : Calls Try.prog 42 #[.agg #[.int .i64 o, .int .u16 v, .int .i64 a, .int .i64 f], .int .i64 n] w fun e w' => e = .returned (.tuple #[.agg #[.int .i64 o, .int .u16 (withoutG v n), .int .i64 a, .int .i64 f], .int .i64 0]) ∧ w' = (w.alloc (.cells #[.int .i64 o, .int .u16 (withoutG v n), .int .i64 a, .int .i64 f] 65)).alloc (.cells #[.int .i64 o, .int .u16 (withoutG v n), .int .i64 a, .int .i64 f] 65) := by
  go_enter Try.func42, Try.ntmps42
  go_wp2_with (go_at_call 27; refine (without_core _ _ _).mono ?_; rintro e w' ⟨rfl, rfl⟩)
  exact bodyPost_ret (v := .tuple #[.agg #[.int .i64 o, .int .u16 (withoutG v n), .int .i64 a, .int .i64 f], .int .i64 0]) (by simp [results, Try.results42, go_sem]) rfl ⟨rfl, rfl⟩
set_option maxHeartbeats 1000000 in
theorem wrong_core (o v a f n : Int) (w : World) : Calls Try.prog 43 #[.agg #[.int .i64 o, .int .u16 v, .int .i64 a, .int .i64 f], .int .i64 n] w fun e w' => e = .returned (.tuple #[.agg #[.int .i64 o, .int .u16 (withoutG v n), .int .i64 a, .int .i64 f], .int .i64 2]) ∧ w' = (((w.alloc (.cells #[.int .i64 o, .int .u16 (withoutG v n), .int .i64 a, .int .i64 f] 65)).alloc (.cells #[.int .i64 o, .int .u16 (withoutG v n), .int .i64 a, .int .i64 f] 65)).alloc (.cells #[.int .i64 o, .int .u16 (withoutG v n), .int .i64 a, .int .i64 f] 65)).alloc (.cells #[.int .i64 o, .int .u16 (withoutG v n), .int .i64 a, .int .i64 f] 65) := by
  go_enter Try.func43, Try.ntmps43
  go_wp2_with (go_at_call 42; refine (gone_core _ _ _ _ _ _).mono ?_; rintro e w' ⟨rfl, rfl⟩)
  exact bodyPost_ret (v := .tuple #[.agg #[.int .i64 o, .int .u16 (withoutG v n), .int .i64 a, .int .i64 f], .int .i64 2]) (by simp [results, Try.results43, go_sem]) rfl ⟨rfl, rfl⟩
set_option maxHeartbeats 1000000 in
theorem right_core (o v a f n : Int) (w : World) : Calls Try.prog 44 #[.agg #[.int .i64 o, .int .u16 v, .int .i64 a, .int .i64 f], .int .i64 n] w fun e w' => e = .returned (.tuple #[.agg #[.int .i64 o, .int .u16 (withG v n), .int .i64 0, .int .i64 0], .int .i64 1]) ∧ w' = (w.alloc (.cells #[.int .i64 o, .int .u16 (withG v n), .int .i64 0, .int .i64 0] 65)).alloc (.cells #[.int .i64 o, .int .u16 (withG v n), .int .i64 0, .int .i64 0] 65) := by
  go_enter Try.func44, Try.ntmps44
  go_wp2_with (go_at_call 37; refine (with_core _ _ _).mono ?_; rintro e w' ⟨rfl, rfl⟩)
  exact bodyPost_ret (v := .tuple #[.agg #[.int .i64 o, .int .u16 (withG v n), .int .i64 0, .int .i64 0], .int .i64 1]) (by simp [results, Try.results44, go_sem]) rfl ⟨rfl, rfl⟩
set_option maxHeartbeats 1000000 in
theorem other1_core (o v f n : Int) (w : World) : Calls Try.prog 45 #[.agg #[.int .i64 o, .int .u16 v, .int .i64 1, .int .i64 f], .int .i64 n] w fun e w' => e = .returned (.tuple #[.agg #[.int .i64 o, .int .u16 (withoutG v n), .int .i64 2, .int .i64 n], .int .i64 2]) ∧ Below w.heap.size w w' := by
  go_enter Try.func45, Try.ntmps45
  go_wp2_with (go_at_call 43; refine (wrong_core _ _ _ _ _ _).mono ?_; rintro e w' ⟨rfl, rfl⟩)
  refine bodyPost_ret (v := .tuple #[.agg #[.int .i64 o, .int .u16 (withoutG v n), .int .i64 2, .int .i64 n], .int .i64 2]) (by simp [results, Try.results45, go_sem]) rfl ⟨rfl, ?_⟩
  repeat (first | exact Below.refl _ _ | refine Below.setCell ?_ (show w.heap.size ≤ _ by simp) _ | refine Below.alloc ?_ (by simp <;> omega) _ | refine Below.drew ?_)
set_option maxHeartbeats 1000000 in
theorem other2_core (o v a f n : Int) (w : World) (ha : (a == 1) = false) : Calls Try.prog 45 #[.agg #[.int .i64 o, .int .u16 v, .int .i64 a, .int .i64 f], .int .i64 n] w fun e w' => e = .returned (.tuple #[.agg #[.int .i64 o, .int .u16 (withG (withG (withoutG v o) n) f), .int .i64 0, .int .i64 0], .int .i64 3]) ∧ Below w.heap.size w w' := by
  go_enter Try.func45, Try.ntmps45
  go_wp2_with (first | (go_at_call 27; refine (without_core _ _ _).mono ?_; rintro e w' ⟨rfl, rfl⟩) | (go_at_call 37; refine (with_core _ _ _).mono ?_; rintro e w' ⟨rfl, rfl⟩))
  go_region_with ((go_at_call 37; refine (with_core _ _ _).mono ?_; rintro e w' ⟨rfl, rfl⟩))
  all_goals go_wp2
  all_goals (refine bodyPost_ret (v := .tuple #[.agg #[.int .i64 o, .int .u16 (withG (withG (withoutG v o) n) f), .int .i64 0, .int .i64 0], .int .i64 3]) (by simp [results, Try.results45, go_sem]) rfl ⟨rfl, ?_⟩; (repeat (first | exact Below.refl _ _ | refine Below.setCell ?_ (show w.heap.size ≤ _ by simp) _ | refine Below.alloc ?_ (by simp <;> omega) _ | refine Below.drew ?_)))

/-! ### Step -/
theorem does_gone (w : World) : Calls Try.prog 36 #[.int .i64 0] w fun e w' => e = .returned (.func (.func 42) #[] #[]) ∧ w' = w := by
  go_enter Try.func36, Try.ntmps36
  go_wp2
  go_ret
  exact ⟨rfl, rfl⟩
theorem does_wrong (w : World) : Calls Try.prog 36 #[.int .i64 1] w fun e w' => e = .returned (.func (.func 43) #[] #[]) ∧ w' = w := by
  go_enter Try.func36, Try.ntmps36
  go_wp2
  go_ret
  exact ⟨rfl, rfl⟩
theorem does_right (w : World) : Calls Try.prog 36 #[.int .i64 2] w fun e w' => e = .returned (.func (.func 44) #[] #[]) ∧ w' = w := by
  go_enter Try.func36, Try.ntmps36
  go_wp2
  go_ret
  exact ⟨rfl, rfl⟩
theorem does_other (w : World) : Calls Try.prog 36 #[.int .i64 3] w fun e w' => e = .returned (.func (.func 45) #[] #[]) ∧ w' = w := by
  go_enter Try.func36, Try.ntmps36
  go_wp2
  go_ret
  exact ⟨rfl, rfl⟩
theorem does_none (r : Int) (w : World) (h0 : (r == 0) = false) (h1 : (r == 1) = false) (h2 : (r == 2) = false) (h3 : (r == 3) = false) : Calls Try.prog 36 #[.int .i64 r] w fun e w' => e = .returned .nilFunc ∧ w' = w := by
  go_enter Try.func36, Try.ntmps36
  go_wp2
  go_ret
  exact ⟨rfl, rfl⟩
set_option maxHeartbeats 2000000 in
theorem step_gone (o v a f n : Int) (w : World) (hm : mayV o v a f n = true) : Calls Try.prog 14 #[.agg #[.int .i64 o, .int .u16 v, .int .i64 a, .int .i64 f], .int .i64 n, .int .i64 0] w fun e w' => e = .returned (.tuple #[.agg #[.int .i64 o, .int .u16 (withoutG v n), .int .i64 a, .int .i64 f], .int .i64 0, .int .i64 0]) ∧ Below w.heap.size w w' := by
  have hfn := fun (f : Fn) (x y : Array Value) (w : World) => eql_func_nil (P := Try.prog) w Try.underlying72 f x y
  have hnn := fun (w : World) => eql_nil_nil (P := Try.prog) w Try.underlying72
  go_enter Try.func14, Try.ntmps14
  go_wp2_with (first | (go_at_call 28; refine (vmay_core _ _ _ _ _ _).mono ?_; rintro e w' ⟨rfl, rfl⟩) | (go_at_call 36; refine (does_gone _).mono ?_; rintro e w' ⟨rfl, rfl⟩) | (go_at_call 42; refine (gone_core _ _ _ _ _ _).mono ?_; rintro e w' ⟨rfl, rfl⟩))
  refine bodyPost_ret (v := .tuple #[.agg #[.int .i64 o, .int .u16 (withoutG v n), .int .i64 a, .int .i64 f], .int .i64 0, .int .i64 0]) (by simp [results, Try.results14, go_sem]) rfl ⟨rfl, ?_⟩
  (repeat (first | exact Below.refl _ _ | refine Below.setCell ?_ (show w.heap.size ≤ _ by simp) _ | refine Below.alloc ?_ (by simp <;> omega) _ | refine Below.drew ?_))
set_option maxHeartbeats 2000000 in
theorem step_wrong (o v a f n : Int) (w : World) (hm : mayV o v a f n = true) : Calls Try.prog 14 #[.agg #[.int .i64 o, .int .u16 v, .int .i64 a, .int .i64 f], .int .i64 n, .int .i64 1] w fun e w' => e = .returned (.tuple #[.agg #[.int .i64 o, .int .u16 (withoutG v n), .int .i64 a, .int .i64 f], .int .i64 2, .int .i64 0]) ∧ Below w.heap.size w w' := by
  have hfn := fun (f : Fn) (x y : Array Value) (w : World) => eql_func_nil (P := Try.prog) w Try.underlying72 f x y
  have hnn := fun (w : World) => eql_nil_nil (P := Try.prog) w Try.underlying72
  go_enter Try.func14, Try.ntmps14
  go_wp2_with (first | (go_at_call 28; refine (vmay_core _ _ _ _ _ _).mono ?_; rintro e w' ⟨rfl, rfl⟩) | (go_at_call 36; refine (does_wrong _).mono ?_; rintro e w' ⟨rfl, rfl⟩) | (go_at_call 43; refine (wrong_core _ _ _ _ _ _).mono ?_; rintro e w' ⟨rfl, rfl⟩))
  refine bodyPost_ret (v := .tuple #[.agg #[.int .i64 o, .int .u16 (withoutG v n), .int .i64 a, .int .i64 f], .int .i64 2, .int .i64 0]) (by simp [results, Try.results14, go_sem]) rfl ⟨rfl, ?_⟩
  (repeat (first | exact Below.refl _ _ | refine Below.setCell ?_ (show w.heap.size ≤ _ by simp) _ | refine Below.alloc ?_ (by simp <;> omega) _ | refine Below.drew ?_))
set_option maxHeartbeats 2000000 in
theorem step_right (o v a f n : Int) (w : World) (hm : mayV o v a f n = true) : Calls Try.prog 14 #[.agg #[.int .i64 o, .int .u16 v, .int .i64 a, .int .i64 f], .int .i64 n, .int .i64 2] w fun e w' => e = .returned (.tuple #[.agg #[.int .i64 o, .int .u16 (withG v n), .int .i64 0, .int .i64 0], .int .i64 1, .int .i64 0]) ∧ Below w.heap.size w w' := by
  have hfn := fun (f : Fn) (x y : Array Value) (w : World) => eql_func_nil (P := Try.prog) w Try.underlying72 f x y
  have hnn := fun (w : World) => eql_nil_nil (P := Try.prog) w Try.underlying72
  go_enter Try.func14, Try.ntmps14
  go_wp2_with (first | (go_at_call 28; refine (vmay_core _ _ _ _ _ _).mono ?_; rintro e w' ⟨rfl, rfl⟩) | (go_at_call 36; refine (does_right _).mono ?_; rintro e w' ⟨rfl, rfl⟩) | (go_at_call 44; refine (right_core _ _ _ _ _ _).mono ?_; rintro e w' ⟨rfl, rfl⟩))
  refine bodyPost_ret (v := .tuple #[.agg #[.int .i64 o, .int .u16 (withG v n), .int .i64 0, .int .i64 0], .int .i64 1, .int .i64 0]) (by simp [results, Try.results14, go_sem]) rfl ⟨rfl, ?_⟩
  (repeat (first | exact Below.refl _ _ | refine Below.setCell ?_ (show w.heap.size ≤ _ by simp) _ | refine Below.alloc ?_ (by simp <;> omega) _ | refine Below.drew ?_))
set_option maxHeartbeats 2000000 in
theorem step_other1 (o v f n : Int) (w : World) (hm : mayV o v 1 f n = true) : Calls Try.prog 14 #[.agg #[.int .i64 o, .int .u16 v, .int .i64 1, .int .i64 f], .int .i64 n, .int .i64 3] w fun e w' => e = .returned (.tuple #[.agg #[.int .i64 o, .int .u16 (withoutG v n), .int .i64 2, .int .i64 n], .int .i64 2, .int .i64 0]) ∧ Below w.heap.size w w' := by
  have hfn := fun (f : Fn) (x y : Array Value) (w : World) => eql_func_nil (P := Try.prog) w Try.underlying72 f x y
  have hnn := fun (w : World) => eql_nil_nil (P := Try.prog) w Try.underlying72
  go_enter Try.func14, Try.ntmps14
  go_wp2_with (first | (go_at_call 28; refine (vmay_core _ _ _ _ _ _).mono ?_; rintro e w' ⟨rfl, rfl⟩) | (go_at_call 36; refine (does_other _).mono ?_; rintro e w' ⟨rfl, rfl⟩) | (go_at_call 45; refine (other1_core _ _ _ _ _).mono ?_; rintro e w1 ⟨rfl, hb⟩; have hz : w.heap.size + 1 < w1.heap.size := (by have := hb.size; simp at this; omega); have q0 := (hb.cell (p := ⟨w.heap.size + 1, 0, none⟩) (by simp <;> omega)).trans (show _ = some (Value.int .i64 0) by simp [go_sem]); have q1 := (hb.cell (p := ⟨w.heap.size + 1, 1, none⟩) (by simp <;> omega)).trans (show _ = some (Value.int .u16 0) by simp [go_sem]); have q2 := (hb.cell (p := ⟨w.heap.size + 1, 2, none⟩) (by simp <;> omega)).trans (show _ = some (Value.int .i64 0) by simp [go_sem]); have q3 := (hb.cell (p := ⟨w.heap.size + 1, 3, none⟩) (by simp <;> omega)).trans (show _ = some (Value.int .i64 0) by simp [go_sem]); have g0 := (hb.frozen (p := ⟨w.heap.size + 1, 0, none⟩) (by simp <;> omega)).trans (show _ = false by simp [go_sem]); have g1 := (hb.frozen (p := ⟨w.heap.size + 1, 1, none⟩) (by simp <;> omega)).trans (show _ = false by simp [go_sem]); have g2 := (hb.frozen (p := ⟨w.heap.size + 1, 2, none⟩) (by simp <;> omega)).trans (show _ = false by simp [go_sem]); have g3 := (hb.frozen (p := ⟨w.heap.size + 1, 3, none⟩) (by simp <;> omega)).trans (show _ = false by simp [go_sem]); have HK := Aside0.mk ((hb.block (w.heap.size + 1) (by simp <;> omega)).trans (blk_alloc (blk_alloc (second_block _ _ _) _) _)); have HB := Lib.hid hb; clear hb))
  refine bodyPost_ret (v := .tuple #[.agg #[.int .i64 o, .int .u16 (withoutG v n), .int .i64 2, .int .i64 n], .int .i64 2, .int .i64 0]) ?_ rfl ⟨rfl, ?_⟩
  · have hz := blk_alloc (blk_set (blk_set (blk_set (blk_set HK.out 0 (.int .i64 o)) 1 (.int .u16 (withoutG v n))) 2 (.int .i64 2)) 3 (.int .i64 n)) (.cells #[.int .i64 o, .int .u16 (withoutG v n), .int .i64 2, .int .i64 n] 65)
    have c0 : _ = some (Value.int .i64 o) := (blk_cell hz 0).trans rfl
    have c1 : _ = some (Value.int .u16 (withoutG v n)) := (blk_cell hz 1).trans rfl
    have c2 : _ = some (Value.int .i64 2) := (blk_cell hz 2).trans rfl
    have c3 : _ = some (Value.int .i64 n) := (blk_cell hz 3).trans rfl
    simp [results, Try.results14, go_sem, c0, c1, c2, c3]
  have hw : Below w.heap.size w w1 := by
    refine below_then ?_ ?_ HB.out
    · (repeat (first | exact Below.refl _ _ | refine Below.setCell ?_ (show w.heap.size ≤ _ by simp) _ | refine Below.alloc ?_ (by simp <;> omega) _ | refine Below.drew ?_))
    · simp <;> omega
  repeat (first | exact hw | refine Below.setCell ?_ (show w.heap.size ≤ _ by simp) _ | refine Below.alloc ?_ (by simp <;> omega) _)
set_option maxHeartbeats 2000000 in
theorem step_other2 (o v a f n : Int) (w : World) (hm : mayV o v a f n = true) (ha0 : (a == 0) = false) (ha1 : (a == 1) = false) : Calls Try.prog 14 #[.agg #[.int .i64 o, .int .u16 v, .int .i64 a, .int .i64 f], .int .i64 n, .int .i64 3] w fun e w' => e = .returned (.tuple #[.agg #[.int .i64 o, .int .u16 (withG (withG (withoutG v o) n) f), .int .i64 0, .int .i64 0], .int .i64 3, .int .i64 0]) ∧ Below w.heap.size w w' := by
  have hfn := fun (f : Fn) (x y : Array Value) (w : World) => eql_func_nil (P := Try.prog) w Try.underlying72 f x y
  have hnn := fun (w : World) => eql_nil_nil (P := Try.prog) w Try.underlying72
  go_enter Try.func14, Try.ntmps14
  go_wp2_with (first | (go_at_call 28; refine (vmay_core _ _ _ _ _ _).mono ?_; rintro e w' ⟨rfl, rfl⟩) | (go_at_call 36; refine (does_other _).mono ?_; rintro e w' ⟨rfl, rfl⟩) | (go_at_call 45; refine (other2_core _ _ _ _ _ _ ha1).mono ?_; rintro e w1 ⟨rfl, hb⟩; have hz : w.heap.size + 1 < w1.heap.size := (by have := hb.size; simp at this; omega); have q0 := (hb.cell (p := ⟨w.heap.size + 1, 0, none⟩) (by simp <;> omega)).trans (show _ = some (Value.int .i64 0) by simp [go_sem]); have q1 := (hb.cell (p := ⟨w.heap.size + 1, 1, none⟩) (by simp <;> omega)).trans (show _ = some (Value.int .u16 0) by simp [go_sem]); have q2 := (hb.cell (p := ⟨w.heap.size + 1, 2, none⟩) (by simp <;> omega)).trans (show _ = some (Value.int .i64 0) by simp [go_sem]); have q3 := (hb.cell (p := ⟨w.heap.size + 1, 3, none⟩) (by simp <;> omega)).trans (show _ = some (Value.int .i64 0) by simp [go_sem]); have g0 := (hb.frozen (p := ⟨w.heap.size + 1, 0, none⟩) (by simp <;> omega)).trans (show _ = false by simp [go_sem]); have g1 := (hb.frozen (p := ⟨w.heap.size + 1, 1, none⟩) (by simp <;> omega)).trans (show _ = false by simp [go_sem]); have g2 := (hb.frozen (p := ⟨w.heap.size + 1, 2, none⟩) (by simp <;> omega)).trans (show _ = false by simp [go_sem]); have g3 := (hb.frozen (p := ⟨w.heap.size + 1, 3, none⟩) (by simp <;> omega)).trans (show _ = false by simp [go_sem]); have HK := Aside0.mk ((hb.block (w.heap.size + 1) (by simp <;> omega)).trans (blk_alloc (blk_alloc (second_block _ _ _) _) _)); have HB := Lib.hid hb; clear hb))
  refine bodyPost_ret (v := .tuple #[.agg #[.int .i64 o, .int .u16 (withG (withG (withoutG v o) n) f), .int .i64 0, .int .i64 0], .int .i64 3, .int .i64 0]) ?_ rfl ⟨rfl, ?_⟩
  · have hz := blk_alloc (blk_set (blk_set (blk_set (blk_set HK.out 0 (.int .i64 o)) 1 (.int .u16 (withG (withG (withoutG v o) n) f))) 2 (.int .i64 0)) 3 (.int .i64 0)) (.cells #[.int .i64 o, .int .u16 (withG (withG (withoutG v o) n) f), .int .i64 0, .int .i64 0] 65)
    have c0 : _ = some (Value.int .i64 o) := (blk_cell hz 0).trans rfl
    have c1 : _ = some (Value.int .u16 (withG (withG (withoutG v o) n) f)) := (blk_cell hz 1).trans rfl
    have c2 : _ = some (Value.int .i64 0) := (blk_cell hz 2).trans rfl
    have c3 : _ = some (Value.int .i64 0) := (blk_cell hz 3).trans rfl
    simp [results, Try.results14, go_sem, c0, c1, c2, c3]
  have hw : Below w.heap.size w w1 := by
    refine below_then ?_ ?_ HB.out
    · (repeat (first | exact Below.refl _ _ | refine Below.setCell ?_ (show w.heap.size ≤ _ by simp) _ | refine Below.alloc ?_ (by simp <;> omega) _ | refine Below.drew ?_))
    · simp <;> omega
  repeat (first | exact hw | refine Below.setCell ?_ (show w.heap.size ≤ _ by simp) _ | refine Below.alloc ?_ (by simp <;> omega) _)
set_option maxHeartbeats 2000000 in
theorem step_none3 (o v f n : Int) (w : World) (hm : mayV o v 0 f n = true) : Calls Try.prog 14 #[.agg #[.int .i64 o, .int .u16 v, .int .i64 0, .int .i64 f], .int .i64 n, .int .i64 3] w fun e w' => e = .returned (.tuple #[.agg #[.int .i64 0, .int .u16 0, .int .i64 0, .int .i64 0], .int .i64 0, .int .i64 180]) ∧ Below w.heap.size w w' := by
  have hfn := fun (f : Fn) (x y : Array Value) (w : World) => eql_func_nil (P := Try.prog) w Try.underlying72 f x y
  have hnn := fun (w : World) => eql_nil_nil (P := Try.prog) w Try.underlying72
  go_enter Try.func14, Try.ntmps14
  go_wp2_with (first | (go_at_call 28; refine (vmay_core _ _ _ _ _ _).mono ?_; rintro e w' ⟨rfl, rfl⟩) | (go_at_call 36; refine (does_other _).mono ?_; rintro e w' ⟨rfl, rfl⟩))
  refine bodyPost_ret (v := .tuple #[.agg #[.int .i64 0, .int .u16 0, .int .i64 0, .int .i64 0], .int .i64 0, .int .i64 180]) (by simp [results, Try.results14, go_sem]) rfl ⟨rfl, ?_⟩
  (repeat (first | exact Below.refl _ _ | refine Below.setCell ?_ (show w.heap.size ≤ _ by simp) _ | refine Below.alloc ?_ (by simp <;> omega) _ | refine Below.drew ?_))
set_option maxHeartbeats 2000000 in
theorem step_none (o v a f n r : Int) (w : World) (h0 : (r == 0) = false) (h1 : (r == 1) = false) (h2 : (r == 2) = false) (h3 : (r == 3) = false) (hm : mayV o v a f n = true) : Calls Try.prog 14 #[.agg #[.int .i64 o, .int .u16 v, .int .i64 a, .int .i64 f], .int .i64 n, .int .i64 r] w fun e w' => e = .returned (.tuple #[.agg #[.int .i64 0, .int .u16 0, .int .i64 0, .int .i64 0], .int .i64 0, .int .i64 180]) ∧ Below w.heap.size w w' := by
  have hfn := fun (f : Fn) (x y : Array Value) (w : World) => eql_func_nil (P := Try.prog) w Try.underlying72 f x y
  have hnn := fun (w : World) => eql_nil_nil (P := Try.prog) w Try.underlying72
  go_enter Try.func14, Try.ntmps14
  go_wp2_with (first | (go_at_call 28; refine (vmay_core _ _ _ _ _ _).mono ?_; rintro e w' ⟨rfl, rfl⟩) | (go_at_call 36; refine (does_none _ _ (by assumption) (by assumption) (by assumption) (by assumption)).mono ?_; rintro e w' ⟨rfl, rfl⟩))
  refine bodyPost_ret (v := .tuple #[.agg #[.int .i64 0, .int .u16 0, .int .i64 0, .int .i64 0], .int .i64 0, .int .i64 180]) (by simp [results, Try.results14, go_sem]) rfl ⟨rfl, ?_⟩
  (repeat (first | exact Below.refl _ _ | refine Below.setCell ?_ (show w.heap.size ≤ _ by simp) _ | refine Below.alloc ?_ (by simp <;> omega) _ | refine Below.drew ?_))
set_option maxHeartbeats 2000000 in
theorem step_not0 (o v a f n : Int) (w : World) (hm : mayV o v a f n = false) : Calls Try.prog 14 #[.agg #[.int .i64 o, .int .u16 v, .int .i64 a, .int .i64 f], .int .i64 n, .int .i64 0] w fun e w' => e = .returned (.tuple #[.agg #[.int .i64 0, .int .u16 0, .int .i64 0, .int .i64 0], .int .i64 0, .int .i64 180]) ∧ Below w.heap.size w w' := by
  have hfn := fun (f : Fn) (x y : Array Value) (w : World) => eql_func_nil (P := Try.prog) w Try.underlying72 f x y
  have hnn := fun (w : World) => eql_nil_nil (P := Try.prog) w Try.underlying72
  go_enter Try.func14, Try.ntmps14
  go_wp2_with (first | (go_at_call 28; refine (vmay_core _ _ _ _ _ _).mono ?_; rintro e w' ⟨rfl, rfl⟩) | (go_at_call 36; refine (does_gone _).mono ?_; rintro e w' ⟨rfl, rfl⟩))
  refine bodyPost_ret (v := .tuple #[.agg #[.int .i64 0, .int .u16 0, .int .i64 0, .int .i64 0], .int .i64 0, .int .i64 180]) (by simp [results, Try.results14, go_sem]) rfl ⟨rfl, ?_⟩
  (repeat (first | exact Below.refl _ _ | refine Below.setCell ?_ (show w.heap.size ≤ _ by simp) _ | refine Below.alloc ?_ (by simp <;> omega) _ | refine Below.drew ?_))
set_option maxHeartbeats 2000000 in
theorem step_not1 (o v a f n : Int) (w : World) (hm : mayV o v a f n = false) : Calls Try.prog 14 #[.agg #[.int .i64 o, .int .u16 v, .int .i64 a, .int .i64 f], .int .i64 n, .int .i64 1] w fun e w' => e = .returned (.tuple #[.agg #[.int .i64 0, .int .u16 0, .int .i64 0, .int .i64 0], .int .i64 0, .int .i64 180]) ∧ Below w.heap.size w w' := by
  have hfn := fun (f : Fn) (x y : Array Value) (w : World) => eql_func_nil (P := Try.prog) w Try.underlying72 f x y
  have hnn := fun (w : World) => eql_nil_nil (P := Try.prog) w Try.underlying72
  go_enter Try.func14, Try.ntmps14
  go_wp2_with (first | (go_at_call 28; refine (vmay_core _ _ _ _ _ _).mono ?_; rintro e w' ⟨rfl, rfl⟩) | (go_at_call 36; refine (does_wrong _).mono ?_; rintro e w' ⟨rfl, rfl⟩))
  refine bodyPost_ret (v := .tuple #[.agg #[.int .i64 0, .int .u16 0, .int .i64 0, .int .i64 0], .int .i64 0, .int .i64 180]) (by simp [results, Try.results14, go_sem]) rfl ⟨rfl, ?_⟩
  (repeat (first | exact Below.refl _ _ | refine Below.setCell ?_ (show w.heap.size ≤ _ by simp) _ | refine Below.alloc ?_ (by simp <;> omega) _ | refine Below.drew ?_))
set_option maxHeartbeats 2000000 in
theorem step_not2 (o v a f n : Int) (w : World) (hm : mayV o v a f n = false) : Calls Try.prog 14 #[.agg #[.int .i64 o, .int .u16 v, .int .i64 a, .int .i64 f], .int .i64 n, .int .i64 2] w fun e w' => e = .returned (.tuple #[.agg #[.int .i64 0, .int .u16 0, .int .i64 0, .int .i64 0], .int .i64 0, .int .i64 180]) ∧ Below w.heap.size w w' := by
  have hfn := fun (f : Fn) (x y : Array Value) (w : World) => eql_func_nil (P := Try.prog) w Try.underlying72 f x y
  have hnn := fun (w : World) => eql_nil_nil (P := Try.prog) w Try.underlying72
  go_enter Try.func14, Try.ntmps14
  go_wp2_with (first | (go_at_call 28; refine (vmay_core _ _ _ _ _ _).mono ?_; rintro e w' ⟨rfl, rfl⟩) | (go_at_call 36; refine (does_right _).mono ?_; rintro e w' ⟨rfl, rfl⟩))
  refine bodyPost_ret (v := .tuple #[.agg #[.int .i64 0, .int .u16 0, .int .i64 0, .int .i64 0], .int .i64 0, .int .i64 180]) (by simp [results, Try.results14, go_sem]) rfl ⟨rfl, ?_⟩
  (repeat (first | exact Below.refl _ _ | refine Below.setCell ?_ (show w.heap.size ≤ _ by simp) _ | refine Below.alloc ?_ (by simp <;> omega) _ | refine Below.drew ?_))
set_option maxHeartbeats 2000000 in
theorem step_not3 (o v a f n : Int) (w : World) (hm : mayV o v a f n = false) : Calls Try.prog 14 #[.agg #[.int .i64 o, .int .u16 v, .int .i64 a, .int .i64 f], .int .i64 n, .int .i64 3] w fun e w' => e = .returned (.tuple #[.agg #[.int .i64 0, .int .u16 0, .int .i64 0, .int .i64 0], .int .i64 0, .int .i64 180]) ∧ Below w.heap.size w w' := by
  have hfn := fun (f : Fn) (x y : Array Value) (w : World) => eql_func_nil (P := Try.prog) w Try.underlying72 f x y
  have hnn := fun (w : World) => eql_nil_nil (P := Try.prog) w Try.underlying72
  go_enter Try.func14, Try.ntmps14
  go_wp2_with (first | (go_at_call 28; refine (vmay_core _ _ _ _ _ _).mono ?_; rintro e w' ⟨rfl, rfl⟩) | (go_at_call 36; refine (does_other _).mono ?_; rintro e w' ⟨rfl, rfl⟩))
  refine bodyPost_ret (v := .tuple #[.agg #[.int .i64 0, .int .u16 0, .int .i64 0, .int .i64 0], .int .i64 0, .int .i64 180]) (by simp [results, Try.results14, go_sem]) rfl ⟨rfl, ?_⟩
  (repeat (first | exact Below.refl _ _ | refine Below.setCell ?_ (show w.heap.size ≤ _ by simp) _ | refine Below.alloc ?_ (by simp <;> omega) _ | refine Below.drew ?_))
set_option maxHeartbeats 2000000 in
theorem step_notn (o v a f n r : Int) (w : World) (h0 : (r == 0) = false) (h1 : (r == 1) = false) (h2 : (r == 2) = false) (h3 : (r == 3) = false) (hm : mayV o v a f n = false) : Calls Try.prog 14 #[.agg #[.int .i64 o, .int .u16 v, .int .i64 a, .int .i64 f], .int .i64 n, .int .i64 r] w fun e w' => e = .returned (.tuple #[.agg #[.int .i64 0, .int .u16 0, .int .i64 0, .int .i64 0], .int .i64 0, .int .i64 180]) ∧ Below w.heap.size w w' := by
  have hfn := fun (f : Fn) (x y : Array Value) (w : World) => eql_func_nil (P := Try.prog) w Try.underlying72 f x y
  have hnn := fun (w : World) => eql_nil_nil (P := Try.prog) w Try.underlying72
  go_enter Try.func14, Try.ntmps14
  go_wp2_with (first | (go_at_call 28; refine (vmay_core _ _ _ _ _ _).mono ?_; rintro e w' ⟨rfl, rfl⟩) | (go_at_call 36; refine (does_none _ _ (by assumption) (by assumption) (by assumption) (by assumption)).mono ?_; rintro e w' ⟨rfl, rfl⟩))
  refine bodyPost_ret (v := .tuple #[.agg #[.int .i64 0, .int .u16 0, .int .i64 0, .int .i64 0], .int .i64 0, .int .i64 180]) (by simp [results, Try.results14, go_sem]) rfl ⟨rfl, ?_⟩
  (repeat (first | exact Below.refl _ _ | refine Below.setCell ?_ (show w.heap.size ≤ _ by simp) _ | refine Below.alloc ?_ (by simp <;> omega) _ | refine Below.drew ?_))

def vector_Step.f (a0_0 a0_1 a0_2 a0_3 a1 a2 : Int) : Option (Int × Int × Int × Int × Int × Int) := some (stepV a0_0 a0_1 a0_2 a0_3 a1 a2)
theorem vector_Step.calls (a0_0 a0_1 a0_2 a0_3 a1 a2 : Int) (r1 r2 r3 r4 r5 r6 : Int) (w : World) (h : vector_Step.f a0_0 a0_1 a0_2 a0_3 a1 a2 = some (r1, r2, r3, r4, r5, r6)) : Calls Try.prog 14 #[.agg #[.int .i64 a0_0, .int .u16 a0_1, .int .i64 a0_2, .int .i64 a0_3], .int .i64 a1, .int .i64 a2] w fun e w' => e = .returned (.tuple #[.agg #[.int .i64 r1, .int .u16 r2, .int .i64 r3, .int .i64 r4], .int .i64 r5, .int .i64 r6]) ∧ Below w.heap.size w w' := by
  have h' := Option.some.inj h
  clear h
  cases hm : mayV a0_0 a0_1 a0_2 a0_3 a1 with
  | false =>
    unfold stepV at h'
    rw [if_neg (by rw [hm]; simp)] at h'
    simp only [Prod.mk.injEq] at h'
    obtain ⟨rfl, rfl, rfl, rfl, rfl, rfl⟩ := h'
    by_cases h0 : a2 = 0
    · subst h0; exact step_not0 _ _ _ _ _ w hm
    by_cases h1 : a2 = 1
    · subst h1; exact step_not1 _ _ _ _ _ w hm
    by_cases h2 : a2 = 2
    · subst h2; exact step_not2 _ _ _ _ _ w hm
    by_cases h3 : a2 = 3
    · subst h3; exact step_not3 _ _ _ _ _ w hm
    exact step_notn _ _ _ _ _ _ w (by simpa using h0) (by simpa using h1) (by simpa using h2) (by simpa using h3) hm
  | true =>
    unfold stepV at h'
    rw [if_pos hm] at h'
    by_cases h0 : a2 = 0
    · subst h0
      rw [if_pos rfl] at h'
      simp only [Prod.mk.injEq] at h'
      obtain ⟨rfl, rfl, rfl, rfl, rfl, rfl⟩ := h'
      exact step_gone _ _ _ _ _ w hm
    rw [if_neg h0] at h'
    by_cases h1 : a2 = 1
    · subst h1
      rw [if_pos rfl] at h'
      simp only [Prod.mk.injEq] at h'
      obtain ⟨rfl, rfl, rfl, rfl, rfl, rfl⟩ := h'
      exact step_wrong _ _ _ _ _ w hm
    rw [if_neg h1] at h'
    by_cases h2 : a2 = 2
    · subst h2
      rw [if_pos rfl] at h'
      simp only [Prod.mk.injEq] at h'
      obtain ⟨rfl, rfl, rfl, rfl, rfl, rfl⟩ := h'
      exact step_right _ _ _ _ _ w hm
    rw [if_neg h2] at h'
    by_cases h3 : a2 = 3
    · subst h3
      rw [if_pos rfl] at h'
      by_cases ha0 : a0_2 = 0
      · subst ha0
        rw [if_pos rfl] at h'
        simp only [Prod.mk.injEq] at h'
        obtain ⟨rfl, rfl, rfl, rfl, rfl, rfl⟩ := h'
        exact step_none3 _ _ _ _ w hm
      rw [if_neg ha0] at h'
      by_cases ha1 : a0_2 = 1
      · subst ha1
        rw [if_pos rfl] at h'
        simp only [Prod.mk.injEq] at h'
        obtain ⟨rfl, rfl, rfl, rfl, rfl, rfl⟩ := h'
        exact step_other1 _ _ _ _ w hm
      rw [if_neg ha1] at h'
      simp only [Prod.mk.injEq] at h'
      obtain ⟨rfl, rfl, rfl, rfl, rfl, rfl⟩ := h'
      exact step_other2 _ _ _ _ _ w hm (by simpa using ha0) (by simpa using ha1)
    rw [if_neg h3] at h'
    simp only [Prod.mk.injEq] at h'
    obtain ⟨rfl, rfl, rfl, rfl, rfl, rfl⟩ := h'
    exact step_none _ _ _ _ _ _ w (by simpa using h0) (by simpa using h1) (by simpa using h2) (by simpa using h3) hm
end Go.Proofs.Ytcfloaplbmpoaaa.Hand
