/- Written by a program of this session (wip/jprint.py, over the printer of the kit): functions that a law comes to, as plain Lean functions, and walks; Lean checks it. -/
import Derived.Test.YtcagoddljhagiaaPAx0
import Derived.Test.YtcagoddljhagiaaPAx3
namespace Go.Proofs.Ytcagoddljhagiaa.PA
open Go.RowKit Go.Proofs.Ytcagoddljhagiaa.Hand Go.Proofs.YtcagoddljhagiaaW.PrintWords Go.Proofs.YtcagoddljhagiaaW.PrintLast Go.Proofs.YtcagoddljhagiaaW.PrintMore
attribute [local go_sem] max2_int min2_int max_two min_two max_three min_three max_four min_four   -- for this text's walks alone
set_option linter.unusedVariables false
set_option linter.unusedSimpArgs false

/-! ### vesperslaw14_MidpointTrimmed: function 4 -/
mutual
def vesperslaw14_MidpointTrimmed.j0 : Nat → List Int → Int → Bool → Bool → Option (Bool)
  | 0, _, _, _, _ => none
  | k + 1, x0, x1, x5, x31 => if x31 = true then (some x5) else (if (wrap64 ((wrap64 (Int.tdiv (wrap64 ((x0.length : Int) - 1)) 2)) + 1)) = 0 then (none) else ((vesperslaw14_some.f k x0).bind fun t226 => ((midpoint_Trim.f t226 (Int.tmod (wrap64 (x1)) (wrap64 ((wrap64 (Int.tdiv (wrap64 ((x0.length : Int) - 1)) 2)) + 1)))).bind fun bt229 => (if bt229.2 = 0 then (vesperslaw14_MidpointTrimmed.j1 k x5 (Int.tmod (wrap64 (x1)) (wrap64 ((wrap64 (Int.tdiv (wrap64 ((x0.length : Int) - 1)) 2)) + 1))) t226 bt229.1 ((bt229.1.length : Int) != (wrap64 ((t226.length : Int) - (wrap64 (2 * (Int.tmod (wrap64 (x1)) (wrap64 ((wrap64 (Int.tdiv (wrap64 ((x0.length : Int) - 1)) 2)) + 1))))))))) else (vesperslaw14_MidpointTrimmed.j1 k x5 (Int.tmod (wrap64 (x1)) (wrap64 ((wrap64 (Int.tdiv (wrap64 ((x0.length : Int) - 1)) 2)) + 1))) t226 bt229.1 true)))))
def vesperslaw14_MidpointTrimmed.j1 : Nat → Bool → Int → List Int → List Int → Bool → Option (Bool)
  | 0, _, _, _, _, _ => none
  | k + 1, x5, x6, x7, x8, x60 => if x60 = true then (none) else (vesperslaw14_MidpointTrimmed.l0 k x5 x6 x7 x8 0 0 x8 (x8.length : Int) 0)
def vesperslaw14_MidpointTrimmed.l0 : Nat → Bool → Int → List Int → List Int → Int → Int → List Int → Int → Int → Option (Bool)
  | 0, _, _, _, _, _, _, _, _, _ => none
  | k + 1, x5, x6, x7, x8, x10, x11, x61, x62, x63 => if x63 < x62 then (if 0 ≤ x63 then (if x63 < (x61.length : Int) then (vesperslaw14_MidpointTrimmed.l1 k x5 x6 x7 x8 x10 x11 x63 (rd x61 x63) false x61 x62 x63 x7 (x7.length : Int) 0) else (none)) else (none)) else (vesperslaw14_MidpointTrimmed.l2 k x5 x6 x8 x10 x11 x7 (x7.length : Int) 0)
def vesperslaw14_MidpointTrimmed.l1 : Nat → Bool → Int → List Int → List Int → Int → Int → Int → Int → Bool → List Int → Int → Int → List Int → Int → Int → Option (Bool)
  | 0, _, _, _, _, _, _, _, _, _, _, _, _, _, _, _ => none
  | k + 1, x5, x6, x7, x8, x10, x11, x12, x13, x14, x61, x62, x63, x68, x69, x70 => if x70 < x69 then (if 0 ≤ x70 then (if x70 < (x68.length : Int) then (if x14 = true then (vesperslaw14_MidpointTrimmed.l1 k x5 x6 x7 x8 x10 x11 x12 x13 true x61 x62 x63 x68 x69 (wrap64 (x70 + 1))) else (vesperslaw14_MidpointTrimmed.l1 k x5 x6 x7 x8 x10 x11 x12 x13 (x13 == (rd x68 x70)) x61 x62 x63 x68 x69 (wrap64 (x70 + 1)))) else (none)) else (none)) else (if x14 = true then (if x12 > 0 then (if 0 ≤ (wrap64 (x12 - 1)) then (if (wrap64 (x12 - 1)) < (x8.length : Int) then (if (rd x8 (wrap64 (x12 - 1))) > x13 then (none) else (vesperslaw14_MidpointTrimmed.l0 k x5 x6 x7 x8 x10 x11 x61 x62 (wrap64 (x63 + 1)))) else (none)) else (none)) else (vesperslaw14_MidpointTrimmed.l0 k x5 x6 x7 x8 x10 x11 x61 x62 (wrap64 (x63 + 1)))) else (none))
def vesperslaw14_MidpointTrimmed.l2 : Nat → Bool → Int → List Int → Int → Int → List Int → Int → Int → Option (Bool)
  | 0, _, _, _, _, _, _, _, _ => none
  | k + 1, x5, x6, x8, x10, x11, x97, x98, x99 => if x99 < x98 then (if 0 ≤ x99 then (if x99 < (x97.length : Int) then (if 0 < (x8.length : Int) then (if (rd x97 x99) ≤ (rd x8 0) then (if 0 ≤ (wrap64 ((x8.length : Int) - 1)) then (if (wrap64 ((x8.length : Int) - 1)) < (x8.length : Int) then (if (rd x97 x99) ≥ (rd x8 (wrap64 ((x8.length : Int) - 1))) then (vesperslaw14_MidpointTrimmed.l2 k x5 x6 x8 (wrap64 (x10 + 1)) (wrap64 (x11 + 1)) x97 x98 (wrap64 (x99 + 1))) else (vesperslaw14_MidpointTrimmed.l2 k x5 x6 x8 (wrap64 (x10 + 1)) x11 x97 x98 (wrap64 (x99 + 1)))) else (none)) else (none)) else (if 0 ≤ (wrap64 ((x8.length : Int) - 1)) then (if (wrap64 ((x8.length : Int) - 1)) < (x8.length : Int) then (if (rd x97 x99) ≥ (rd x8 (wrap64 ((x8.length : Int) - 1))) then (vesperslaw14_MidpointTrimmed.l2 k x5 x6 x8 x10 (wrap64 (x11 + 1)) x97 x98 (wrap64 (x99 + 1))) else (vesperslaw14_MidpointTrimmed.l2 k x5 x6 x8 x10 x11 x97 x98 (wrap64 (x99 + 1)))) else (none)) else (none))) else (none)) else (none)) else (none)) else (if x5 = true then (if x10 ≥ (wrap64 (x6 + 1)) then (some (decide (x11 ≥ (wrap64 (x6 + 1))))) else (none)) else (none))
end
def vesperslaw14_MidpointTrimmed.f (k : Nat) (l0 : List Int) (a1 : Int) : Option (Bool) := (vesperslaw14_alive.f k).bind fun t225 => (if (l0.length : Int) = 0 then (vesperslaw14_MidpointTrimmed.j0 k l0 a1 t225 true) else (if (l0.length : Int) > 30 then (vesperslaw14_MidpointTrimmed.j0 k l0 a1 t225 true) else (vesperslaw14_MidpointTrimmed.j0 k l0 a1 t225 (!t225))))
theorem vesperslaw14_MidpointTrimmed.mono_l : ∀ k, (∀ y0 y1 y2 y3, LeO (vesperslaw14_MidpointTrimmed.j0 k y0 y1 y2 y3) (vesperslaw14_MidpointTrimmed.j0 (k + 1) y0 y1 y2 y3)) ∧ (∀ y0 y1 y2 y3 y4, LeO (vesperslaw14_MidpointTrimmed.j1 k y0 y1 y2 y3 y4) (vesperslaw14_MidpointTrimmed.j1 (k + 1) y0 y1 y2 y3 y4)) ∧ (∀ y0 y1 y2 y3 y4 y5 y6 y7 y8, LeO (vesperslaw14_MidpointTrimmed.l0 k y0 y1 y2 y3 y4 y5 y6 y7 y8) (vesperslaw14_MidpointTrimmed.l0 (k + 1) y0 y1 y2 y3 y4 y5 y6 y7 y8)) ∧ (∀ y0 y1 y2 y3 y4 y5 y6 y7 y8 y9 y10 y11 y12 y13 y14, LeO (vesperslaw14_MidpointTrimmed.l1 k y0 y1 y2 y3 y4 y5 y6 y7 y8 y9 y10 y11 y12 y13 y14) (vesperslaw14_MidpointTrimmed.l1 (k + 1) y0 y1 y2 y3 y4 y5 y6 y7 y8 y9 y10 y11 y12 y13 y14)) ∧ (∀ y0 y1 y2 y3 y4 y5 y6 y7, LeO (vesperslaw14_MidpointTrimmed.l2 k y0 y1 y2 y3 y4 y5 y6 y7) (vesperslaw14_MidpointTrimmed.l2 (k + 1) y0 y1 y2 y3 y4 y5 y6 y7))
  | 0 => ⟨fun _ _ _ _ r h => by simp [vesperslaw14_MidpointTrimmed.j0] at h, fun _ _ _ _ _ r h => by simp [vesperslaw14_MidpointTrimmed.j1] at h, fun _ _ _ _ _ _ _ _ _ r h => by simp [vesperslaw14_MidpointTrimmed.l0] at h, fun _ _ _ _ _ _ _ _ _ _ _ _ _ _ _ r h => by simp [vesperslaw14_MidpointTrimmed.l1] at h, fun _ _ _ _ _ _ _ _ r h => by simp [vesperslaw14_MidpointTrimmed.l2] at h⟩
  | k + 1 => by
    obtain ⟨ih0, ih1, ih2, ih3, ih4⟩ := vesperslaw14_MidpointTrimmed.mono_l k
    refine ⟨?_, ?_, ?_, ?_, ?_⟩
    · intro y0 y1 y2 y3
      unfold vesperslaw14_MidpointTrimmed.j0
      repeat' first
      | (with_reducible exact ih0 _ _ _ _)
      | (with_reducible exact ih1 _ _ _ _ _)
      | (with_reducible exact ih2 _ _ _ _ _ _ _ _ _)
      | (with_reducible exact ih3 _ _ _ _ _ _ _ _ _ _ _ _ _ _ _)
      | (with_reducible exact ih4 _ _ _ _ _ _ _ _)
      | (with_reducible exact vesperslaw14_alive.mono _)
      | (with_reducible exact vesperslaw14_some.mono _ _)
      | (with_reducible exact LeO.refl _)
      | (with_reducible exact LeO.none _)
      | (with_reducible refine LeO.ite ?_ ?_)
      | (with_reducible refine LeO.bind ?_ (fun _ => ?_))
      | exact ih0 _ _ _ _
      | exact ih1 _ _ _ _ _
      | exact ih2 _ _ _ _ _ _ _ _ _
      | exact ih3 _ _ _ _ _ _ _ _ _ _ _ _ _ _ _
      | exact ih4 _ _ _ _ _ _ _ _
      | exact vesperslaw14_alive.mono _
      | exact vesperslaw14_some.mono _ _
      | exact LeO.none _
      | refine LeO.ite ?_ ?_
      | refine LeO.bind ?_ (fun _ => ?_)
    · intro y0 y1 y2 y3 y4
      unfold vesperslaw14_MidpointTrimmed.j1
      repeat' first
      | (with_reducible exact ih0 _ _ _ _)
      | (with_reducible exact ih1 _ _ _ _ _)
      | (with_reducible exact ih2 _ _ _ _ _ _ _ _ _)
      | (with_reducible exact ih3 _ _ _ _ _ _ _ _ _ _ _ _ _ _ _)
      | (with_reducible exact ih4 _ _ _ _ _ _ _ _)
      | (with_reducible exact vesperslaw14_alive.mono _)
      | (with_reducible exact vesperslaw14_some.mono _ _)
      | (with_reducible exact LeO.refl _)
      | (with_reducible exact LeO.none _)
      | (with_reducible refine LeO.ite ?_ ?_)
      | (with_reducible refine LeO.bind ?_ (fun _ => ?_))
      | exact ih0 _ _ _ _
      | exact ih1 _ _ _ _ _
      | exact ih2 _ _ _ _ _ _ _ _ _
      | exact ih3 _ _ _ _ _ _ _ _ _ _ _ _ _ _ _
      | exact ih4 _ _ _ _ _ _ _ _
      | exact vesperslaw14_alive.mono _
      | exact vesperslaw14_some.mono _ _
      | exact LeO.none _
      | refine LeO.ite ?_ ?_
      | refine LeO.bind ?_ (fun _ => ?_)
    · intro y0 y1 y2 y3 y4 y5 y6 y7 y8
      unfold vesperslaw14_MidpointTrimmed.l0
      repeat' first
      | (with_reducible exact ih0 _ _ _ _)
      | (with_reducible exact ih1 _ _ _ _ _)
      | (with_reducible exact ih2 _ _ _ _ _ _ _ _ _)
      | (with_reducible exact ih3 _ _ _ _ _ _ _ _ _ _ _ _ _ _ _)
      | (with_reducible exact ih4 _ _ _ _ _ _ _ _)
      | (with_reducible exact vesperslaw14_alive.mono _)
      | (with_reducible exact vesperslaw14_some.mono _ _)
      | (with_reducible exact LeO.refl _)
      | (with_reducible exact LeO.none _)
      | (with_reducible refine LeO.ite ?_ ?_)
      | (with_reducible refine LeO.bind ?_ (fun _ => ?_))
      | exact ih0 _ _ _ _
      | exact ih1 _ _ _ _ _
      | exact ih2 _ _ _ _ _ _ _ _ _
      | exact ih3 _ _ _ _ _ _ _ _ _ _ _ _ _ _ _
      | exact ih4 _ _ _ _ _ _ _ _
      | exact vesperslaw14_alive.mono _
      | exact vesperslaw14_some.mono _ _
      | exact LeO.none _
      | refine LeO.ite ?_ ?_
      | refine LeO.bind ?_ (fun _ => ?_)
    · intro y0 y1 y2 y3 y4 y5 y6 y7 y8 y9 y10 y11 y12 y13 y14
      unfold vesperslaw14_MidpointTrimmed.l1
      repeat' first
      | (with_reducible exact ih0 _ _ _ _)
      | (with_reducible exact ih1 _ _ _ _ _)
      | (with_reducible exact ih2 _ _ _ _ _ _ _ _ _)
      | (with_reducible exact ih3 _ _ _ _ _ _ _ _ _ _ _ _ _ _ _)
      | (with_reducible exact ih4 _ _ _ _ _ _ _ _)
      | (with_reducible exact vesperslaw14_alive.mono _)
      | (with_reducible exact vesperslaw14_some.mono _ _)
      | (with_reducible exact LeO.refl _)
      | (with_reducible exact LeO.none _)
      | (with_reducible refine LeO.ite ?_ ?_)
      | (with_reducible refine LeO.bind ?_ (fun _ => ?_))
      | exact ih0 _ _ _ _
      | exact ih1 _ _ _ _ _
      | exact ih2 _ _ _ _ _ _ _ _ _
      | exact ih3 _ _ _ _ _ _ _ _ _ _ _ _ _ _ _
      | exact ih4 _ _ _ _ _ _ _ _
      | exact vesperslaw14_alive.mono _
      | exact vesperslaw14_some.mono _ _
      | exact LeO.none _
      | refine LeO.ite ?_ ?_
      | refine LeO.bind ?_ (fun _ => ?_)
    · intro y0 y1 y2 y3 y4 y5 y6 y7
      unfold vesperslaw14_MidpointTrimmed.l2
      repeat' first
      | (with_reducible exact ih0 _ _ _ _)
      | (with_reducible exact ih1 _ _ _ _ _)
      | (with_reducible exact ih2 _ _ _ _ _ _ _ _ _)
      | (with_reducible exact ih3 _ _ _ _ _ _ _ _ _ _ _ _ _ _ _)
      | (with_reducible exact ih4 _ _ _ _ _ _ _ _)
      | (with_reducible exact vesperslaw14_alive.mono _)
      | (with_reducible exact vesperslaw14_some.mono _ _)
      | (with_reducible exact LeO.refl _)
      | (with_reducible exact LeO.none _)
      | (with_reducible refine LeO.ite ?_ ?_)
      | (with_reducible refine LeO.bind ?_ (fun _ => ?_))
      | exact ih0 _ _ _ _
      | exact ih1 _ _ _ _ _
      | exact ih2 _ _ _ _ _ _ _ _ _
      | exact ih3 _ _ _ _ _ _ _ _ _ _ _ _ _ _ _
      | exact ih4 _ _ _ _ _ _ _ _
      | exact vesperslaw14_alive.mono _
      | exact vesperslaw14_some.mono _ _
      | exact LeO.none _
      | refine LeO.ite ?_ ?_
      | refine LeO.bind ?_ (fun _ => ?_)
theorem vesperslaw14_MidpointTrimmed.mono : ∀ a0 a1 k, LeO (vesperslaw14_MidpointTrimmed.f k a0 a1) (vesperslaw14_MidpointTrimmed.f (k + 1) a0 a1) := by
  intro a0 a1 k
  obtain ⟨ih0, ih1, ih2, ih3, ih4⟩ := vesperslaw14_MidpointTrimmed.mono_l k
  unfold vesperslaw14_MidpointTrimmed.f
  repeat' first
      | (with_reducible exact ih0 _ _ _ _)
      | (with_reducible exact ih1 _ _ _ _ _)
      | (with_reducible exact ih2 _ _ _ _ _ _ _ _ _)
      | (with_reducible exact ih3 _ _ _ _ _ _ _ _ _ _ _ _ _ _ _)
      | (with_reducible exact ih4 _ _ _ _ _ _ _ _)
      | (with_reducible exact vesperslaw14_alive.mono _)
      | (with_reducible exact vesperslaw14_some.mono _ _)
      | (with_reducible exact LeO.refl _)
      | (with_reducible exact LeO.none _)
      | (with_reducible refine LeO.ite ?_ ?_)
      | (with_reducible refine LeO.bind ?_ (fun _ => ?_))
      | exact ih0 _ _ _ _
      | exact ih1 _ _ _ _ _
      | exact ih2 _ _ _ _ _ _ _ _ _
      | exact ih3 _ _ _ _ _ _ _ _ _ _ _ _ _ _ _
      | exact ih4 _ _ _ _ _ _ _ _
      | exact vesperslaw14_alive.mono _
      | exact vesperslaw14_some.mono _ _
      | exact LeO.none _
      | refine LeO.ite ?_ ?_
      | refine LeO.bind ?_ (fun _ => ?_)
set_option maxHeartbeats 8000000 in
set_option maxRecDepth 100000 in
theorem vesperslaw14_MidpointTrimmed.calls (k : Nat) (A0 : Option Addr) (c0 : Nat) (l0 : List Int) (a1 : Int) (r : Bool) (w : World) (hr0 : Kd.C (Kd.int .i64) w A0 l0.length l0) (hc0 : l0.length ≤ c0) (h : vesperslaw14_MidpointTrimmed.f k l0 a1 = some r) :
    Calls Try.prog 4 #[.slice A0 l0.length c0, .int .u8 a1] w fun e w' => e = .returned (.bool r) ∧ Below w.heap.size w w' := by
  have HR0 := Aside0.mk hr0
  have HC0 := Aside0.mk hc0
  clear hr0 hc0
  have HB := Aside0.mk (Below.refl w.heap.size w)
  have H : ((vesperslaw14_alive.f k).bind fun t225 => (if (l0.length : Int) = 0 then (vesperslaw14_MidpointTrimmed.j0 k l0 a1 t225 true) else (if (l0.length : Int) > 30 then (vesperslaw14_MidpointTrimmed.j0 k l0 a1 t225 true) else (vesperslaw14_MidpointTrimmed.j0 k l0 a1 t225 (!t225))))) = some r := h
  clear h
  replace H := Option.bind_eq_some_iff.mp H
  obtain ⟨t225, A30, H⟩ := H
  replace H : (if (l0.length : Int) = 0 then (vesperslaw14_MidpointTrimmed.j0 k l0 a1 t225 true) else (if (l0.length : Int) > 30 then (vesperslaw14_MidpointTrimmed.j0 k l0 a1 t225 true) else (vesperslaw14_MidpointTrimmed.j0 k l0 a1 t225 (!t225)))) = some r := H
  have A3 := Aside0.mk A30
  clear A30
  have HC4 := Aside0.mk H
  clear H
  go_enter Try.func4, Try.ntmps4
  go_upto_region 2 with (first | ((with_reducible refine gate_callee (f := 9) rfl ?_); refine goesL_ (some 19) rfl rfl Try.func9 (by kernel_rfl) rfl #[] rfl (by (try simp only [List.map_toArray, List.map_cons, List.map_nil]); first | done | rfl | (simp only [List.length_drop, List.length_take]; rfl)) ?_; (with_reducible refine (vesperslaw14_alive.calls k  t225 _ A3.out).mono ?_); rintro e w5 ⟨rfl, hb⟩; refine ⟨_, rfl, ?_⟩; have n0_ := Aside0.mk (below_step (by repeat (first | (with_reducible first | exact HB.out | apply below_alloc | apply pw_below_drewN | apply below_drew1) | exact HB.out)) hb); clear HB; have HB := n0_; clear n0_; (try clear hb); (try clear hb2); (try clear hk); (try clear hi)))
  (try simp only [Act.put, List.setIfInBounds_toArray, List.set_cons_zero, List.set_cons_succ])
  go_cut [31] (fun v31 wc => ∃ (kq : Nat) (x31_3 : Bool), v31 = .bool x31_3 ∧ Aside0 (vesperslaw14_MidpointTrimmed.j0 kq l0 a1 t225 x31_3 = some r) ∧ Aside0 (kq ≤ k) ∧ Aside0 (Below w.heap.size w wc))
  case first =>
    have H := HC4.out
    clear HC4
    by_cases c6 : (l0.length : Int) = 0
    · rw [if_pos c6] at H
      have c6b0 : ((l0.length : Int) == 0) = true := beq_iff_eq.mpr c6
      have c6b1 : ((l0.length : Int) != 0) = false := bne_eq_false_iff_eq.mpr c6
      clear c6
      (first | rw [c6b0] | (simp only [i64_w, i32_w]; rw [c6b0]) | skip)
      have H' := Aside0.mk H
      clear H
      go_wp2
      go_meet
      case rel => exact ⟨_, (true), (by first | rfl | (simp; done) | (simp [*]; done)), H', ⟨by first | omega | exact Nat.le_refl _⟩, ⟨by repeat (first | (with_reducible first | exact HB.out | apply below_alloc | apply pw_below_drewN | apply below_drew1) | exact HB.out)⟩⟩
    · rw [if_neg c6] at H
      have c6b0 : ((l0.length : Int) == 0) = false := beq_eq_false_iff_ne.mpr c6
      have c6b1 : ((l0.length : Int) != 0) = true := bne_iff_ne.mpr c6
      have c6b2 : ¬ (l0 = []) := fun h_ => c6 (by rw [h_]; rfl)
      (first | rw [c6b0] | (simp only [i64_w, i32_w]; rw [c6b0]) | skip)
      by_cases c7 : (l0.length : Int) > 30
      · rw [if_pos c7] at H
        have c7b0 : decide (30 < (l0.length : Int)) = true := decide_eq_true c7
        have c7b1 : decide (30 < l0.length) = true := decide_eq_true (by omega)
        clear c7
        have H' := Aside0.mk H
        clear H
        go_wp2
        go_meet
        case rel => exact ⟨_, (true), (by first | rfl | (simp; done) | (simp [*]; done)), H', ⟨by first | omega | exact Nat.le_refl _⟩, ⟨by repeat (first | (with_reducible first | exact HB.out | apply below_alloc | apply pw_below_drewN | apply below_drew1) | exact HB.out)⟩⟩
      · rw [if_neg c7] at H
        have c7b0 : decide (30 < (l0.length : Int)) = false := decide_eq_false c7
        have c7b1 : decide (30 < l0.length) = false := decide_eq_false (by omega)
        clear c7
        have H' := Aside0.mk H
        clear H
        go_wp2
        go_meet
        case rel => exact ⟨_, (!t225), (by first | rfl | (simp; done) | (simp [*]; done)), H', ⟨by first | omega | exact Nat.le_refl _⟩, ⟨by repeat (first | (with_reducible first | exact HB.out | apply below_alloc | apply pw_below_drewN | apply below_drew1) | exact HB.out)⟩⟩
  case rest =>
    clear HC4
    try clear p2
    try clear c4
    try clear c6
    try clear c6b0
    try clear c6b1
    try clear c6b2
    try clear c7
    try clear c7b0
    try clear c7b1
    obtain ⟨kq, x31_3, rfl, HA, HJ3, HB⟩ := hcut
    cases kq with
    | zero => exact absurd HA.out (by simp [vesperslaw14_MidpointTrimmed.j0])
    | succ kj3 =>
      have H := HA.out
      clear HA
      simp only [vesperslaw14_MidpointTrimmed.j0] at H
      by_cases c8 : x31_3 = true
      · subst c8
        have H1 : (some t225) = some r := by rw [if_pos rfl] at H; exact H
        clear H
        have H := H1
        clear H1
        obtain rfl := Option.some.inj H
        go_wp2
        go_ret
        exact ⟨by first | rfl | (simp [errW_none, errW_some] <;> rfl) | (simp [*, errW_none, errW_some] <;> rfl), by repeat (first | (with_reducible first | exact HB.out | apply below_alloc | apply pw_below_drewN | apply below_drew1) | exact HB.out)⟩
      · replace c8 := Bool.eq_false_iff.mpr c8
        subst c8
        have H1 : (if (wrap64 ((wrap64 (Int.tdiv (wrap64 ((l0.length : Int) - 1)) 2)) + 1)) = 0 then (none) else ((vesperslaw14_some.f kj3 l0).bind fun t226 => ((midpoint_Trim.f t226 (Int.tmod (wrap64 (a1)) (wrap64 ((wrap64 (Int.tdiv (wrap64 ((l0.length : Int) - 1)) 2)) + 1)))).bind fun bt229 => (if bt229.2 = 0 then (vesperslaw14_MidpointTrimmed.j1 kj3 t225 (Int.tmod (wrap64 (a1)) (wrap64 ((wrap64 (Int.tdiv (wrap64 ((l0.length : Int) - 1)) 2)) + 1))) t226 bt229.1 ((bt229.1.length : Int) != (wrap64 ((t226.length : Int) - (wrap64 (2 * (Int.tmod (wrap64 (a1)) (wrap64 ((wrap64 (Int.tdiv (wrap64 ((l0.length : Int) - 1)) 2)) + 1))))))))) else (vesperslaw14_MidpointTrimmed.j1 kj3 t225 (Int.tmod (wrap64 (a1)) (wrap64 ((wrap64 (Int.tdiv (wrap64 ((l0.length : Int) - 1)) 2)) + 1))) t226 bt229.1 true))))) = some r := by rw [if_neg (show ¬ (false = true) by decide)] at H; exact H
        clear H
        have H := H1
        clear H1
        by_cases c9 : (wrap64 ((wrap64 (Int.tdiv (wrap64 ((l0.length : Int) - 1)) 2)) + 1)) = 0
        · rw [if_pos c9] at H
          exact absurd H (by simp)
        · rw [if_neg c9] at H
          have c9b0 : ((wrap64 ((wrap64 (Int.tdiv (wrap64 ((l0.length : Int) - 1)) 2)) + 1)) == 0) = false := beq_eq_false_iff_ne.mpr c9
          have c9b1 : ((wrap64 ((wrap64 (Int.tdiv (wrap64 ((l0.length : Int) - 1)) 2)) + 1)) != 0) = true := bne_iff_ne.mpr c9
          replace H := Option.bind_eq_some_iff.mp H
          obtain ⟨t226, A100, H⟩ := H
          replace H : ((midpoint_Trim.f t226 (Int.tmod (wrap64 (a1)) (wrap64 ((wrap64 (Int.tdiv (wrap64 ((l0.length : Int) - 1)) 2)) + 1)))).bind fun bt229 => (if bt229.2 = 0 then (vesperslaw14_MidpointTrimmed.j1 kj3 t225 (Int.tmod (wrap64 (a1)) (wrap64 ((wrap64 (Int.tdiv (wrap64 ((l0.length : Int) - 1)) 2)) + 1))) t226 bt229.1 ((bt229.1.length : Int) != (wrap64 ((t226.length : Int) - (wrap64 (2 * (Int.tmod (wrap64 (a1)) (wrap64 ((wrap64 (Int.tdiv (wrap64 ((l0.length : Int) - 1)) 2)) + 1))))))))) else (vesperslaw14_MidpointTrimmed.j1 kj3 t225 (Int.tmod (wrap64 (a1)) (wrap64 ((wrap64 (Int.tdiv (wrap64 ((l0.length : Int) - 1)) 2)) + 1))) t226 bt229.1 true))) = some r := H
          have A10 := Aside0.mk A100
          clear A100
          replace H := Option.bind_eq_some_iff.mp H
          obtain ⟨⟨t229, t230⟩, A110, H⟩ := H
          replace H : (if t230 = 0 then (vesperslaw14_MidpointTrimmed.j1 kj3 t225 (Int.tmod (wrap64 (a1)) (wrap64 ((wrap64 (Int.tdiv (wrap64 ((l0.length : Int) - 1)) 2)) + 1))) t226 t229 ((t229.length : Int) != (wrap64 ((t226.length : Int) - (wrap64 (2 * (Int.tmod (wrap64 (a1)) (wrap64 ((wrap64 (Int.tdiv (wrap64 ((l0.length : Int) - 1)) 2)) + 1))))))))) else (vesperslaw14_MidpointTrimmed.j1 kj3 t225 (Int.tmod (wrap64 (a1)) (wrap64 ((wrap64 (Int.tdiv (wrap64 ((l0.length : Int) - 1)) 2)) + 1))) t226 t229 true)) = some r := H
          have A11 := Aside0.mk A110
          clear A110
          have HC12 := Aside0.mk H
          clear H
          go_upto_region 7 with (first | ((with_reducible refine gate_callee (f := 10) rfl ?_); refine goesL_ (some 42) rfl rfl Try.func10 (by kernel_rfl) rfl #[.slice A0 l0.length c0] rfl (by (try simp only [List.map_toArray, List.map_cons, List.map_nil]); first | done | rfl | (simp only [List.length_drop, List.length_take]; rfl)) ?_; (with_reducible refine (vesperslaw14_some.calls kj3 _ _ l0 t226 _ ?side1 ?side2 A10.out).mono ?_); (case side1 => repeat (first | exact (Kd.C_below HR0.out HB.out) | (with_reducible refine Kd.C_alloc ?_ _) | (with_reducible refine Kd.C_drewN ?_ _) | (with_reducible refine Kd.C_drew ?_))); (case side2 => exact HC0.out); rintro e w13 ⟨v227, rfl, ho0, hb⟩; refine ⟨_, rfl, ?_⟩; have n0_ := Aside0.mk (Kd.R_lower ho0 (below_size (by repeat (first | (with_reducible first | exact HB.out | apply below_alloc | apply pw_below_drewN | apply below_drew1) | exact HB.out)))); have n1_ := Aside0.mk (below_step (by repeat (first | (with_reducible first | exact HB.out | apply below_alloc | apply pw_below_drewN | apply below_drew1) | exact HB.out)) hb); clear HB; have HO228 := n0_; have HB := n1_; clear n0_ n1_; (try clear hb); (try clear hb2); (try clear hk); (try clear hi); (try clear ho0); obtain ⟨Ao14, co14, eo14⟩ := Kd.R_slice HO228.out; subst eo14) | ((with_reducible refine gate_callee (f := 12) rfl ?_); refine goesL_ (some 46) rfl rfl Try.func12 (by kernel_rfl) rfl #[.slice Ao14 t226.length co14, .int .i64 (Int.tmod (wrap64 (a1)) (wrap64 ((wrap64 (Int.tdiv (wrap64 ((l0.length : Int) - 1)) 2)) + 1)))] rfl (by (try simp only [List.map_toArray, List.map_cons, List.map_nil]); first | done | rfl | (simp only [List.length_drop, List.length_take]; rfl)) ?_; (with_reducible refine (midpoint_Trim.calls _ _ t226 (Int.tmod (wrap64 (a1)) (wrap64 ((wrap64 (Int.tdiv (wrap64 ((l0.length : Int) - 1)) 2)) + 1))) t229 t230 _ ?side1 ?side2 A11.out).mono ?_); (case side1 => repeat (first | exact (Kd.R_reads' HO228.out).2.2 | (with_reducible refine Kd.C_alloc ?_ _) | (with_reducible refine Kd.C_drewN ?_ _) | (with_reducible refine Kd.C_drew ?_))); (case side2 => exact (Kd.R_reads' HO228.out).2.1); rintro e w15 ⟨v231, rfl, ho0, hb⟩; refine ⟨_, rfl, ?_⟩; have n0_ := Aside0.mk (Kd.R_elder' (by (with_reducible repeat (first | apply Kd.R_alloc | apply Kd.R_drewN | apply Kd.R_drew)); exact HO228.out) (Kd.R_base ho0) hb); have n1_ := Aside0.mk (Kd.R_lower (Kd.R_new' ho0 (Kd.R_lt (by (with_reducible repeat (first | apply Kd.R_alloc | apply Kd.R_drewN | apply Kd.R_drew)); exact HO228.out))) (below_size (by repeat (first | (with_reducible first | exact HB.out | apply below_alloc | apply pw_below_drewN | apply below_drew1) | exact HB.out)))); have n2_ := Aside0.mk (below_step (by repeat (first | (with_reducible first | exact HB.out | apply below_alloc | apply pw_below_drewN | apply below_drew1) | exact HB.out)) hb); clear HO228; clear HB; have HO228 := n0_; have HO232 := n1_; have HB := n2_; clear n0_ n1_ n2_; (try clear hb); (try clear hb2); (try clear hk); (try clear hi); (try clear ho0)))
          (try simp only [Act.put, List.setIfInBounds_toArray, List.set_cons_zero, List.set_cons_succ])
          go_cut [60] (fun v60 wc => ∃ (kq : Nat) (x60_11 : Bool), v60 = .bool x60_11 ∧ Aside0 (vesperslaw14_MidpointTrimmed.j1 kq t225 (Int.tmod (wrap64 (a1)) (wrap64 ((wrap64 (Int.tdiv (wrap64 ((l0.length : Int) - 1)) 2)) + 1))) t226 t229 x60_11 = some r) ∧ Aside0 (kq ≤ kj3) ∧ Aside0 (Kd.R (Kd.int .i64) 2 wc w.heap.size (fun k_ => some k_ ≠ (v231 : Value).ownBlock) (.slice Ao14 t226.length co14) t226) ∧ Aside0 (Kd.R (Kd.int .i64) 2 wc w.heap.size (fun k_ => some k_ ≠ ((.slice Ao14 t226.length co14) : Value).ownBlock) v231 t229) ∧ Aside0 (Below w.heap.size w wc))
          case first =>
            have H := HC12.out
            clear HC12
            by_cases c16 : t230 = 0
            · rw [if_pos c16] at H
              have c16b0 : (t230 == 0) = true := beq_iff_eq.mpr c16
              have c16b1 : (t230 != 0) = false := bne_eq_false_iff_eq.mpr c16
              clear c16
              (first | rw [c16b0] | (simp only [i64_w, i32_w]; rw [c16b0]) | skip)
              have H' := Aside0.mk H
              clear H
              obtain ⟨Ao17, co17, eo17⟩ := Kd.R_slice HO232.out
              subst eo17
              go_wp2
              go_meet
              case rel => exact ⟨_, (((t229.length : Int) != (wrap64 ((t226.length : Int) - (wrap64 (2 * (Int.tmod (wrap64 (a1)) (wrap64 ((wrap64 (Int.tdiv (wrap64 ((l0.length : Int) - 1)) 2)) + 1))))))))), (by first | rfl | (simp; done) | (simp [*]; done)), H', ⟨by have := HJ3.out; first | omega | exact Nat.le_refl _⟩, ⟨by (with_reducible repeat (first | apply Kd.R_alloc | apply Kd.R_drewN | apply Kd.R_drew)); exact Kd.R_mono HO228.out (fun _ hk => hk.2)⟩, ⟨by (with_reducible repeat (first | apply Kd.R_alloc | apply Kd.R_drewN | apply Kd.R_drew)); exact Kd.R_mono HO232.out (fun _ hk => hk.2)⟩, ⟨by repeat (first | (with_reducible first | exact HB.out | apply below_alloc | apply pw_below_drewN | apply below_drew1) | exact HB.out)⟩⟩
            · rw [if_neg c16] at H
              have c16b0 : (t230 == 0) = false := beq_eq_false_iff_ne.mpr c16
              have c16b1 : (t230 != 0) = true := bne_iff_ne.mpr c16
              (first | rw [c16b0] | (simp only [i64_w, i32_w]; rw [c16b0]) | skip)
              have H' := Aside0.mk H
              clear H
              go_wp2
              go_meet
              case rel => exact ⟨_, (true), (by first | rfl | (simp; done) | (simp [*]; done)), H', ⟨by have := HJ3.out; first | omega | exact Nat.le_refl _⟩, ⟨by (with_reducible repeat (first | apply Kd.R_alloc | apply Kd.R_drewN | apply Kd.R_drew)); exact Kd.R_mono HO228.out (fun _ hk => hk.2)⟩, ⟨by (with_reducible repeat (first | apply Kd.R_alloc | apply Kd.R_drewN | apply Kd.R_drew)); exact Kd.R_mono HO232.out (fun _ hk => hk.2)⟩, ⟨by repeat (first | (with_reducible first | exact HB.out | apply below_alloc | apply pw_below_drewN | apply below_drew1) | exact HB.out)⟩⟩
          case rest =>
            clear HC12
            try clear c1
            try clear p2
            try clear c4
            try clear c6
            try clear c6b0
            try clear c6b1
            try clear c6b2
            try clear p6
            try clear c7
            try clear c7b0
            try clear c7b1
            try clear c8
            try clear c9
            try clear c9b0
            try clear c9b1
            try clear c10
            try clear c12
            try clear c16
            try clear c16b0
            try clear c16b1
            try clear p2
            obtain ⟨kq, x60_11, rfl, HA, HJ11, HO_7, HO_8, HB⟩ := hcut
            cases kq with
            | zero => exact absurd HA.out (by simp [vesperslaw14_MidpointTrimmed.j1])
            | succ kj11 =>
              have H := HA.out
              clear HA
              simp only [vesperslaw14_MidpointTrimmed.j1] at H
              by_cases c18 : x60_11 = true
              · subst c18
                have H1 : (none) = some r := by rw [if_pos rfl] at H; exact H
                clear H
                have H := H1
                clear H1
                exact absurd H (by simp)
              · replace c18 := Bool.eq_false_iff.mpr c18
                subst c18
                have H1 : (vesperslaw14_MidpointTrimmed.l0 kj11 t225 (Int.tmod (wrap64 (a1)) (wrap64 ((wrap64 (Int.tdiv (wrap64 ((l0.length : Int) - 1)) 2)) + 1))) t226 t229 0 0 t229 (t229.length : Int) 0) = some r := by rw [if_neg (show ¬ (false = true) by decide)] at H; exact H
                clear H
                have H := H1
                clear H1
                have H' := Aside0.mk H
                clear H
                obtain ⟨Ao19, co19, eo19⟩ := Kd.R_slice HO_8.out
                subst eo19
                go_wp2
                go_loopg [63] kj11 (fun kq v63 w' => ∃ (x63_3 : Int), v63 = .int .i64 x63_3 ∧ Aside0 (vesperslaw14_MidpointTrimmed.l0 kq t225 (Int.tmod (wrap64 (a1)) (wrap64 ((wrap64 (Int.tdiv (wrap64 ((l0.length : Int) - 1)) 2)) + 1))) t226 t229 0 0 t229 (t229.length : Int) x63_3 = some r) ∧ Aside0 (kq ≤ kj11) ∧ Aside0 (Kd.R (Kd.int .i64) 2 w' w.heap.size (fun k_ => some k_ ≠ ((.slice Ao19 t229.length co19) : Value).ownBlock ∧ some k_ ≠ ((.slice Ao19 t229.length co19) : Value).ownBlock) (.slice Ao14 t226.length co14) t226) ∧ Aside0 (Kd.R (Kd.int .i64) 2 w' w.heap.size (fun k_ => some k_ ≠ ((.slice Ao14 t226.length co14) : Value).ownBlock) (.slice Ao19 t229.length co19) t229) ∧ Aside0 (Kd.R (Kd.int .i64) 2 w' w.heap.size (fun k_ => some k_ ≠ ((.slice Ao14 t226.length co14) : Value).ownBlock) (.slice Ao19 t229.length co19) t229) ∧ Aside0 (Below w.heap.size w w'))
                case atStart => exact ⟨(0), (by first | rfl | (simp; done) | (simp [*]; done)), H', ⟨Nat.le_refl _⟩, ⟨by (with_reducible repeat (first | apply Kd.R_alloc | apply Kd.R_drewN | apply Kd.R_drew)); exact Kd.R_mono HO_7.out (fun _ hk => ⟨hk, hk⟩)⟩, ⟨by (with_reducible repeat (first | apply Kd.R_alloc | apply Kd.R_drewN | apply Kd.R_drew)); exact HO_8.out⟩, ⟨by (with_reducible repeat (first | apply Kd.R_alloc | apply Kd.R_drewN | apply Kd.R_drew)); exact HO_8.out⟩, ⟨by repeat (first | (with_reducible first | exact HB.out | apply below_alloc | apply pw_below_drewN | apply below_drew1) | exact HB.out)⟩⟩
                case round =>
                  clear H'
                  try clear c1
                  try clear p2
                  try clear c4
                  try clear c6
                  try clear c6b0
                  try clear c6b1
                  try clear c6b2
                  try clear p6
                  try clear c7
                  try clear c7b0
                  try clear c7b1
                  try clear c8
                  try clear c9
                  try clear c9b0
                  try clear c9b1
                  try clear c10
                  try clear c12
                  try clear c16
                  try clear c16b0
                  try clear c16b1
                  try clear c18
                  try clear p2
                  try clear p6
                  obtain ⟨x63_3, rfl, HA, HK3, HO_7, HO_8, HO_61, HB⟩ := hrel
                  cases gk with
                  | zero => exact absurd HA.out (by simp [vesperslaw14_MidpointTrimmed.l0])
                  | succ k3 =>
                    have H := HA.out
                    clear HA
                    simp only [vesperslaw14_MidpointTrimmed.l0] at H
                    by_cases c20 : x63_3 < (t229.length : Int)
                    · rw [if_pos c20] at H
                      have c20b0 : decide (x63_3 < (t229.length : Int)) = true := decide_eq_true c20
                      clear c20
                      by_cases c21 : 0 ≤ x63_3
                      · rw [if_pos c21] at H
                        have c21b0 : decide (0 ≤ x63_3) = true := decide_eq_true c21
                        clear c21
                        by_cases c22 : x63_3 < (t229.length : Int)
                        · rw [if_pos c22] at H
                          have c22b0 : decide (x63_3 < (t229.length : Int)) = true := decide_eq_true c22
                          clear c22
                          have H' := Aside0.mk H
                          clear H
                          have p233 : 0 ≤ (x63_3 : Int) := of_decide_eq_true (by first | (with_reducible assumption) | assumption)
                          have q233 : x63_3 < (t229.length : Int) := of_decide_eq_true (by first | (with_reducible assumption) | assumption)
                          obtain ⟨ad233, e233, hx233_0⟩ := Kd.at_int (Kd.R_reads' HO_61.out).2.2 x63_3 p233 q233
                          cases e233
                          replace p233 := eq_true p233
                          replace q233 := eq_true q233
                          go_wp2
                          go_loopg [14, 70] k3 (fun kq v14 v70 w' => ∃ (x14_4 : Bool) (x70_4 : Int), v14 = .bool x14_4 ∧ v70 = .int .i64 x70_4 ∧ Aside0 (vesperslaw14_MidpointTrimmed.l1 kq t225 (Int.tmod (wrap64 (a1)) (wrap64 ((wrap64 (Int.tdiv (wrap64 ((l0.length : Int) - 1)) 2)) + 1))) t226 t229 0 0 x63_3 (rd t229 x63_3) x14_4 t229 (t229.length : Int) x63_3 t226 (t226.length : Int) x70_4 = some r) ∧ Aside0 (kq ≤ k3) ∧ Aside0 (Kd.R (Kd.int .i64) 2 w' w.heap.size (fun k_ => some k_ ≠ ((.slice (some ad233) t229.length co19) : Value).ownBlock ∧ some k_ ≠ ((.slice (some ad233) t229.length co19) : Value).ownBlock) (.slice Ao14 t226.length co14) t226) ∧ Aside0 (Kd.R (Kd.int .i64) 2 w' w.heap.size (fun k_ => some k_ ≠ ((.slice Ao14 t226.length co14) : Value).ownBlock ∧ some k_ ≠ ((.slice Ao14 t226.length co14) : Value).ownBlock) (.slice (some ad233) t229.length co19) t229) ∧ Aside0 (Kd.R (Kd.int .i64) 2 w' w.heap.size (fun k_ => some k_ ≠ ((.slice Ao14 t226.length co14) : Value).ownBlock ∧ some k_ ≠ ((.slice Ao14 t226.length co14) : Value).ownBlock) (.slice (some ad233) t229.length co19) t229) ∧ Aside0 (Kd.R (Kd.int .i64) 2 w' w.heap.size (fun k_ => some k_ ≠ ((.slice (some ad233) t229.length co19) : Value).ownBlock ∧ some k_ ≠ ((.slice (some ad233) t229.length co19) : Value).ownBlock) (.slice Ao14 t226.length co14) t226) ∧ Aside0 (Below w.heap.size w w'))
                          case atStart => exact ⟨(false), (0), (by first | rfl | (simp; done) | (simp [*]; done)), (by first | rfl | (simp; done) | (simp [*]; done)), H', ⟨Nat.le_refl _⟩, ⟨by (with_reducible repeat (first | apply Kd.R_alloc | apply Kd.R_drewN | apply Kd.R_drew)); exact HO_7.out⟩, ⟨by (with_reducible repeat (first | apply Kd.R_alloc | apply Kd.R_drewN | apply Kd.R_drew)); exact Kd.R_mono HO_8.out (fun _ hk => ⟨hk, hk⟩)⟩, ⟨by (with_reducible repeat (first | apply Kd.R_alloc | apply Kd.R_drewN | apply Kd.R_drew)); exact Kd.R_mono HO_61.out (fun _ hk => ⟨hk, hk⟩)⟩, ⟨by (with_reducible repeat (first | apply Kd.R_alloc | apply Kd.R_drewN | apply Kd.R_drew)); exact HO_7.out⟩, ⟨by repeat (first | (with_reducible first | exact HB.out | apply below_alloc | apply pw_below_drewN | apply below_drew1) | exact HB.out)⟩⟩
                          case round =>
                            clear H'
                            try clear c1
                            try clear c2
                            try clear p2
                            try clear q2
                            try clear hx2
                            try clear c4
                            try clear c6
                            try clear c6b0
                            try clear c6b1
                            try clear c6b2
                            try clear p6
                            try clear c7
                            try clear c7b0
                            try clear c7b1
                            try clear c8
                            try clear c9
                            try clear c9b0
                            try clear c9b1
                            try clear c10
                            try clear c12
                            try clear c16
                            try clear c16b0
                            try clear c16b1
                            try clear c18
                            try clear c20
                            try clear c20b0
                            try clear c21
                            try clear c21b0
                            try clear c22
                            try clear c22b0
                            try clear hx233_0
                            try clear p2
                            try clear p233
                            try clear p6
                            try clear q233
                            obtain ⟨x14_4, x70_4, rfl, rfl, HA, HK4, HO_7, HO_8, HO_61, HO_68, HB⟩ := hrel
                            cases gk with
                            | zero => exact absurd HA.out (by simp [vesperslaw14_MidpointTrimmed.l1])
                            | succ k4 =>
                              have H := HA.out
                              clear HA
                              simp only [vesperslaw14_MidpointTrimmed.l1] at H
                              by_cases c23 : x70_4 < (t226.length : Int)
                              · rw [if_pos c23] at H
                                have c23b0 : decide (x70_4 < (t226.length : Int)) = true := decide_eq_true c23
                                clear c23
                                by_cases c24 : 0 ≤ x70_4
                                · rw [if_pos c24] at H
                                  have c24b0 : decide (0 ≤ x70_4) = true := decide_eq_true c24
                                  clear c24
                                  by_cases c25 : x70_4 < (t226.length : Int)
                                  · rw [if_pos c25] at H
                                    have c25b0 : decide (x70_4 < (t226.length : Int)) = true := decide_eq_true c25
                                    clear c25
                                    by_cases c26 : x14_4 = true
                                    · subst c26
                                      have H1 : (vesperslaw14_MidpointTrimmed.l1 k4 t225 (Int.tmod (wrap64 (a1)) (wrap64 ((wrap64 (Int.tdiv (wrap64 ((l0.length : Int) - 1)) 2)) + 1))) t226 t229 0 0 x63_3 (rd t229 x63_3) true t229 (t229.length : Int) x63_3 t226 (t226.length : Int) (wrap64 (x70_4 + 1))) = some r := by rw [if_pos rfl] at H; exact H
                                      clear H
                                      have H := H1
                                      clear H1
                                      have H' := Aside0.mk H
                                      clear H
                                      have p234 : 0 ≤ (x70_4 : Int) := of_decide_eq_true (by first | (with_reducible assumption) | assumption)
                                      have q234 : x70_4 < (t226.length : Int) := of_decide_eq_true (by first | (with_reducible assumption) | assumption)
                                      obtain ⟨ad234, e234, hx234_0⟩ := Kd.at_int (Kd.R_reads' HO_68.out).2.2 x70_4 p234 q234
                                      cases e234
                                      replace p234 := eq_true p234
                                      replace q234 := eq_true q234
                                      go_wp2
                                      go_roundg k4
                                      case measure => have := HJ3.out; have := HJ11.out; have := HK3.out; have := HK4.out; omega
                                      case rel => exact ⟨(true), (wrap64 (x70_4 + 1)), (by first | rfl | (simp; done) | (simp [*]; done)), (by first | rfl | (simp; done) | (simp [*]; done)), H', ⟨by have := HJ3.out; have := HJ11.out; have := HK3.out; have := HK4.out; omega⟩, ⟨by (with_reducible repeat (first | apply Kd.R_alloc | apply Kd.R_drewN | apply Kd.R_drew)); exact HO_7.out⟩, ⟨by (with_reducible repeat (first | apply Kd.R_alloc | apply Kd.R_drewN | apply Kd.R_drew)); exact HO_8.out⟩, ⟨by (with_reducible repeat (first | apply Kd.R_alloc | apply Kd.R_drewN | apply Kd.R_drew)); exact HO_61.out⟩, ⟨by (with_reducible repeat (first | apply Kd.R_alloc | apply Kd.R_drewN | apply Kd.R_drew)); exact HO_68.out⟩, ⟨by repeat (first | (with_reducible first | exact HB.out | apply below_alloc | apply pw_below_drewN | apply below_drew1) | exact HB.out)⟩⟩
                                    · replace c26 := Bool.eq_false_iff.mpr c26
                                      subst c26
                                      have H1 : (vesperslaw14_MidpointTrimmed.l1 k4 t225 (Int.tmod (wrap64 (a1)) (wrap64 ((wrap64 (Int.tdiv (wrap64 ((l0.length : Int) - 1)) 2)) + 1))) t226 t229 0 0 x63_3 (rd t229 x63_3) ((rd t229 x63_3) == (rd t226 x70_4)) t229 (t229.length : Int) x63_3 t226 (t226.length : Int) (wrap64 (x70_4 + 1))) = some r := by rw [if_neg (show ¬ (false = true) by decide)] at H; exact H
                                      clear H
                                      have H := H1
                                      clear H1
                                      have H' := Aside0.mk H
                                      clear H
                                      have p234 : 0 ≤ (x70_4 : Int) := of_decide_eq_true (by first | (with_reducible assumption) | assumption)
                                      have q234 : x70_4 < (t226.length : Int) := of_decide_eq_true (by first | (with_reducible assumption) | assumption)
                                      obtain ⟨ad234, e234, hx234_0⟩ := Kd.at_int (Kd.R_reads' HO_68.out).2.2 x70_4 p234 q234
                                      cases e234
                                      replace p234 := eq_true p234
                                      replace q234 := eq_true q234
                                      go_wp2
                                      go_roundg k4
                                      case measure => have := HJ3.out; have := HJ11.out; have := HK3.out; have := HK4.out; omega
                                      case rel => exact ⟨(((rd t229 x63_3) == (rd t226 x70_4))), (wrap64 (x70_4 + 1)), (by first | rfl | (simp; done) | (simp [*]; done)), (by first | rfl | (simp; done) | (simp [*]; done)), H', ⟨by have := HJ3.out; have := HJ11.out; have := HK3.out; have := HK4.out; omega⟩, ⟨by (with_reducible repeat (first | apply Kd.R_alloc | apply Kd.R_drewN | apply Kd.R_drew)); exact HO_7.out⟩, ⟨by (with_reducible repeat (first | apply Kd.R_alloc | apply Kd.R_drewN | apply Kd.R_drew)); exact HO_8.out⟩, ⟨by (with_reducible repeat (first | apply Kd.R_alloc | apply Kd.R_drewN | apply Kd.R_drew)); exact HO_61.out⟩, ⟨by (with_reducible repeat (first | apply Kd.R_alloc | apply Kd.R_drewN | apply Kd.R_drew)); exact HO_68.out⟩, ⟨by repeat (first | (with_reducible first | exact HB.out | apply below_alloc | apply pw_below_drewN | apply below_drew1) | exact HB.out)⟩⟩
                                  · rw [if_neg c25] at H
                                    exact absurd H (by simp)
                                · rw [if_neg c24] at H
                                  exact absurd H (by simp)
                              · rw [if_neg c23] at H
                                have c23b0 : decide (x70_4 < (t226.length : Int)) = false := decide_eq_false c23
                                clear c23
                                by_cases c27 : x14_4 = true
                                · subst c27
                                  have H1 : (if x63_3 > 0 then (if 0 ≤ (wrap64 (x63_3 - 1)) then (if (wrap64 (x63_3 - 1)) < (t229.length : Int) then (if (rd t229 (wrap64 (x63_3 - 1))) > (rd t229 x63_3) then (none) else (vesperslaw14_MidpointTrimmed.l0 k4 t225 (Int.tmod (wrap64 (a1)) (wrap64 ((wrap64 (Int.tdiv (wrap64 ((l0.length : Int) - 1)) 2)) + 1))) t226 t229 0 0 t229 (t229.length : Int) (wrap64 (x63_3 + 1)))) else (none)) else (none)) else (vesperslaw14_MidpointTrimmed.l0 k4 t225 (Int.tmod (wrap64 (a1)) (wrap64 ((wrap64 (Int.tdiv (wrap64 ((l0.length : Int) - 1)) 2)) + 1))) t226 t229 0 0 t229 (t229.length : Int) (wrap64 (x63_3 + 1)))) = some r := by rw [if_pos rfl] at H; exact H
                                  clear H
                                  have H := H1
                                  clear H1
                                  by_cases c28 : x63_3 > 0
                                  · rw [if_pos c28] at H
                                    have c28b0 : decide (0 < x63_3) = true := decide_eq_true c28
                                    clear c28
                                    obtain ⟨ji29, hji29⟩ : ∃ j_ : Int, (wrap64 (x63_3 - 1)) = j_ := ⟨_, rfl⟩
                                    replace H : (if 0 ≤ (ji29) then (if (ji29) < (t229.length : Int) then (if (rd t229 (ji29)) > (rd t229 x63_3) then (none) else (vesperslaw14_MidpointTrimmed.l0 k4 t225 (Int.tmod (wrap64 (a1)) (wrap64 ((wrap64 (Int.tdiv (wrap64 ((l0.length : Int) - 1)) 2)) + 1))) t226 t229 0 0 t229 (t229.length : Int) (wrap64 (x63_3 + 1)))) else (none)) else (none)) = some r := by first | (rw [hji29] at H; exact H) | (simp only [hji29] at H ⊢; exact H)
                                    have hji29w : (IntKind.i64.wrap (x63_3 - 1)) = ji29 := (i64_w _).trans hji29
                                    by_cases c30 : 0 ≤ (ji29)
                                    · rw [if_pos c30] at H
                                      have c30b0 : decide (0 ≤ (ji29)) = true := decide_eq_true c30
                                      clear c30
                                      by_cases c31 : (ji29) < (t229.length : Int)
                                      · rw [if_pos c31] at H
                                        have c31b0 : decide ((ji29) < (t229.length : Int)) = true := decide_eq_true c31
                                        clear c31
                                        by_cases c32 : (rd t229 (ji29)) > (rd t229 x63_3)
                                        · rw [if_pos c32] at H
                                          exact absurd H (by simp)
                                        · rw [if_neg c32] at H
                                          have c32b0 : decide ((rd t229 x63_3) < (rd t229 (ji29))) = false := decide_eq_false c32
                                          clear c32
                                          have H' := Aside0.mk H
                                          clear H
                                          have p235 : 0 ≤ ((ji29) : Int) := of_decide_eq_true (by first | (with_reducible assumption) | assumption)
                                          have q235 : (ji29) < (t229.length : Int) := of_decide_eq_true (by first | (with_reducible assumption) | assumption)
                                          obtain ⟨ad235, e235, hx235_0⟩ := Kd.at_int (Kd.R_reads' HO_8.out).2.2 (ji29) p235 q235
                                          obtain rfl : ad233 = ad235 := (by injection e235)
                                          replace p235 := eq_true p235
                                          replace q235 := eq_true q235
                                          go_wp2
                                          go_roundg k4
                                          case measure => have := HJ3.out; have := HJ11.out; have := HK3.out; have := HK4.out; omega
                                          case rel => exact ⟨(wrap64 (x63_3 + 1)), (by first | rfl | (simp; done) | (simp [*]; done)), H', ⟨by have := HJ3.out; have := HJ11.out; have := HK3.out; have := HK4.out; omega⟩, ⟨by (with_reducible repeat (first | apply Kd.R_alloc | apply Kd.R_drewN | apply Kd.R_drew)); exact HO_7.out⟩, ⟨by (with_reducible repeat (first | apply Kd.R_alloc | apply Kd.R_drewN | apply Kd.R_drew)); exact Kd.R_mono HO_8.out (fun _ hk => hk.1)⟩, ⟨by (with_reducible repeat (first | apply Kd.R_alloc | apply Kd.R_drewN | apply Kd.R_drew)); exact Kd.R_mono HO_61.out (fun _ hk => hk.1)⟩, ⟨by repeat (first | (with_reducible first | exact HB.out | apply below_alloc | apply pw_below_drewN | apply below_drew1) | exact HB.out)⟩⟩
                                      · rw [if_neg c31] at H
                                        exact absurd H (by simp)
                                    · rw [if_neg c30] at H
                                      exact absurd H (by simp)
                                  · rw [if_neg c28] at H
                                    have c28b0 : decide (0 < x63_3) = false := decide_eq_false c28
                                    clear c28
                                    have H' := Aside0.mk H
                                    clear H
                                    go_wp2
                                    go_roundg k4
                                    case measure => have := HJ3.out; have := HJ11.out; have := HK3.out; have := HK4.out; omega
                                    case rel => exact ⟨(wrap64 (x63_3 + 1)), (by first | rfl | (simp; done) | (simp [*]; done)), H', ⟨by have := HJ3.out; have := HJ11.out; have := HK3.out; have := HK4.out; omega⟩, ⟨by (with_reducible repeat (first | apply Kd.R_alloc | apply Kd.R_drewN | apply Kd.R_drew)); exact HO_7.out⟩, ⟨by (with_reducible repeat (first | apply Kd.R_alloc | apply Kd.R_drewN | apply Kd.R_drew)); exact Kd.R_mono HO_8.out (fun _ hk => hk.1)⟩, ⟨by (with_reducible repeat (first | apply Kd.R_alloc | apply Kd.R_drewN | apply Kd.R_drew)); exact Kd.R_mono HO_61.out (fun _ hk => hk.1)⟩, ⟨by repeat (first | (with_reducible first | exact HB.out | apply below_alloc | apply pw_below_drewN | apply below_drew1) | exact HB.out)⟩⟩
                                · replace c27 := Bool.eq_false_iff.mpr c27
                                  subst c27
                                  have H1 : (none) = some r := by rw [if_neg (show ¬ (false = true) by decide)] at H; exact H
                                  clear H
                                  have H := H1
                                  clear H1
                                  exact absurd H (by simp)
                        · rw [if_neg c22] at H
                          exact absurd H (by simp)
                      · rw [if_neg c21] at H
                        exact absurd H (by simp)
                    · rw [if_neg c20] at H
                      have c20b0 : decide (x63_3 < (t229.length : Int)) = false := decide_eq_false c20
                      clear c20
                      have H' := Aside0.mk H
                      clear H
                      go_wp2
                      go_loopg [10, 11, 99] k3 (fun kq v10 v11 v99 w' => ∃ (x10_4 : Int) (x11_4 : Int) (x99_4 : Int), v10 = .int .i64 x10_4 ∧ v11 = .int .i64 x11_4 ∧ v99 = .int .i64 x99_4 ∧ Aside0 (vesperslaw14_MidpointTrimmed.l2 kq t225 (Int.tmod (wrap64 (a1)) (wrap64 ((wrap64 (Int.tdiv (wrap64 ((l0.length : Int) - 1)) 2)) + 1))) t229 x10_4 x11_4 t226 (t226.length : Int) x99_4 = some r) ∧ Aside0 (kq ≤ k3) ∧ Aside0 (Kd.R (Kd.int .i64) 2 w' w.heap.size (fun k_ => some k_ ≠ ((.slice Ao14 t226.length co14) : Value).ownBlock) (.slice Ao19 t229.length co19) t229) ∧ Aside0 (Kd.R (Kd.int .i64) 2 w' w.heap.size (fun k_ => some k_ ≠ ((.slice Ao19 t229.length co19) : Value).ownBlock) (.slice Ao14 t226.length co14) t226) ∧ Aside0 (Below w.heap.size w w'))
                      case atStart => exact ⟨(0), (0), (0), (by first | rfl | (simp; done) | (simp [*]; done)), (by first | rfl | (simp; done) | (simp [*]; done)), (by first | rfl | (simp; done) | (simp [*]; done)), H', ⟨Nat.le_refl _⟩, ⟨by (with_reducible repeat (first | apply Kd.R_alloc | apply Kd.R_drewN | apply Kd.R_drew)); exact HO_8.out⟩, ⟨by (with_reducible repeat (first | apply Kd.R_alloc | apply Kd.R_drewN | apply Kd.R_drew)); exact Kd.R_mono HO_7.out (fun _ hk => hk.1)⟩, ⟨by repeat (first | (with_reducible first | exact HB.out | apply below_alloc | apply pw_below_drewN | apply below_drew1) | exact HB.out)⟩⟩
                      case round =>
                        clear H'
                        try clear c1
                        try clear c2
                        try clear p2
                        try clear q2
                        try clear hx2
                        try clear c3
                        try clear c4
                        try clear c6
                        try clear c6b0
                        try clear c6b1
                        try clear c6b2
                        try clear p6
                        try clear c7
                        try clear c7b0
                        try clear c7b1
                        try clear c8
                        try clear c9
                        try clear c9b0
                        try clear c9b1
                        try clear c10
                        try clear c12
                        try clear c16
                        try clear c16b0
                        try clear c16b1
                        try clear c18
                        try clear c20
                        try clear c20b0
                        try clear c21
                        try clear c21b0
                        try clear c22
                        try clear c22b0
                        try clear c23
                        try clear c23b0
                        try clear p23
                        try clear q23
                        try clear hx23
                        try clear c24
                        try clear c24b0
                        try clear c25
                        try clear c25b0
                        try clear c26
                        try clear c27
                        try clear c28
                        try clear c28b0
                        try clear c30
                        try clear c30b0
                        try clear c31
                        try clear c31b0
                        try clear c32
                        try clear c32b0
                        try clear hx233_0
                        try clear hx234_0
                        try clear hx235_0
                        try clear p2
                        try clear p233
                        try clear p234
                        try clear p235
                        try clear p6
                        try clear q2
                        try clear q233
                        try clear q234
                        try clear q235
                        obtain ⟨x10_4, x11_4, x99_4, rfl, rfl, rfl, HA, HK4, HO_8, HO_97, HB⟩ := hrel
                        cases gk with
                        | zero => exact absurd HA.out (by simp [vesperslaw14_MidpointTrimmed.l2])
                        | succ k4 =>
                          have H := HA.out
                          clear HA
                          simp only [vesperslaw14_MidpointTrimmed.l2] at H
                          by_cases c33 : x99_4 < (t226.length : Int)
                          · rw [if_pos c33] at H
                            have c33b0 : decide (x99_4 < (t226.length : Int)) = true := decide_eq_true c33
                            clear c33
                            by_cases c34 : 0 ≤ x99_4
                            · rw [if_pos c34] at H
                              have c34b0 : decide (0 ≤ x99_4) = true := decide_eq_true c34
                              clear c34
                              by_cases c35 : x99_4 < (t226.length : Int)
                              · rw [if_pos c35] at H
                                have c35b0 : decide (x99_4 < (t226.length : Int)) = true := decide_eq_true c35
                                clear c35
                                by_cases c36 : 0 < (t229.length : Int)
                                · rw [if_pos c36] at H
                                  have c36b0 : decide (0 < (t229.length : Int)) = true := decide_eq_true c36
                                  have c36b1 : decide (0 < t229.length) = true := decide_eq_true (by omega)
                                  clear c36
                                  by_cases c37 : (rd t226 x99_4) ≤ (rd t229 0)
                                  · rw [if_pos c37] at H
                                    have c37b0 : decide ((rd t226 x99_4) ≤ (rd t229 0)) = true := decide_eq_true c37
                                    clear c37
                                    obtain ⟨ji38, hji38⟩ : ∃ j_ : Int, (wrap64 ((t229.length : Int) - 1)) = j_ := ⟨_, rfl⟩
                                    replace H : (if 0 ≤ (ji38) then (if (ji38) < (t229.length : Int) then (if (rd t226 x99_4) ≥ (rd t229 (ji38)) then (vesperslaw14_MidpointTrimmed.l2 k4 t225 (Int.tmod (wrap64 (a1)) (wrap64 ((wrap64 (Int.tdiv (wrap64 ((l0.length : Int) - 1)) 2)) + 1))) t229 (wrap64 (x10_4 + 1)) (wrap64 (x11_4 + 1)) t226 (t226.length : Int) (wrap64 (x99_4 + 1))) else (vesperslaw14_MidpointTrimmed.l2 k4 t225 (Int.tmod (wrap64 (a1)) (wrap64 ((wrap64 (Int.tdiv (wrap64 ((l0.length : Int) - 1)) 2)) + 1))) t229 (wrap64 (x10_4 + 1)) x11_4 t226 (t226.length : Int) (wrap64 (x99_4 + 1)))) else (none)) else (none)) = some r := by first | (rw [hji38] at H; exact H) | (simp only [hji38] at H ⊢; exact H)
                                    have hji38w : (IntKind.i64.wrap ((t229.length : Int) - 1)) = ji38 := (i64_w _).trans hji38
                                    by_cases c39 : 0 ≤ (ji38)
                                    · rw [if_pos c39] at H
                                      have c39b0 : decide (0 ≤ (ji38)) = true := decide_eq_true c39
                                      clear c39
                                      by_cases c40 : (ji38) < (t229.length : Int)
                                      · rw [if_pos c40] at H
                                        have c40b0 : decide ((ji38) < (t229.length : Int)) = true := decide_eq_true c40
                                        clear c40
                                        by_cases c41 : (rd t226 x99_4) ≥ (rd t229 (ji38))
                                        · rw [if_pos c41] at H
                                          have c41b0 : decide ((rd t229 (ji38)) ≤ (rd t226 x99_4)) = true := decide_eq_true c41
                                          clear c41
                                          have H' := Aside0.mk H
                                          clear H
                                          have p236 : 0 ≤ (x99_4 : Int) := of_decide_eq_true (by first | (with_reducible assumption) | assumption)
                                          have q236 : x99_4 < (t226.length : Int) := of_decide_eq_true (by first | (with_reducible assumption) | assumption)
                                          obtain ⟨ad236, e236, hx236_0⟩ := Kd.at_int (Kd.R_reads' HO_97.out).2.2 x99_4 p236 q236
                                          cases e236
                                          replace p236 := eq_true p236
                                          replace q236 := eq_true q236
                                          have p237 : 0 ≤ (0 : Int) := (by omega)
                                          have q237 : 0 < (t229.length : Int) := of_decide_eq_true (by first | (with_reducible assumption) | assumption)
                                          obtain ⟨ad237, e237, hx237_0⟩ := Kd.at_int (Kd.R_reads' HO_8.out).2.2 0 p237 q237
                                          cases e237
                                          have qi237 : (0 < t229.length) = True := eq_true (by omega)
                                          (try rw [show ((0 : Int)).toNat = 0 from rfl] at hx237_0)
                                          (try rw [Addr.add_zero'] at hx237_0)
                                          replace p237 := eq_true p237
                                          replace q237 := eq_true q237
                                          have p238 : 0 ≤ ((ji38) : Int) := of_decide_eq_true (by first | (with_reducible assumption) | assumption)
                                          have q238 : (ji38) < (t229.length : Int) := of_decide_eq_true (by first | (with_reducible assumption) | assumption)
                                          obtain ⟨ad238, e238, hx238_0⟩ := Kd.at_int (Kd.R_reads' HO_8.out).2.2 (ji38) p238 q238
                                          obtain rfl : ad237 = ad238 := (by injection e238)
                                          replace p238 := eq_true p238
                                          replace q238 := eq_true q238
                                          go_wp2
                                          go_roundg k4
                                          case measure => have := HJ3.out; have := HJ11.out; have := HK3.out; have := HK4.out; omega
                                          case rel => exact ⟨(wrap64 (x10_4 + 1)), (wrap64 (x11_4 + 1)), (wrap64 (x99_4 + 1)), (by first | rfl | (simp; done) | (simp [*]; done)), (by first | rfl | (simp; done) | (simp [*]; done)), (by first | rfl | (simp; done) | (simp [*]; done)), H', ⟨by have := HJ3.out; have := HJ11.out; have := HK3.out; have := HK4.out; omega⟩, ⟨by (with_reducible repeat (first | apply Kd.R_alloc | apply Kd.R_drewN | apply Kd.R_drew)); exact HO_8.out⟩, ⟨by (with_reducible repeat (first | apply Kd.R_alloc | apply Kd.R_drewN | apply Kd.R_drew)); exact HO_97.out⟩, ⟨by repeat (first | (with_reducible first | exact HB.out | apply below_alloc | apply pw_below_drewN | apply below_drew1) | exact HB.out)⟩⟩
                                        · rw [if_neg c41] at H
                                          have c41b0 : decide ((rd t229 (ji38)) ≤ (rd t226 x99_4)) = false := decide_eq_false c41
                                          clear c41
                                          have H' := Aside0.mk H
                                          clear H
                                          have p236 : 0 ≤ (x99_4 : Int) := of_decide_eq_true (by first | (with_reducible assumption) | assumption)
                                          have q236 : x99_4 < (t226.length : Int) := of_decide_eq_true (by first | (with_reducible assumption) | assumption)
                                          obtain ⟨ad236, e236, hx236_0⟩ := Kd.at_int (Kd.R_reads' HO_97.out).2.2 x99_4 p236 q236
                                          cases e236
                                          replace p236 := eq_true p236
                                          replace q236 := eq_true q236
                                          have p237 : 0 ≤ (0 : Int) := (by omega)
                                          have q237 : 0 < (t229.length : Int) := of_decide_eq_true (by first | (with_reducible assumption) | assumption)
                                          obtain ⟨ad237, e237, hx237_0⟩ := Kd.at_int (Kd.R_reads' HO_8.out).2.2 0 p237 q237
                                          cases e237
                                          have qi237 : (0 < t229.length) = True := eq_true (by omega)
                                          (try rw [show ((0 : Int)).toNat = 0 from rfl] at hx237_0)
                                          (try rw [Addr.add_zero'] at hx237_0)
                                          replace p237 := eq_true p237
                                          replace q237 := eq_true q237
                                          have p238 : 0 ≤ ((ji38) : Int) := of_decide_eq_true (by first | (with_reducible assumption) | assumption)
                                          have q238 : (ji38) < (t229.length : Int) := of_decide_eq_true (by first | (with_reducible assumption) | assumption)
                                          obtain ⟨ad238, e238, hx238_0⟩ := Kd.at_int (Kd.R_reads' HO_8.out).2.2 (ji38) p238 q238
                                          obtain rfl : ad237 = ad238 := (by injection e238)
                                          replace p238 := eq_true p238
                                          replace q238 := eq_true q238
                                          go_wp2
                                          go_roundg k4
                                          case measure => have := HJ3.out; have := HJ11.out; have := HK3.out; have := HK4.out; omega
                                          case rel => exact ⟨(wrap64 (x10_4 + 1)), (x11_4), (wrap64 (x99_4 + 1)), (by first | rfl | (simp; done) | (simp [*]; done)), (by first | rfl | (simp; done) | (simp [*]; done)), (by first | rfl | (simp; done) | (simp [*]; done)), H', ⟨by have := HJ3.out; have := HJ11.out; have := HK3.out; have := HK4.out; omega⟩, ⟨by (with_reducible repeat (first | apply Kd.R_alloc | apply Kd.R_drewN | apply Kd.R_drew)); exact HO_8.out⟩, ⟨by (with_reducible repeat (first | apply Kd.R_alloc | apply Kd.R_drewN | apply Kd.R_drew)); exact HO_97.out⟩, ⟨by repeat (first | (with_reducible first | exact HB.out | apply below_alloc | apply pw_below_drewN | apply below_drew1) | exact HB.out)⟩⟩
                                      · rw [if_neg c40] at H
                                        exact absurd H (by simp)
                                    · rw [if_neg c39] at H
                                      exact absurd H (by simp)
                                  · rw [if_neg c37] at H
                                    have c37b0 : decide ((rd t226 x99_4) ≤ (rd t229 0)) = false := decide_eq_false c37
                                    clear c37
                                    obtain ⟨ji42, hji42⟩ : ∃ j_ : Int, (wrap64 ((t229.length : Int) - 1)) = j_ := ⟨_, rfl⟩
                                    replace H : (if 0 ≤ (ji42) then (if (ji42) < (t229.length : Int) then (if (rd t226 x99_4) ≥ (rd t229 (ji42)) then (vesperslaw14_MidpointTrimmed.l2 k4 t225 (Int.tmod (wrap64 (a1)) (wrap64 ((wrap64 (Int.tdiv (wrap64 ((l0.length : Int) - 1)) 2)) + 1))) t229 x10_4 (wrap64 (x11_4 + 1)) t226 (t226.length : Int) (wrap64 (x99_4 + 1))) else (vesperslaw14_MidpointTrimmed.l2 k4 t225 (Int.tmod (wrap64 (a1)) (wrap64 ((wrap64 (Int.tdiv (wrap64 ((l0.length : Int) - 1)) 2)) + 1))) t229 x10_4 x11_4 t226 (t226.length : Int) (wrap64 (x99_4 + 1)))) else (none)) else (none)) = some r := by first | (rw [hji42] at H; exact H) | (simp only [hji42] at H ⊢; exact H)
                                    have hji42w : (IntKind.i64.wrap ((t229.length : Int) - 1)) = ji42 := (i64_w _).trans hji42
                                    by_cases c43 : 0 ≤ (ji42)
                                    · rw [if_pos c43] at H
                                      have c43b0 : decide (0 ≤ (ji42)) = true := decide_eq_true c43
                                      clear c43
                                      by_cases c44 : (ji42) < (t229.length : Int)
                                      · rw [if_pos c44] at H
                                        have c44b0 : decide ((ji42) < (t229.length : Int)) = true := decide_eq_true c44
                                        clear c44
                                        by_cases c45 : (rd t226 x99_4) ≥ (rd t229 (ji42))
                                        · rw [if_pos c45] at H
                                          have c45b0 : decide ((rd t229 (ji42)) ≤ (rd t226 x99_4)) = true := decide_eq_true c45
                                          clear c45
                                          have H' := Aside0.mk H
                                          clear H
                                          have p236 : 0 ≤ (x99_4 : Int) := of_decide_eq_true (by first | (with_reducible assumption) | assumption)
                                          have q236 : x99_4 < (t226.length : Int) := of_decide_eq_true (by first | (with_reducible assumption) | assumption)
                                          obtain ⟨ad236, e236, hx236_0⟩ := Kd.at_int (Kd.R_reads' HO_97.out).2.2 x99_4 p236 q236
                                          cases e236
                                          replace p236 := eq_true p236
                                          replace q236 := eq_true q236
                                          have p237 : 0 ≤ (0 : Int) := (by omega)
                                          have q237 : 0 < (t229.length : Int) := of_decide_eq_true (by first | (with_reducible assumption) | assumption)
                                          obtain ⟨ad237, e237, hx237_0⟩ := Kd.at_int (Kd.R_reads' HO_8.out).2.2 0 p237 q237
                                          cases e237
                                          have qi237 : (0 < t229.length) = True := eq_true (by omega)
                                          (try rw [show ((0 : Int)).toNat = 0 from rfl] at hx237_0)
                                          (try rw [Addr.add_zero'] at hx237_0)
                                          replace p237 := eq_true p237
                                          replace q237 := eq_true q237
                                          have p239 : 0 ≤ ((ji42) : Int) := of_decide_eq_true (by first | (with_reducible assumption) | assumption)
                                          have q239 : (ji42) < (t229.length : Int) := of_decide_eq_true (by first | (with_reducible assumption) | assumption)
                                          obtain ⟨ad239, e239, hx239_0⟩ := Kd.at_int (Kd.R_reads' HO_8.out).2.2 (ji42) p239 q239
                                          obtain rfl : ad237 = ad239 := (by injection e239)
                                          replace p239 := eq_true p239
                                          replace q239 := eq_true q239
                                          go_wp2
                                          go_roundg k4
                                          case measure => have := HJ3.out; have := HJ11.out; have := HK3.out; have := HK4.out; omega
                                          case rel => exact ⟨(x10_4), (wrap64 (x11_4 + 1)), (wrap64 (x99_4 + 1)), (by first | rfl | (simp; done) | (simp [*]; done)), (by first | rfl | (simp; done) | (simp [*]; done)), (by first | rfl | (simp; done) | (simp [*]; done)), H', ⟨by have := HJ3.out; have := HJ11.out; have := HK3.out; have := HK4.out; omega⟩, ⟨by (with_reducible repeat (first | apply Kd.R_alloc | apply Kd.R_drewN | apply Kd.R_drew)); exact HO_8.out⟩, ⟨by (with_reducible repeat (first | apply Kd.R_alloc | apply Kd.R_drewN | apply Kd.R_drew)); exact HO_97.out⟩, ⟨by repeat (first | (with_reducible first | exact HB.out | apply below_alloc | apply pw_below_drewN | apply below_drew1) | exact HB.out)⟩⟩
                                        · rw [if_neg c45] at H
                                          have c45b0 : decide ((rd t229 (ji42)) ≤ (rd t226 x99_4)) = false := decide_eq_false c45
                                          clear c45
                                          have H' := Aside0.mk H
                                          clear H
                                          have p236 : 0 ≤ (x99_4 : Int) := of_decide_eq_true (by first | (with_reducible assumption) | assumption)
                                          have q236 : x99_4 < (t226.length : Int) := of_decide_eq_true (by first | (with_reducible assumption) | assumption)
                                          obtain ⟨ad236, e236, hx236_0⟩ := Kd.at_int (Kd.R_reads' HO_97.out).2.2 x99_4 p236 q236
                                          cases e236
                                          replace p236 := eq_true p236
                                          replace q236 := eq_true q236
                                          have p237 : 0 ≤ (0 : Int) := (by omega)
                                          have q237 : 0 < (t229.length : Int) := of_decide_eq_true (by first | (with_reducible assumption) | assumption)
                                          obtain ⟨ad237, e237, hx237_0⟩ := Kd.at_int (Kd.R_reads' HO_8.out).2.2 0 p237 q237
                                          cases e237
                                          have qi237 : (0 < t229.length) = True := eq_true (by omega)
                                          (try rw [show ((0 : Int)).toNat = 0 from rfl] at hx237_0)
                                          (try rw [Addr.add_zero'] at hx237_0)
                                          replace p237 := eq_true p237
                                          replace q237 := eq_true q237
                                          have p239 : 0 ≤ ((ji42) : Int) := of_decide_eq_true (by first | (with_reducible assumption) | assumption)
                                          have q239 : (ji42) < (t229.length : Int) := of_decide_eq_true (by first | (with_reducible assumption) | assumption)
                                          obtain ⟨ad239, e239, hx239_0⟩ := Kd.at_int (Kd.R_reads' HO_8.out).2.2 (ji42) p239 q239
                                          obtain rfl : ad237 = ad239 := (by injection e239)
                                          replace p239 := eq_true p239
                                          replace q239 := eq_true q239
                                          go_wp2
                                          go_roundg k4
                                          case measure => have := HJ3.out; have := HJ11.out; have := HK3.out; have := HK4.out; omega
                                          case rel => exact ⟨(x10_4), (x11_4), (wrap64 (x99_4 + 1)), (by first | rfl | (simp; done) | (simp [*]; done)), (by first | rfl | (simp; done) | (simp [*]; done)), (by first | rfl | (simp; done) | (simp [*]; done)), H', ⟨by have := HJ3.out; have := HJ11.out; have := HK3.out; have := HK4.out; omega⟩, ⟨by (with_reducible repeat (first | apply Kd.R_alloc | apply Kd.R_drewN | apply Kd.R_drew)); exact HO_8.out⟩, ⟨by (with_reducible repeat (first | apply Kd.R_alloc | apply Kd.R_drewN | apply Kd.R_drew)); exact HO_97.out⟩, ⟨by repeat (first | (with_reducible first | exact HB.out | apply below_alloc | apply pw_below_drewN | apply below_drew1) | exact HB.out)⟩⟩
                                      · rw [if_neg c44] at H
                                        exact absurd H (by simp)
                                    · rw [if_neg c43] at H
                                      exact absurd H (by simp)
                                · rw [if_neg c36] at H
                                  exact absurd H (by simp)
                              · rw [if_neg c35] at H
                                exact absurd H (by simp)
                            · rw [if_neg c34] at H
                              exact absurd H (by simp)
                          · rw [if_neg c33] at H
                            have c33b0 : decide (x99_4 < (t226.length : Int)) = false := decide_eq_false c33
                            clear c33
                            by_cases c46 : t225 = true
                            · subst c46
                              have H1 : (if x10_4 ≥ (wrap64 ((Int.tmod (wrap64 (a1)) (wrap64 ((wrap64 (Int.tdiv (wrap64 ((l0.length : Int) - 1)) 2)) + 1))) + 1)) then (some (decide (x11_4 ≥ (wrap64 ((Int.tmod (wrap64 (a1)) (wrap64 ((wrap64 (Int.tdiv (wrap64 ((l0.length : Int) - 1)) 2)) + 1))) + 1))))) else (none)) = some r := by rw [if_pos rfl] at H; exact H
                              clear H
                              have H := H1
                              clear H1
                              by_cases c47 : x10_4 ≥ (wrap64 ((Int.tmod (wrap64 (a1)) (wrap64 ((wrap64 (Int.tdiv (wrap64 ((l0.length : Int) - 1)) 2)) + 1))) + 1))
                              · rw [if_pos c47] at H
                                have c47b0 : decide ((wrap64 ((Int.tmod (wrap64 (a1)) (wrap64 ((wrap64 (Int.tdiv (wrap64 ((l0.length : Int) - 1)) 2)) + 1))) + 1)) ≤ x10_4) = true := decide_eq_true c47
                                clear c47
                                obtain rfl := Option.some.inj H
                                go_wp2
                                go_ret
                                exact ⟨by first | rfl | (simp [errW_none, errW_some] <;> rfl) | (simp [*, errW_none, errW_some] <;> rfl), by repeat (first | (with_reducible first | exact HB.out | apply below_alloc | apply pw_below_drewN | apply below_drew1) | exact HB.out)⟩
                              · rw [if_neg c47] at H
                                exact absurd H (by simp)
                            · replace c46 := Bool.eq_false_iff.mpr c46
                              subst c46
                              have H1 : (none) = some r := by rw [if_neg (show ¬ (false = true) by decide)] at H; exact H
                              clear H
                              have H := H1
                              clear H1
                              exact absurd H (by simp)

/-- THE ONE PURE STATEMENT of vesperslaw14_MidpointTrimmed: yours. -/
def vesperslaw14_MidpointTrimmed.Pure : Prop := ∀ (l0 : List Int) (a1 : Int), l0.length ≤ maxLen → l0.length * 8 ≤ 140737488351232 → (∀ x ∈ l0, (Lit.int .i64 x).wf = true) → (Lit.int .u8 a1).wf = true → ∃ k, vesperslaw14_MidpointTrimmed.f k l0 a1 = some true
theorem vesperslaw14_MidpointTrimmed.walk (P : vesperslaw14_MidpointTrimmed.Pure) (a0 : Option Addr) (len0 cap0 : Nat) (z0 : List Int) (a1 : Int) (w : World) (w0 : (a0 = none ∧ len0 = 0 ∧ cap0 = 0 ∧ z0 = []) ∨ ∃ x, a0 = some x ∧ len0 ≤ cap0 ∧ cap0 ≤ maxLen ∧ z0.length = cap0 ∧ (∀ i, i < z0.length → w.cell? (x.add i) = some (.int .i64 (z0.getD i 0))) ∧ ∀ n ∈ z0, (Lit.int .i64 n).wf = true) (y0 : len0 * 8 ≤ 140737488351232) (w1 : (Lit.int .u8 a1).wf = true) :
    Calls Try.prog 4 #[.slice a0 len0 cap0, .int .u8 a1] w fun e w' => e = .returned (.bool true) ∧ Below w.heap.size w w' := by
  obtain ⟨l0, rfl, hr0, hm0, hw0, hc0⟩ := ReadsInt.ofRowC w0
  obtain ⟨k, h⟩ := P l0 a1 hm0 y0 hw0 w1
  refine (vesperslaw14_MidpointTrimmed.calls k _ _ l0 a1 true w (Kd.C_of_reads (d := (0 : Int)) (h1 := fun _ => rfl) hr0) hc0 h).mono ?_
  rintro e w' ⟨rfl, hd⟩
  exact ⟨rfl, hd⟩

end Go.Proofs.Ytcagoddljhagiaa.PA
