/- Written by a program of this session (wip/jprint.py, over the printer of the kit): functions that a law comes to, as plain Lean functions, and walks; Lean checks it. -/
import Derived.Test.YtcagoddljhagiaaPAx0
import Derived.Test.YtcagoddljhagiaaPAx1
import Derived.Test.YtcagoddljhagiaaPAx2
import Derived.Test.YtcagoddljhagiaaPAx3
namespace Go.Proofs.Ytcagoddljhagiaa.PA
open Go.RowKit Go.Proofs.Ytcagoddljhagiaa.Hand Go.Proofs.YtcagoddljhagiaaW.PrintWords Go.Proofs.YtcagoddljhagiaaW.PrintLast Go.Proofs.YtcagoddljhagiaaW.PrintMore
attribute [local go_sem] max2_int min2_int max_two min_two max_three min_three max_four min_four   -- for this text's walks alone
set_option linter.unusedVariables false
set_option linter.unusedSimpArgs false

/-! ### vesperslaw14_MidpointWithin: function 7 -/
mutual
def vesperslaw14_MidpointWithin.j0 : Nat → List Int → List Int → Int → Int → Bool → Int → Bool → Option (Bool)
  | 0, _, _, _, _, _, _, _ => none
  | k + 1, x0, x1, x2, x3, x9, x10, x40 => if x40 = true then (some x9) else ((vesperslaw14_some.f k x0).bind fun t241 => (vesperslaw14_MidpointWithin.l0 k x1 x9 x10 (mn (Int.tmod x2 2147483648) (Int.tmod x3 2147483648)) (mx (Int.tmod x2 2147483648) (Int.tmod x3 2147483648)) ([] : List Int) t241 (t241.length : Int) 0))
def vesperslaw14_MidpointWithin.l0 : Nat → List Int → Bool → Int → Int → Int → List Int → List Int → Int → Int → Option (Bool)
  | 0, _, _, _, _, _, _, _, _, _ => none
  | k + 1, x1, x9, x10, x11, x12, x13, x53, x54, x55 => if x55 < x54 then (if 0 ≤ x55 then (if x55 < (x53.length : Int) then (if x55 < x10 then (if x55 < (x1.length : Int) then (if x13.length < 17592186044416 then ((some (x13 ++ [Int.tmod (rd x1 x55) 2147483648] : List Int)).bind fun y246 => (if y246.length < 17592186044416 then (vesperslaw14_MidpointWithin.l0 k x1 x9 x10 x11 x12 (y246 ++ [mx x11 (mn (rd x53 x55) x12)]) x53 x54 (wrap64 (x55 + 1))) else (none))) else (none)) else (none)) else (if x13.length < 17592186044416 then (vesperslaw14_MidpointWithin.l0 k x1 x9 x10 x11 x12 (x13 ++ [mx x11 (mn (rd x53 x55) x12)]) x53 x54 (wrap64 (x55 + 1))) else (none))) else (none)) else (none)) else ((midpoint_Of.f k x13 x10).bind fun bt255 => ((midpoint_Spread.f k x13 x10).bind fun bt257 => (if x9 = true then (if bt255.2 = 0 then (if bt257.2 = 0 then (if bt255.1 ≥ x11 then (if bt255.1 ≤ x12 then (if bt257.1 ≥ 0 then (some (decide (bt257.1 ≤ (wrap64 (x12 - x11))))) else (none)) else (none)) else (none)) else (none)) else (none)) else (none))))
end
def vesperslaw14_MidpointWithin.f (k : Nat) (l0 : List Int) (l1 : List Int) (a2 : Int) (a3 : Int) : Option (Bool) := (vesperslaw14_alive.f k).bind fun t240 => (if (l0.length : Int) > 30 then (vesperslaw14_MidpointWithin.j0 k l0 l1 a2 a3 t240 (l1.length : Int) true) else (if (l1.length : Int) > 10 then (vesperslaw14_MidpointWithin.j0 k l0 l1 a2 a3 t240 (l1.length : Int) true) else (if (l0.length : Int) < (wrap64 ((l1.length : Int) + 1)) then (vesperslaw14_MidpointWithin.j0 k l0 l1 a2 a3 t240 (l1.length : Int) true) else (vesperslaw14_MidpointWithin.j0 k l0 l1 a2 a3 t240 (l1.length : Int) (!t240)))))
theorem vesperslaw14_MidpointWithin.mono_l : ∀ k, (∀ y0 y1 y2 y3 y4 y5 y6, LeO (vesperslaw14_MidpointWithin.j0 k y0 y1 y2 y3 y4 y5 y6) (vesperslaw14_MidpointWithin.j0 (k + 1) y0 y1 y2 y3 y4 y5 y6)) ∧ (∀ y0 y1 y2 y3 y4 y5 y6 y7 y8, LeO (vesperslaw14_MidpointWithin.l0 k y0 y1 y2 y3 y4 y5 y6 y7 y8) (vesperslaw14_MidpointWithin.l0 (k + 1) y0 y1 y2 y3 y4 y5 y6 y7 y8))
  | 0 => ⟨fun _ _ _ _ _ _ _ r h => by simp [vesperslaw14_MidpointWithin.j0] at h, fun _ _ _ _ _ _ _ _ _ r h => by simp [vesperslaw14_MidpointWithin.l0] at h⟩
  | k + 1 => by
    obtain ⟨ih0, ih1⟩ := vesperslaw14_MidpointWithin.mono_l k
    refine ⟨?_, ?_⟩
    · intro y0 y1 y2 y3 y4 y5 y6
      unfold vesperslaw14_MidpointWithin.j0
      repeat' first
      | (with_reducible exact ih0 _ _ _ _ _ _ _)
      | (with_reducible exact ih1 _ _ _ _ _ _ _ _ _)
      | (with_reducible exact midpoint_Of.mono _ _ _)
      | (with_reducible exact midpoint_Spread.mono _ _ _)
      | (with_reducible exact vesperslaw14_alive.mono _)
      | (with_reducible exact vesperslaw14_some.mono _ _)
      | (with_reducible exact LeO.refl _)
      | (with_reducible exact LeO.none _)
      | (with_reducible refine LeO.ite ?_ ?_)
      | (with_reducible refine LeO.bind ?_ (fun _ => ?_))
      | exact ih0 _ _ _ _ _ _ _
      | exact ih1 _ _ _ _ _ _ _ _ _
      | exact midpoint_Of.mono _ _ _
      | exact midpoint_Spread.mono _ _ _
      | exact vesperslaw14_alive.mono _
      | exact vesperslaw14_some.mono _ _
      | exact LeO.none _
      | refine LeO.ite ?_ ?_
      | refine LeO.bind ?_ (fun _ => ?_)
    · intro y0 y1 y2 y3 y4 y5 y6 y7 y8
      unfold vesperslaw14_MidpointWithin.l0
      repeat' first
      | (with_reducible exact ih0 _ _ _ _ _ _ _)
      | (with_reducible exact ih1 _ _ _ _ _ _ _ _ _)
      | (with_reducible exact midpoint_Of.mono _ _ _)
      | (with_reducible exact midpoint_Spread.mono _ _ _)
      | (with_reducible exact vesperslaw14_alive.mono _)
      | (with_reducible exact vesperslaw14_some.mono _ _)
      | (with_reducible exact LeO.refl _)
      | (with_reducible exact LeO.none _)
      | (with_reducible refine LeO.ite ?_ ?_)
      | (with_reducible refine LeO.bind ?_ (fun _ => ?_))
      | exact ih0 _ _ _ _ _ _ _
      | exact ih1 _ _ _ _ _ _ _ _ _
      | exact midpoint_Of.mono _ _ _
      | exact midpoint_Spread.mono _ _ _
      | exact vesperslaw14_alive.mono _
      | exact vesperslaw14_some.mono _ _
      | exact LeO.none _
      | refine LeO.ite ?_ ?_
      | refine LeO.bind ?_ (fun _ => ?_)
theorem vesperslaw14_MidpointWithin.mono : ∀ a0 a1 a2 a3 k, LeO (vesperslaw14_MidpointWithin.f k a0 a1 a2 a3) (vesperslaw14_MidpointWithin.f (k + 1) a0 a1 a2 a3) := by
  intro a0 a1 a2 a3 k
  obtain ⟨ih0, ih1⟩ := vesperslaw14_MidpointWithin.mono_l k
  unfold vesperslaw14_MidpointWithin.f
  repeat' first
      | (with_reducible exact ih0 _ _ _ _ _ _ _)
      | (with_reducible exact ih1 _ _ _ _ _ _ _ _ _)
      | (with_reducible exact midpoint_Of.mono _ _ _)
      | (with_reducible exact midpoint_Spread.mono _ _ _)
      | (with_reducible exact vesperslaw14_alive.mono _)
      | (with_reducible exact vesperslaw14_some.mono _ _)
      | (with_reducible exact LeO.refl _)
      | (with_reducible exact LeO.none _)
      | (with_reducible refine LeO.ite ?_ ?_)
      | (with_reducible refine LeO.bind ?_ (fun _ => ?_))
      | exact ih0 _ _ _ _ _ _ _
      | exact ih1 _ _ _ _ _ _ _ _ _
      | exact midpoint_Of.mono _ _ _
      | exact midpoint_Spread.mono _ _ _
      | exact vesperslaw14_alive.mono _
      | exact vesperslaw14_some.mono _ _
      | exact LeO.none _
      | refine LeO.ite ?_ ?_
      | refine LeO.bind ?_ (fun _ => ?_)
set_option maxHeartbeats 8000000 in
set_option maxRecDepth 100000 in
theorem vesperslaw14_MidpointWithin.calls (k : Nat) (A0 : Option Addr) (c0 : Nat) (l0 : List Int) (A1 : Option Addr) (c1 : Nat) (l1 : List Int) (a2 : Int) (a3 : Int) (r : Bool) (w : World) (hr0 : Kd.C (Kd.int .i64) w A0 l0.length l0) (hc0 : l0.length ≤ c0) (hr1 : Kd.C (Kd.int .i64) w A1 l1.length l1) (hc1 : l1.length ≤ c1) (h : vesperslaw14_MidpointWithin.f k l0 l1 a2 a3 = some r) :
    Calls Try.prog 7 #[.slice A0 l0.length c0, .slice A1 l1.length c1, .int .i64 a2, .int .i64 a3] w fun e w' => e = .returned (.bool r) ∧ Below w.heap.size w w' := by
  have HR0 := Aside0.mk hr0
  have HC0 := Aside0.mk hc0
  clear hr0 hc0
  have HR1 := Aside0.mk hr1
  have HC1 := Aside0.mk hc1
  clear hr1 hc1
  have HB := Aside0.mk (Below.refl w.heap.size w)
  have H : ((vesperslaw14_alive.f k).bind fun t240 => (if (l0.length : Int) > 30 then (vesperslaw14_MidpointWithin.j0 k l0 l1 a2 a3 t240 (l1.length : Int) true) else (if (l1.length : Int) > 10 then (vesperslaw14_MidpointWithin.j0 k l0 l1 a2 a3 t240 (l1.length : Int) true) else (if (l0.length : Int) < (wrap64 ((l1.length : Int) + 1)) then (vesperslaw14_MidpointWithin.j0 k l0 l1 a2 a3 t240 (l1.length : Int) true) else (vesperslaw14_MidpointWithin.j0 k l0 l1 a2 a3 t240 (l1.length : Int) (!t240)))))) = some r := h
  clear h
  replace H := Option.bind_eq_some_iff.mp H
  obtain ⟨t240, A50, H⟩ := H
  replace H : (if (l0.length : Int) > 30 then (vesperslaw14_MidpointWithin.j0 k l0 l1 a2 a3 t240 (l1.length : Int) true) else (if (l1.length : Int) > 10 then (vesperslaw14_MidpointWithin.j0 k l0 l1 a2 a3 t240 (l1.length : Int) true) else (if (l0.length : Int) < (wrap64 ((l1.length : Int) + 1)) then (vesperslaw14_MidpointWithin.j0 k l0 l1 a2 a3 t240 (l1.length : Int) true) else (vesperslaw14_MidpointWithin.j0 k l0 l1 a2 a3 t240 (l1.length : Int) (!t240))))) = some r := H
  have A5 := Aside0.mk A50
  clear A50
  have HC6 := Aside0.mk H
  clear H
  go_enter Try.func7, Try.ntmps7
  go_upto_region 3 with (first | ((with_reducible refine gate_callee (f := 9) rfl ?_); refine goesL_ (some 20) rfl rfl Try.func9 (by kernel_rfl) rfl #[] rfl (by (try simp only [List.map_toArray, List.map_cons, List.map_nil]); first | done | rfl | (simp only [List.length_drop, List.length_take]; rfl)) ?_; (with_reducible refine (vesperslaw14_alive.calls k  t240 _ A5.out).mono ?_); rintro e w7 ⟨rfl, hb⟩; refine ⟨_, rfl, ?_⟩; have n0_ := Aside0.mk (below_step (by repeat (first | (with_reducible first | exact HB.out | apply below_alloc | apply pw_below_drewN | apply below_drew1) | exact HB.out)) hb); clear HB; have HB := n0_; clear n0_; (try clear hb); (try clear hb2); (try clear hk); (try clear hi)))
  (try simp only [Act.put, List.setIfInBounds_toArray, List.set_cons_zero, List.set_cons_succ])
  go_cut [40] (fun v40 wc => ∃ (kq : Nat) (x40_5 : Bool), v40 = .bool x40_5 ∧ Aside0 (vesperslaw14_MidpointWithin.j0 kq l0 l1 a2 a3 t240 (l1.length : Int) x40_5 = some r) ∧ Aside0 (kq ≤ k) ∧ Aside0 (Below w.heap.size w wc))
  case first =>
    have H := HC6.out
    clear HC6
    by_cases c8 : (l0.length : Int) > 30
    · rw [if_pos c8] at H
      have c8b0 : decide (30 < (l0.length : Int)) = true := decide_eq_true c8
      have c8b1 : decide (30 < l0.length) = true := decide_eq_true (by omega)
      clear c8
      (first | rw [c8b0] | (simp only [i64_w, i32_w]; rw [c8b0]) | skip)
      have H' := Aside0.mk H
      clear H
      go_wp2
      go_meet
      case rel => exact ⟨_, (true), (by first | rfl | (simp; done) | (simp [*]; done)), H', ⟨by first | omega | exact Nat.le_refl _⟩, ⟨by repeat (first | (with_reducible first | exact HB.out | apply below_alloc | apply pw_below_drewN | apply below_drew1) | exact HB.out)⟩⟩
    · rw [if_neg c8] at H
      have c8b0 : decide (30 < (l0.length : Int)) = false := decide_eq_false c8
      have c8b1 : decide (30 < l0.length) = false := decide_eq_false (by omega)
      clear c8
      (first | rw [c8b0] | (simp only [i64_w, i32_w]; rw [c8b0]) | skip)
      by_cases c9 : (l1.length : Int) > 10
      · rw [if_pos c9] at H
        have c9b0 : decide (10 < (l1.length : Int)) = true := decide_eq_true c9
        have c9b1 : decide (10 < l1.length) = true := decide_eq_true (by omega)
        clear c9
        have H' := Aside0.mk H
        clear H
        go_wp2
        go_meet
        case rel => exact ⟨_, (true), (by first | rfl | (simp; done) | (simp [*]; done)), H', ⟨by first | omega | exact Nat.le_refl _⟩, ⟨by repeat (first | (with_reducible first | exact HB.out | apply below_alloc | apply pw_below_drewN | apply below_drew1) | exact HB.out)⟩⟩
      · rw [if_neg c9] at H
        have c9b0 : decide (10 < (l1.length : Int)) = false := decide_eq_false c9
        have c9b1 : decide (10 < l1.length) = false := decide_eq_false (by omega)
        clear c9
        by_cases c10 : (l0.length : Int) < (wrap64 ((l1.length : Int) + 1))
        · rw [if_pos c10] at H
          have c10b0 : decide ((l0.length : Int) < (wrap64 ((l1.length : Int) + 1))) = true := decide_eq_true c10
          clear c10
          have H' := Aside0.mk H
          clear H
          go_wp2
          go_meet
          case rel => exact ⟨_, (true), (by first | rfl | (simp; done) | (simp [*]; done)), H', ⟨by first | omega | exact Nat.le_refl _⟩, ⟨by repeat (first | (with_reducible first | exact HB.out | apply below_alloc | apply pw_below_drewN | apply below_drew1) | exact HB.out)⟩⟩
        · rw [if_neg c10] at H
          have c10b0 : decide ((l0.length : Int) < (wrap64 ((l1.length : Int) + 1))) = false := decide_eq_false c10
          clear c10
          have H' := Aside0.mk H
          clear H
          go_wp2
          go_meet
          case rel => exact ⟨_, (!t240), (by first | rfl | (simp; done) | (simp [*]; done)), H', ⟨by first | omega | exact Nat.le_refl _⟩, ⟨by repeat (first | (with_reducible first | exact HB.out | apply below_alloc | apply pw_below_drewN | apply below_drew1) | exact HB.out)⟩⟩
  case rest =>
    clear HC6
    try clear c1
    try clear p2
    try clear p6
    try clear c7
    try clear c8
    try clear c8b0
    try clear c8b1
    try clear c9
    try clear c9b0
    try clear c9b1
    try clear c10
    try clear c10b0
    obtain ⟨kq, x40_5, rfl, HA, HJ5, HB⟩ := hcut
    cases kq with
    | zero => exact absurd HA.out (by simp [vesperslaw14_MidpointWithin.j0])
    | succ kj5 =>
      have H := HA.out
      clear HA
      simp only [vesperslaw14_MidpointWithin.j0] at H
      by_cases c11 : x40_5 = true
      · subst c11
        have H1 : (some t240) = some r := by rw [if_pos rfl] at H; exact H
        clear H
        have H := H1
        clear H1
        obtain rfl := Option.some.inj H
        go_wp2
        go_ret
        exact ⟨by first | rfl | (simp [errW_none, errW_some] <;> rfl) | (simp [*, errW_none, errW_some] <;> rfl), by repeat (first | (with_reducible first | exact HB.out | apply below_alloc | apply pw_below_drewN | apply below_drew1) | exact HB.out)⟩
      · replace c11 := Bool.eq_false_iff.mpr c11
        subst c11
        have H1 : ((vesperslaw14_some.f kj5 l0).bind fun t241 => (vesperslaw14_MidpointWithin.l0 kj5 l1 t240 (l1.length : Int) (mn (Int.tmod a2 2147483648) (Int.tmod a3 2147483648)) (mx (Int.tmod a2 2147483648) (Int.tmod a3 2147483648)) ([] : List Int) t241 (t241.length : Int) 0)) = some r := by rw [if_neg (show ¬ (false = true) by decide)] at H; exact H
        clear H
        have H := H1
        clear H1
        obtain ⟨ji12, hji12⟩ : ∃ j_ : Int, (mn (Int.tmod a2 2147483648) (Int.tmod a3 2147483648)) = j_ := ⟨_, rfl⟩
        replace H : ((vesperslaw14_some.f kj5 l0).bind fun t241 => (vesperslaw14_MidpointWithin.l0 kj5 l1 t240 (l1.length : Int) ji12 (mx (Int.tmod a2 2147483648) (Int.tmod a3 2147483648)) ([] : List Int) t241 (t241.length : Int) 0)) = some r := by first | (rw [hji12] at H; exact H) | (simp only [hji12] at H ⊢; exact H)
        have hji12_ : (if (Int.tmod a3 2147483648) < (Int.tmod a2 2147483648) then (Int.tmod a3 2147483648) else (Int.tmod a2 2147483648)) = ji12 := hji12
        obtain ⟨ji13, hji13⟩ : ∃ j_ : Int, (mx (Int.tmod a2 2147483648) (Int.tmod a3 2147483648)) = j_ := ⟨_, rfl⟩
        replace H : ((vesperslaw14_some.f kj5 l0).bind fun t241 => (vesperslaw14_MidpointWithin.l0 kj5 l1 t240 (l1.length : Int) ji12 ji13 ([] : List Int) t241 (t241.length : Int) 0)) = some r := by first | (rw [hji13] at H; exact H) | (simp only [hji13] at H ⊢; exact H)
        have hji13_ : (if (Int.tmod a2 2147483648) < (Int.tmod a3 2147483648) then (Int.tmod a3 2147483648) else (Int.tmod a2 2147483648)) = ji13 := hji13
        replace H := Option.bind_eq_some_iff.mp H
        obtain ⟨t241, A140, H⟩ := H
        replace H : (vesperslaw14_MidpointWithin.l0 kj5 l1 t240 (l1.length : Int) ji12 ji13 ([] : List Int) t241 (t241.length : Int) 0) = some r := H
        have A14 := Aside0.mk A140
        clear A140
        have H' := Aside0.mk H
        clear H
        go_wp2_with (first | ((with_reducible refine gate_callee (f := 10) rfl ?_); refine goesL_ (some 53) rfl rfl Try.func10 (by kernel_rfl) rfl #[.slice A0 l0.length c0] rfl (by (try simp only [List.map_toArray, List.map_cons, List.map_nil]); first | done | rfl | (simp only [List.length_drop, List.length_take]; rfl)) ?_; (with_reducible refine (vesperslaw14_some.calls kj5 _ _ l0 t241 _ ?side1 ?side2 A14.out).mono ?_); (case side1 => repeat (first | exact (Kd.C_below HR0.out HB.out) | (with_reducible refine Kd.C_alloc ?_ _) | (with_reducible refine Kd.C_drewN ?_ _) | (with_reducible refine Kd.C_drew ?_))); (case side2 => exact HC0.out); rintro e w15 ⟨v242, rfl, ho0, hb⟩; refine ⟨_, rfl, ?_⟩; have n0_ := Aside0.mk (Kd.R_lower ho0 (below_size (by repeat (first | (with_reducible first | exact HB.out | apply below_alloc | apply pw_below_drewN | apply below_drew1) | exact HB.out)))); have n1_ := Aside0.mk (below_step (by repeat (first | (with_reducible first | exact HB.out | apply below_alloc | apply pw_below_drewN | apply below_drew1) | exact HB.out)) hb); clear HB; have HO243 := n0_; have HB := n1_; clear n0_ n1_; (try clear hb); (try clear hb2); (try clear hk); (try clear hi); (try clear ho0); obtain ⟨Ao16, co16, eo16⟩ := Kd.R_slice HO243.out; subst eo16))
        go_loopg [13, 55] kj5 (fun kq v13 v55 w' => ∃ (x13_2 : List Int) (x55_2 : Int), v55 = .int .i64 x55_2 ∧ Aside0 (vesperslaw14_MidpointWithin.l0 kq l1 t240 (l1.length : Int) ji12 ji13 x13_2 t241 (t241.length : Int) x55_2 = some r) ∧ Aside0 (kq ≤ kj5) ∧ Aside0 (Kd.R (Kd.int .i64) 2 w' w.heap.size (fun k_ => some k_ ≠ ((.slice Ao16 t241.length co16) : Value).ownBlock) v13 x13_2) ∧ Aside0 (Kd.R (Kd.int .i64) 2 w' w.heap.size (fun k_ => some k_ ≠ (v13 : Value).ownBlock) (.slice Ao16 t241.length co16) t241) ∧ Aside0 (Below w.heap.size w w'))
        case atStart => exact ⟨(([] : List Int)), (0), (by first | rfl | (simp; done) | (simp [*]; done)), H', ⟨Nat.le_refl _⟩, ⟨by first | exact Kd.R_nil _ _ _ _ _ | exact Kd.N_nil _ _ _ _ _ | exact Kd.V_nil _ _ _ _ _ | exact Kd.Q_nil _ _ _ _ _ | exact Kd.S_nil _ _ _ _ _⟩, ⟨by (with_reducible repeat (first | apply Kd.R_alloc | apply Kd.R_drewN | apply Kd.R_drew)); exact Kd.R_mono HO243.out (fun _ hk => (by simp [Value.ownBlock]))⟩, ⟨by repeat (first | (with_reducible first | exact HB.out | apply below_alloc | apply pw_below_drewN | apply below_drew1) | exact HB.out)⟩⟩
        case round =>
          clear H'
          try clear c1
          try clear p2
          try clear p6
          try clear c7
          try clear c8
          try clear c8b0
          try clear c8b1
          try clear c9
          try clear c9b0
          try clear c9b1
          try clear c10
          try clear c10b0
          try clear c11
          try clear p2
          try clear p6
          obtain ⟨x13_2, x55_2, rfl, HA, HK2, HO_13, HO_53, HB⟩ := hrel
          cases gk with
          | zero => exact absurd HA.out (by simp [vesperslaw14_MidpointWithin.l0])
          | succ k2 =>
            have H := HA.out
            clear HA
            simp only [vesperslaw14_MidpointWithin.l0] at H
            by_cases c17 : x55_2 < (t241.length : Int)
            · rw [if_pos c17] at H
              have c17b0 : decide (x55_2 < (t241.length : Int)) = true := decide_eq_true c17
              clear c17
              by_cases c18 : 0 ≤ x55_2
              · rw [if_pos c18] at H
                have c18b0 : decide (0 ≤ x55_2) = true := decide_eq_true c18
                clear c18
                by_cases c19 : x55_2 < (t241.length : Int)
                · rw [if_pos c19] at H
                  have c19b0 : decide (x55_2 < (t241.length : Int)) = true := decide_eq_true c19
                  clear c19
                  by_cases c20 : x55_2 < (l1.length : Int)
                  · rw [if_pos c20] at H
                    have c20b0 : decide (x55_2 < (l1.length : Int)) = true := decide_eq_true c20
                    clear c20
                    by_cases c21 : x55_2 < (l1.length : Int)
                    · rw [if_pos c21] at H
                      have c21b0 : decide (x55_2 < (l1.length : Int)) = true := decide_eq_true c21
                      clear c21
                      by_cases c22 : x13_2.length < 17592186044416
                      · rw [if_pos c22] at H
                        have LMc22 := Aside0.mk c22
                        clear c22
                        obtain ⟨y246, hy246⟩ : ∃ y_ : List Int, y_ = (x13_2 ++ [Int.tmod (rd l1 x55_2) 2147483648]) := ⟨_, rfl⟩
                        replace H : (if y246.length < 17592186044416 then (vesperslaw14_MidpointWithin.l0 k2 l1 t240 (l1.length : Int) ji12 ji13 (y246 ++ [mx ji12 (mn (rd t241 x55_2) ji13)]) t241 (t241.length : Int) (wrap64 (x55_2 + 1))) else (none)) = some r := by first | (rw [hy246]; with_reducible exact H) | (have H2_ := (Option.bind_some _ _).symm.trans H; rw [hy246]; with_reducible exact H2_) | (have H2_ := (Option.bind_some _ _).symm.trans H; with_reducible exact H2_) | with_reducible exact H | (rw [hy246]; exact H) | exact H
                        have Ny246 := Aside0.mk hy246
                        clear hy246
                        obtain ⟨ji23, hji23⟩ : ∃ j_ : Int, (mn (rd t241 x55_2) ji13) = j_ := ⟨_, rfl⟩
                        replace H : (if y246.length < 17592186044416 then (vesperslaw14_MidpointWithin.l0 k2 l1 t240 (l1.length : Int) ji12 ji13 (y246 ++ [mx ji12 (ji23)]) t241 (t241.length : Int) (wrap64 (x55_2 + 1))) else (none)) = some r := by first | (rw [hji23] at H; exact H) | (simp only [hji23] at H ⊢; exact H)
                        have hji23_ : (if ji13 < (rd t241 x55_2) then ji13 else (rd t241 x55_2)) = ji23 := hji23
                        obtain ⟨ji24, hji24⟩ : ∃ j_ : Int, (mx ji12 (ji23)) = j_ := ⟨_, rfl⟩
                        replace H : (if y246.length < 17592186044416 then (vesperslaw14_MidpointWithin.l0 k2 l1 t240 (l1.length : Int) ji12 ji13 (y246 ++ [ji24]) t241 (t241.length : Int) (wrap64 (x55_2 + 1))) else (none)) = some r := by first | (rw [hji24] at H; exact H) | (simp only [hji24] at H ⊢; exact H)
                        have hji24_ : (if ji12 < (ji23) then (ji23) else ji12) = ji24 := hji24
                        by_cases c25 : y246.length < 17592186044416
                        · rw [if_pos c25] at H
                          have LMc25 := Aside0.mk c25
                          clear c25
                          obtain ⟨y249, hy249⟩ : ∃ y_ : List Int, y_ = (y246 ++ [ji24]) := ⟨_, rfl⟩
                          replace H : (vesperslaw14_MidpointWithin.l0 k2 l1 t240 (l1.length : Int) ji12 ji13 y249 t241 (t241.length : Int) (wrap64 (x55_2 + 1))) = some r := by first | (rw [hy249]; with_reducible exact H) | (have H2_ := (Option.bind_some _ _).symm.trans H; rw [hy249]; with_reducible exact H2_) | (have H2_ := (Option.bind_some _ _).symm.trans H; with_reducible exact H2_) | with_reducible exact H | (rw [hy249]; exact H) | exact H
                          have Ny249 := Aside0.mk hy249
                          clear hy249
                          have H' := Aside0.mk H
                          clear H
                          have p244 : 0 ≤ (x55_2 : Int) := of_decide_eq_true (by first | (with_reducible assumption) | assumption)
                          have q244 : x55_2 < (t241.length : Int) := of_decide_eq_true (by first | (with_reducible assumption) | assumption)
                          obtain ⟨ad244, e244, hx244_0⟩ := Kd.at_int (Kd.R_reads' HO_53.out).2.2 x55_2 p244 q244
                          cases e244
                          replace p244 := eq_true p244
                          replace q244 := eq_true q244
                          have p245 : 0 ≤ (x55_2 : Int) := of_decide_eq_true (by first | (with_reducible assumption) | assumption)
                          have q245 : x55_2 < (l1.length : Int) := of_decide_eq_true (by first | (with_reducible assumption) | assumption)
                          obtain ⟨ad245, e245, hx245_0⟩ := Kd.at_int HR1.out x55_2 p245 q245
                          cases e245
                          replace hx245_0 := (HB.out.cell (World.block_lt_of_cell? w _ hx245_0)).trans hx245_0
                          replace p245 := eq_true p245
                          replace q245 := eq_true q245
                          go_wp2_with (first | ((with_reducible refine gate_builtin (b := .append) (xs := #[.tmp 63, .tmp 69]) rfl ?_); (try (refine gate_guard (by rfl) ?_; dsimp only)); at_builtin; refine Kd.R_append (Kd.int .i64) (w0 := w) w.heap.size rfl (.tmp 63) (.tmp 69) 22 2 (.int .i64 0) 8 rfl Try.underlying22 info2 rfl (by decide) (by omega) u13 x13_2 (Int.tmod (rd l1 x55_2) 2147483648) [.int .i64 (Int.tmod (rd l1 x55_2) 2147483648)] (fun k_ => some k_ ≠ (.slice (some ad244) t241.length co16 : Value).ownBlock) (fun _ => False) rfl rfl ?aP (fun _ hk => hk.elim) ?aF ?aO ?aB ?aS ?aL ?_; (case aP => exact rfl); (case aB => exact (by repeat (first | (with_reducible first | exact HB.out | apply below_alloc | apply pw_below_drewN | apply below_drew1) | exact HB.out))); (case aF => exact (fun k_ hk => Kd.fresh' (Kd.R_lt (by (with_reducible repeat (first | apply Kd.R_alloc | apply Kd.R_drewN | apply Kd.R_drew)); exact HO_53.out)) k_ hk)); (case aO => exact (by (with_reducible repeat (first | apply Kd.R_alloc | apply Kd.R_drewN | apply Kd.R_drew)); exact HO_13.out)); (case aS => exact (below_size (by repeat (first | (with_reducible first | exact HB.out | apply below_alloc | apply pw_below_drewN | apply below_drew1) | exact HB.out)))); (case aL => have := LMc22.out; omega); intro v247 w26 ho hb hg hat; rw [← Ny246.out] at ho; have n0_ := Aside0.mk (Kd.R_after (ok := (fun _ => True)) (by (with_reducible repeat (first | apply Kd.R_alloc | apply Kd.R_drewN | apply Kd.R_drew)); exact Kd.R_mono HO_53.out (fun _ hk => ⟨trivial, hk⟩)) hg hat); have n1_ := Aside0.mk (hb); have n2_ := Aside0.mk (ho); clear HO_53; clear HB; clear HO_13; have HO_53 := n0_; have HB := n1_; have HO248 := n2_; clear n0_ n1_ n2_; clear ho hb hg hat) | ((with_reducible refine gate_builtin (b := .append) (xs := #[.tmp 71, .tmp 77]) rfl ?_); (try (refine gate_guard (by rfl) ?_; dsimp only)); at_builtin; refine Kd.R_append (Kd.int .i64) (w0 := w) w.heap.size rfl (.tmp 71) (.tmp 77) 22 2 (.int .i64 0) 8 rfl Try.underlying22 info2 rfl (by decide) (by omega) v247 y246 ji24 [.int .i64 ji24] (fun k_ => some k_ ≠ (.slice (some ad244) t241.length co16 : Value).ownBlock) (fun _ => False) rfl rfl ?aP (fun _ hk => hk.elim) ?aF ?aO ?aB ?aS ?aL ?_; (case aP => exact rfl); (case aB => exact (by repeat (first | (with_reducible first | exact HB.out | apply below_alloc | apply pw_below_drewN | apply below_drew1) | exact HB.out))); (case aF => exact (fun k_ hk => Kd.fresh' (Kd.R_lt (by (with_reducible repeat (first | apply Kd.R_alloc | apply Kd.R_drewN | apply Kd.R_drew)); exact HO_53.out)) k_ hk)); (case aO => exact (by (with_reducible repeat (first | apply Kd.R_alloc | apply Kd.R_drewN | apply Kd.R_drew)); exact HO248.out)); (case aS => exact (below_size (by repeat (first | (with_reducible first | exact HB.out | apply below_alloc | apply pw_below_drewN | apply below_drew1) | exact HB.out)))); (case aL => have := LMc25.out; omega); intro v250 w27 ho hb hg hat; rw [← Ny249.out] at ho; have n0_ := Aside0.mk (Kd.R_after (ok := (fun _ => True)) (by (with_reducible repeat (first | apply Kd.R_alloc | apply Kd.R_drewN | apply Kd.R_drew)); exact HO_53.out) hg hat); have n1_ := Aside0.mk (hb); have n2_ := Aside0.mk (ho); clear HO_53; clear HB; clear HO248; have HO_53 := n0_; have HB := n1_; have HO251 := n2_; clear n0_ n1_ n2_; clear ho hb hg hat))
                          go_roundg k2
                          case measure => have := HJ5.out; have := HK2.out; omega
                          case rel => exact ⟨(y249), (wrap64 (x55_2 + 1)), (by first | rfl | (simp; done) | (simp [*]; done)), H', ⟨by have := HJ5.out; have := HK2.out; omega⟩, ⟨by (with_reducible repeat (first | apply Kd.R_alloc | apply Kd.R_drewN | apply Kd.R_drew)); exact HO251.out⟩, ⟨by (with_reducible repeat (first | apply Kd.R_alloc | apply Kd.R_drewN | apply Kd.R_drew)); exact Kd.R_mono HO_53.out (fun _ hk => hk.2)⟩, ⟨by repeat (first | (with_reducible first | exact HB.out | apply below_alloc | apply pw_below_drewN | apply below_drew1) | exact HB.out)⟩⟩
                        · rw [if_neg c25] at H
                          exact absurd H (by simp)
                      · rw [if_neg c22] at H
                        exact absurd H (by simp)
                    · rw [if_neg c21] at H
                      exact absurd H (by simp)
                  · rw [if_neg c20] at H
                    have c20b0 : decide (x55_2 < (l1.length : Int)) = false := decide_eq_false c20
                    clear c20
                    obtain ⟨ji28, hji28⟩ : ∃ j_ : Int, (mn (rd t241 x55_2) ji13) = j_ := ⟨_, rfl⟩
                    replace H : (if x13_2.length < 17592186044416 then (vesperslaw14_MidpointWithin.l0 k2 l1 t240 (l1.length : Int) ji12 ji13 (x13_2 ++ [mx ji12 (ji28)]) t241 (t241.length : Int) (wrap64 (x55_2 + 1))) else (none)) = some r := by first | (rw [hji28] at H; exact H) | (simp only [hji28] at H ⊢; exact H)
                    have hji28_ : (if ji13 < (rd t241 x55_2) then ji13 else (rd t241 x55_2)) = ji28 := hji28
                    obtain ⟨ji29, hji29⟩ : ∃ j_ : Int, (mx ji12 (ji28)) = j_ := ⟨_, rfl⟩
                    replace H : (if x13_2.length < 17592186044416 then (vesperslaw14_MidpointWithin.l0 k2 l1 t240 (l1.length : Int) ji12 ji13 (x13_2 ++ [ji29]) t241 (t241.length : Int) (wrap64 (x55_2 + 1))) else (none)) = some r := by first | (rw [hji29] at H; exact H) | (simp only [hji29] at H ⊢; exact H)
                    have hji29_ : (if ji12 < (ji28) then (ji28) else ji12) = ji29 := hji29
                    by_cases c30 : x13_2.length < 17592186044416
                    · rw [if_pos c30] at H
                      have LMc30 := Aside0.mk c30
                      clear c30
                      obtain ⟨y252, hy252⟩ : ∃ y_ : List Int, y_ = (x13_2 ++ [ji29]) := ⟨_, rfl⟩
                      replace H : (vesperslaw14_MidpointWithin.l0 k2 l1 t240 (l1.length : Int) ji12 ji13 y252 t241 (t241.length : Int) (wrap64 (x55_2 + 1))) = some r := by first | (rw [hy252]; with_reducible exact H) | (have H2_ := (Option.bind_some _ _).symm.trans H; rw [hy252]; with_reducible exact H2_) | (have H2_ := (Option.bind_some _ _).symm.trans H; with_reducible exact H2_) | with_reducible exact H | (rw [hy252]; exact H) | exact H
                      have Ny252 := Aside0.mk hy252
                      clear hy252
                      have H' := Aside0.mk H
                      clear H
                      have p244 : 0 ≤ (x55_2 : Int) := of_decide_eq_true (by first | (with_reducible assumption) | assumption)
                      have q244 : x55_2 < (t241.length : Int) := of_decide_eq_true (by first | (with_reducible assumption) | assumption)
                      obtain ⟨ad244, e244, hx244_0⟩ := Kd.at_int (Kd.R_reads' HO_53.out).2.2 x55_2 p244 q244
                      cases e244
                      replace p244 := eq_true p244
                      replace q244 := eq_true q244
                      go_wp2_with (first | ((with_reducible refine gate_builtin (b := .append) (xs := #[.tmp 71, .tmp 77]) rfl ?_); (try (refine gate_guard (by rfl) ?_; dsimp only)); at_builtin; refine Kd.R_append (Kd.int .i64) (w0 := w) w.heap.size rfl (.tmp 71) (.tmp 77) 22 2 (.int .i64 0) 8 rfl Try.underlying22 info2 rfl (by decide) (by omega) u13 x13_2 ji29 [.int .i64 ji29] (fun k_ => some k_ ≠ (.slice (some ad244) t241.length co16 : Value).ownBlock) (fun _ => False) rfl rfl ?aP (fun _ hk => hk.elim) ?aF ?aO ?aB ?aS ?aL ?_; (case aP => exact rfl); (case aB => exact (by repeat (first | (with_reducible first | exact HB.out | apply below_alloc | apply pw_below_drewN | apply below_drew1) | exact HB.out))); (case aF => exact (fun k_ hk => Kd.fresh' (Kd.R_lt (by (with_reducible repeat (first | apply Kd.R_alloc | apply Kd.R_drewN | apply Kd.R_drew)); exact HO_53.out)) k_ hk)); (case aO => exact (by (with_reducible repeat (first | apply Kd.R_alloc | apply Kd.R_drewN | apply Kd.R_drew)); exact HO_13.out)); (case aS => exact (below_size (by repeat (first | (with_reducible first | exact HB.out | apply below_alloc | apply pw_below_drewN | apply below_drew1) | exact HB.out)))); (case aL => have := LMc30.out; omega); intro v253 w31 ho hb hg hat; rw [← Ny252.out] at ho; have n0_ := Aside0.mk (Kd.R_after (ok := (fun _ => True)) (by (with_reducible repeat (first | apply Kd.R_alloc | apply Kd.R_drewN | apply Kd.R_drew)); exact Kd.R_mono HO_53.out (fun _ hk => ⟨trivial, hk⟩)) hg hat); have n1_ := Aside0.mk (hb); have n2_ := Aside0.mk (ho); clear HO_53; clear HB; clear HO_13; have HO_53 := n0_; have HB := n1_; have HO254 := n2_; clear n0_ n1_ n2_; clear ho hb hg hat))
                      go_roundg k2
                      case measure => have := HJ5.out; have := HK2.out; omega
                      case rel => exact ⟨(y252), (wrap64 (x55_2 + 1)), (by first | rfl | (simp; done) | (simp [*]; done)), H', ⟨by have := HJ5.out; have := HK2.out; omega⟩, ⟨by (with_reducible repeat (first | apply Kd.R_alloc | apply Kd.R_drewN | apply Kd.R_drew)); exact HO254.out⟩, ⟨by (with_reducible repeat (first | apply Kd.R_alloc | apply Kd.R_drewN | apply Kd.R_drew)); exact Kd.R_mono HO_53.out (fun _ hk => hk.2)⟩, ⟨by repeat (first | (with_reducible first | exact HB.out | apply below_alloc | apply pw_below_drewN | apply below_drew1) | exact HB.out)⟩⟩
                    · rw [if_neg c30] at H
                      exact absurd H (by simp)
                · rw [if_neg c19] at H
                  exact absurd H (by simp)
              · rw [if_neg c18] at H
                exact absurd H (by simp)
            · rw [if_neg c17] at H
              have c17b0 : decide (x55_2 < (t241.length : Int)) = false := decide_eq_false c17
              clear c17
              replace H := Option.bind_eq_some_iff.mp H
              obtain ⟨⟨t255, t256⟩, A320, H⟩ := H
              replace H : ((midpoint_Spread.f k2 x13_2 (l1.length : Int)).bind fun bt257 => (if t240 = true then (if t256 = 0 then (if bt257.2 = 0 then (if t255 ≥ ji12 then (if t255 ≤ ji13 then (if bt257.1 ≥ 0 then (some (decide (bt257.1 ≤ (wrap64 (ji13 - ji12))))) else (none)) else (none)) else (none)) else (none)) else (none)) else (none))) = some r := H
              have A32 := Aside0.mk A320
              clear A320
              replace H := Option.bind_eq_some_iff.mp H
              obtain ⟨⟨t257, t258⟩, A330, H⟩ := H
              replace H : (if t240 = true then (if t256 = 0 then (if t258 = 0 then (if t255 ≥ ji12 then (if t255 ≤ ji13 then (if t257 ≥ 0 then (some (decide (t257 ≤ (wrap64 (ji13 - ji12))))) else (none)) else (none)) else (none)) else (none)) else (none)) else (none)) = some r := H
              have A33 := Aside0.mk A330
              clear A330
              by_cases c34 : t240 = true
              · subst c34
                have H1 : (if t256 = 0 then (if t258 = 0 then (if t255 ≥ ji12 then (if t255 ≤ ji13 then (if t257 ≥ 0 then (some (decide (t257 ≤ (wrap64 (ji13 - ji12))))) else (none)) else (none)) else (none)) else (none)) else (none)) = some r := by rw [if_pos rfl] at H; exact H
                clear H
                have H := H1
                clear H1
                by_cases c35 : t256 = 0
                · rw [if_pos c35] at H
                  have c35b0 : (t256 == 0) = true := beq_iff_eq.mpr c35
                  have c35b1 : (t256 != 0) = false := bne_eq_false_iff_eq.mpr c35
                  clear c35
                  by_cases c36 : t258 = 0
                  · rw [if_pos c36] at H
                    have c36b0 : (t258 == 0) = true := beq_iff_eq.mpr c36
                    have c36b1 : (t258 != 0) = false := bne_eq_false_iff_eq.mpr c36
                    clear c36
                    by_cases c37 : t255 ≥ ji12
                    · rw [if_pos c37] at H
                      have c37b0 : decide (ji12 ≤ t255) = true := decide_eq_true c37
                      clear c37
                      by_cases c38 : t255 ≤ ji13
                      · rw [if_pos c38] at H
                        have c38b0 : decide (t255 ≤ ji13) = true := decide_eq_true c38
                        clear c38
                        by_cases c39 : t257 ≥ 0
                        · rw [if_pos c39] at H
                          have c39b0 : decide (0 ≤ t257) = true := decide_eq_true c39
                          clear c39
                          obtain rfl := Option.some.inj H
                          obtain ⟨Ao40, co40, eo40⟩ := Kd.R_slice HO_13.out
                          subst eo40
                          go_wp2_with (first | ((with_reducible refine gate_callee (f := 11) rfl ?_); refine goesL_ (some 83) rfl rfl Try.func11 (by kernel_rfl) rfl #[.slice Ao40 x13_2.length co40, .int .i64 (l1.length : Int)] rfl (by (try simp only [List.map_toArray, List.map_cons, List.map_nil]); first | done | rfl | (simp only [List.length_drop, List.length_take]; rfl)) ?_; (with_reducible refine (midpoint_Of.calls k2 _ _ x13_2 (l1.length : Int) t255 t256 _ ?side1 ?side2 A32.out).mono ?_); (case side1 => repeat (first | exact (Kd.R_reads' HO_13.out).2.2 | (with_reducible refine Kd.C_alloc ?_ _) | (with_reducible refine Kd.C_drewN ?_ _) | (with_reducible refine Kd.C_drew ?_))); (case side2 => exact (Kd.R_reads' HO_13.out).2.1); rintro e w41 ⟨rfl, hb⟩; refine ⟨_, rfl, ?_⟩; have n0_ := Aside0.mk (Kd.R_below (by (with_reducible repeat (first | apply Kd.R_alloc | apply Kd.R_drewN | apply Kd.R_drew)); exact HO_13.out) hb); have n1_ := Aside0.mk (Kd.R_below (by (with_reducible repeat (first | apply Kd.R_alloc | apply Kd.R_drewN | apply Kd.R_drew)); exact HO_53.out) hb); have n2_ := Aside0.mk (below_step (by repeat (first | (with_reducible first | exact HB.out | apply below_alloc | apply pw_below_drewN | apply below_drew1) | exact HB.out)) hb); clear HO_13; clear HO_53; clear HB; have HO_13 := n0_; have HO_53 := n1_; have HB := n2_; clear n0_ n1_ n2_; (try clear hb); (try clear hb2); (try clear hk); (try clear hi)) | ((with_reducible refine gate_callee (f := 15) rfl ?_); refine goesL_ (some 89) rfl rfl Try.func15 (by kernel_rfl) rfl #[.slice Ao40 x13_2.length co40, .int .i64 (l1.length : Int)] rfl (by (try simp only [List.map_toArray, List.map_cons, List.map_nil]); first | done | rfl | (simp only [List.length_drop, List.length_take]; rfl)) ?_; (with_reducible refine (midpoint_Spread.calls k2 _ _ x13_2 (l1.length : Int) t257 t258 _ ?side1 ?side2 A33.out).mono ?_); (case side1 => repeat (first | exact (Kd.R_reads' HO_13.out).2.2 | (with_reducible refine Kd.C_alloc ?_ _) | (with_reducible refine Kd.C_drewN ?_ _) | (with_reducible refine Kd.C_drew ?_))); (case side2 => exact (Kd.R_reads' HO_13.out).2.1); rintro e w42 ⟨rfl, hb⟩; refine ⟨_, rfl, ?_⟩; have n0_ := Aside0.mk (Kd.R_below (by (with_reducible repeat (first | apply Kd.R_alloc | apply Kd.R_drewN | apply Kd.R_drew)); exact HO_13.out) hb); have n1_ := Aside0.mk (Kd.R_below (by (with_reducible repeat (first | apply Kd.R_alloc | apply Kd.R_drewN | apply Kd.R_drew)); exact HO_53.out) hb); have n2_ := Aside0.mk (below_step (by repeat (first | (with_reducible first | exact HB.out | apply below_alloc | apply pw_below_drewN | apply below_drew1) | exact HB.out)) hb); clear HO_13; clear HO_53; clear HB; have HO_13 := n0_; have HO_53 := n1_; have HB := n2_; clear n0_ n1_ n2_; (try clear hb); (try clear hb2); (try clear hk); (try clear hi)))
                          go_ret
                          exact ⟨by first | rfl | (simp [errW_none, errW_some] <;> rfl) | (simp only [← hji12, ← hji13]; first | rfl | (simp [errW_none, errW_some] <;> rfl)) | (simp [*, errW_none, errW_some] <;> rfl), by repeat (first | (with_reducible first | exact HB.out | apply below_alloc | apply pw_below_drewN | apply below_drew1) | exact HB.out)⟩
                        · rw [if_neg c39] at H
                          exact absurd H (by simp)
                      · rw [if_neg c38] at H
                        exact absurd H (by simp)
                    · rw [if_neg c37] at H
                      exact absurd H (by simp)
                  · rw [if_neg c36] at H
                    exact absurd H (by simp)
                · rw [if_neg c35] at H
                  exact absurd H (by simp)
              · replace c34 := Bool.eq_false_iff.mpr c34
                subst c34
                have H1 : (none) = some r := by rw [if_neg (show ¬ (false = true) by decide)] at H; exact H
                clear H
                have H := H1
                clear H1
                exact absurd H (by simp)

/-- THE ONE PURE STATEMENT of vesperslaw14_MidpointWithin: yours. -/
def vesperslaw14_MidpointWithin.Pure : Prop := ∀ (l0 : List Int) (l1 : List Int) (a2 : Int) (a3 : Int), l0.length ≤ maxLen → l0.length * 8 ≤ 140737488351232 → (∀ x ∈ l0, (Lit.int .i64 x).wf = true) → l1.length ≤ maxLen → l1.length * 8 ≤ 140737488351232 → (∀ x ∈ l1, (Lit.int .i64 x).wf = true) → (Lit.int .i64 a2).wf = true → (Lit.int .i64 a3).wf = true → ∃ k, vesperslaw14_MidpointWithin.f k l0 l1 a2 a3 = some true
theorem vesperslaw14_MidpointWithin.walk (P : vesperslaw14_MidpointWithin.Pure) (a0 : Option Addr) (len0 cap0 : Nat) (z0 : List Int) (a1 : Option Addr) (len1 cap1 : Nat) (z1 : List Int) (a2 : Int) (a3 : Int) (w : World) (w0 : (a0 = none ∧ len0 = 0 ∧ cap0 = 0 ∧ z0 = []) ∨ ∃ x, a0 = some x ∧ len0 ≤ cap0 ∧ cap0 ≤ maxLen ∧ z0.length = cap0 ∧ (∀ i, i < z0.length → w.cell? (x.add i) = some (.int .i64 (z0.getD i 0))) ∧ ∀ n ∈ z0, (Lit.int .i64 n).wf = true) (y0 : len0 * 8 ≤ 140737488351232) (w1 : (a1 = none ∧ len1 = 0 ∧ cap1 = 0 ∧ z1 = []) ∨ ∃ x, a1 = some x ∧ len1 ≤ cap1 ∧ cap1 ≤ maxLen ∧ z1.length = cap1 ∧ (∀ i, i < z1.length → w.cell? (x.add i) = some (.int .i64 (z1.getD i 0))) ∧ ∀ n ∈ z1, (Lit.int .i64 n).wf = true) (y1 : len1 * 8 ≤ 140737488351232) (w2 : (Lit.int .i64 a2).wf = true) (w3 : (Lit.int .i64 a3).wf = true) :
    Calls Try.prog 7 #[.slice a0 len0 cap0, .slice a1 len1 cap1, .int .i64 a2, .int .i64 a3] w fun e w' => e = .returned (.bool true) ∧ Below w.heap.size w w' := by
  obtain ⟨l0, rfl, hr0, hm0, hw0, hc0⟩ := ReadsInt.ofRowC w0
  obtain ⟨l1, rfl, hr1, hm1, hw1, hc1⟩ := ReadsInt.ofRowC w1
  obtain ⟨k, h⟩ := P l0 l1 a2 a3 hm0 y0 hw0 hm1 y1 hw1 w2 w3
  refine (vesperslaw14_MidpointWithin.calls k _ _ l0 _ _ l1 a2 a3 true w (Kd.C_of_reads (d := (0 : Int)) (h1 := fun _ => rfl) hr0) hc0 (Kd.C_of_reads (d := (0 : Int)) (h1 := fun _ => rfl) hr1) hc1 h).mono ?_
  rintro e w' ⟨rfl, hd⟩
  exact ⟨rfl, hd⟩

/-! ### vesperslaw14_MidpointSpread: function 8 -/
mutual
def vesperslaw14_MidpointSpread.j0 : Nat → List Int → Int → Bool → Bool → Option (Bool)
  | 0, _, _, _, _ => none
  | k + 1, x0, x1, x5, x30 => if x30 = true then (some x5) else (if (wrap64 ((wrap64 (Int.tdiv (wrap64 ((x0.length : Int) - 1)) 2)) + 1)) = 0 then (none) else ((vesperslaw14_some.f k x0).bind fun t260 => ((midpoint_Trim.f t260 (Int.tmod (wrap64 (x1)) (wrap64 ((wrap64 (Int.tdiv (wrap64 ((x0.length : Int) - 1)) 2)) + 1)))).bind fun bt263 => ((midpoint_Spread.f k t260 (Int.tmod (wrap64 (x1)) (wrap64 ((wrap64 (Int.tdiv (wrap64 ((x0.length : Int) - 1)) 2)) + 1)))).bind fun bt267 => ((midpoint_Of.f k t260 (Int.tmod (wrap64 (x1)) (wrap64 ((wrap64 (Int.tdiv (wrap64 ((x0.length : Int) - 1)) 2)) + 1)))).bind fun bt269 => (if bt263.2 = 0 then (if bt267.2 = 0 then (if bt269.2 = 0 then (vesperslaw14_MidpointSpread.j1 k x5 (Int.tmod (wrap64 (x1)) (wrap64 ((wrap64 (Int.tdiv (wrap64 ((x0.length : Int) - 1)) 2)) + 1))) t260 bt263.1 bt267.1 bt269.1 ((bt263.1.length : Int) == 0)) else (vesperslaw14_MidpointSpread.j1 k x5 (Int.tmod (wrap64 (x1)) (wrap64 ((wrap64 (Int.tdiv (wrap64 ((x0.length : Int) - 1)) 2)) + 1))) t260 bt263.1 bt267.1 bt269.1 true)) else (vesperslaw14_MidpointSpread.j1 k x5 (Int.tmod (wrap64 (x1)) (wrap64 ((wrap64 (Int.tdiv (wrap64 ((x0.length : Int) - 1)) 2)) + 1))) t260 bt263.1 bt267.1 bt269.1 true)) else (vesperslaw14_MidpointSpread.j1 k x5 (Int.tmod (wrap64 (x1)) (wrap64 ((wrap64 (Int.tdiv (wrap64 ((x0.length : Int) - 1)) 2)) + 1))) t260 bt263.1 bt267.1 bt269.1 true)))))))
def vesperslaw14_MidpointSpread.j1 : Nat → Bool → Int → List Int → List Int → Int → Int → Bool → Option (Bool)
  | 0, _, _, _, _, _, _, _ => none
  | k + 1, x5, x6, x7, x8, x10, x12, x74 => if x74 = true then (none) else (if 0 < (x8.length : Int) then (if 0 ≤ (wrap64 ((x8.length : Int) - 1)) then (if (wrap64 ((x8.length : Int) - 1)) < (x8.length : Int) then (if x10 = (wrap64 ((rd x8 (wrap64 ((x8.length : Int) - 1))) - (rd x8 0))) then (if x12 < (rd x8 0) then (none) else (if x12 > (rd x8 (wrap64 ((x8.length : Int) - 1))) then (none) else (if (wrap64 (2 * x12)) > (wrap64 ((rd x8 0) + (rd x8 (wrap64 ((x8.length : Int) - 1))))) then (none) else (if (wrap64 (2 * x12)) < (wrap64 ((wrap64 ((rd x8 0) + (rd x8 (wrap64 ((x8.length : Int) - 1))))) - 1)) then (none) else ((midpoint_Spread.f k x7 (wrap64 (x6 + 1))).bind fun bt273 => (if x5 = true then (if ((bt273.2 == 0) == (decide ((x7.length : Int) ≥ (wrap64 ((wrap64 (2 * x6)) + 3))))) = true then (if bt273.2 = 0 then (some (decide (bt273.1 ≤ x10))) else (some true)) else (none)) else (none))))))) else (none)) else (none)) else (none)) else (none))
end
def vesperslaw14_MidpointSpread.f (k : Nat) (l0 : List Int) (a1 : Int) : Option (Bool) := (vesperslaw14_alive.f k).bind fun t259 => (if (l0.length : Int) = 0 then (vesperslaw14_MidpointSpread.j0 k l0 a1 t259 true) else (if (l0.length : Int) > 30 then (vesperslaw14_MidpointSpread.j0 k l0 a1 t259 true) else (vesperslaw14_MidpointSpread.j0 k l0 a1 t259 (!t259))))
theorem vesperslaw14_MidpointSpread.mono_l : ∀ k, (∀ y0 y1 y2 y3, LeO (vesperslaw14_MidpointSpread.j0 k y0 y1 y2 y3) (vesperslaw14_MidpointSpread.j0 (k + 1) y0 y1 y2 y3)) ∧ (∀ y0 y1 y2 y3 y4 y5 y6, LeO (vesperslaw14_MidpointSpread.j1 k y0 y1 y2 y3 y4 y5 y6) (vesperslaw14_MidpointSpread.j1 (k + 1) y0 y1 y2 y3 y4 y5 y6))
  | 0 => ⟨fun _ _ _ _ r h => by simp [vesperslaw14_MidpointSpread.j0] at h, fun _ _ _ _ _ _ _ r h => by simp [vesperslaw14_MidpointSpread.j1] at h⟩
  | k + 1 => by
    obtain ⟨ih0, ih1⟩ := vesperslaw14_MidpointSpread.mono_l k
    refine ⟨?_, ?_⟩
    · intro y0 y1 y2 y3
      unfold vesperslaw14_MidpointSpread.j0
      repeat' first
      | (with_reducible exact ih0 _ _ _ _)
      | (with_reducible exact ih1 _ _ _ _ _ _ _)
      | (with_reducible exact midpoint_Of.mono _ _ _)
      | (with_reducible exact midpoint_Spread.mono _ _ _)
      | (with_reducible exact vesperslaw14_alive.mono _)
      | (with_reducible exact vesperslaw14_some.mono _ _)
      | (with_reducible exact LeO.refl _)
      | (with_reducible exact LeO.none _)
      | (with_reducible refine LeO.ite ?_ ?_)
      | (with_reducible refine LeO.bind ?_ (fun _ => ?_))
      | exact ih0 _ _ _ _
      | exact ih1 _ _ _ _ _ _ _
      | exact midpoint_Of.mono _ _ _
      | exact midpoint_Spread.mono _ _ _
      | exact vesperslaw14_alive.mono _
      | exact vesperslaw14_some.mono _ _
      | exact LeO.none _
      | refine LeO.ite ?_ ?_
      | refine LeO.bind ?_ (fun _ => ?_)
    · intro y0 y1 y2 y3 y4 y5 y6
      unfold vesperslaw14_MidpointSpread.j1
      repeat' first
      | (with_reducible exact ih0 _ _ _ _)
      | (with_reducible exact ih1 _ _ _ _ _ _ _)
      | (with_reducible exact midpoint_Of.mono _ _ _)
      | (with_reducible exact midpoint_Spread.mono _ _ _)
      | (with_reducible exact vesperslaw14_alive.mono _)
      | (with_reducible exact vesperslaw14_some.mono _ _)
      | (with_reducible exact LeO.refl _)
      | (with_reducible exact LeO.none _)
      | (with_reducible refine LeO.ite ?_ ?_)
      | (with_reducible refine LeO.bind ?_ (fun _ => ?_))
      | exact ih0 _ _ _ _
      | exact ih1 _ _ _ _ _ _ _
      | exact midpoint_Of.mono _ _ _
      | exact midpoint_Spread.mono _ _ _
      | exact vesperslaw14_alive.mono _
      | exact vesperslaw14_some.mono _ _
      | exact LeO.none _
      | refine LeO.ite ?_ ?_
      | refine LeO.bind ?_ (fun _ => ?_)
theorem vesperslaw14_MidpointSpread.mono : ∀ a0 a1 k, LeO (vesperslaw14_MidpointSpread.f k a0 a1) (vesperslaw14_MidpointSpread.f (k + 1) a0 a1) := by
  intro a0 a1 k
  obtain ⟨ih0, ih1⟩ := vesperslaw14_MidpointSpread.mono_l k
  unfold vesperslaw14_MidpointSpread.f
  repeat' first
      | (with_reducible exact ih0 _ _ _ _)
      | (with_reducible exact ih1 _ _ _ _ _ _ _)
      | (with_reducible exact midpoint_Of.mono _ _ _)
      | (with_reducible exact midpoint_Spread.mono _ _ _)
      | (with_reducible exact vesperslaw14_alive.mono _)
      | (with_reducible exact vesperslaw14_some.mono _ _)
      | (with_reducible exact LeO.refl _)
      | (with_reducible exact LeO.none _)
      | (with_reducible refine LeO.ite ?_ ?_)
      | (with_reducible refine LeO.bind ?_ (fun _ => ?_))
      | exact ih0 _ _ _ _
      | exact ih1 _ _ _ _ _ _ _
      | exact midpoint_Of.mono _ _ _
      | exact midpoint_Spread.mono _ _ _
      | exact vesperslaw14_alive.mono _
      | exact vesperslaw14_some.mono _ _
      | exact LeO.none _
      | refine LeO.ite ?_ ?_
      | refine LeO.bind ?_ (fun _ => ?_)
set_option maxHeartbeats 8000000 in
set_option maxRecDepth 100000 in
theorem vesperslaw14_MidpointSpread.calls (k : Nat) (A0 : Option Addr) (c0 : Nat) (l0 : List Int) (a1 : Int) (r : Bool) (w : World) (hr0 : Kd.C (Kd.int .i64) w A0 l0.length l0) (hc0 : l0.length ≤ c0) (h : vesperslaw14_MidpointSpread.f k l0 a1 = some r) :
    Calls Try.prog 8 #[.slice A0 l0.length c0, .int .u8 a1] w fun e w' => e = .returned (.bool r) ∧ Below w.heap.size w w' := by
  have HR0 := Aside0.mk hr0
  have HC0 := Aside0.mk hc0
  clear hr0 hc0
  have HB := Aside0.mk (Below.refl w.heap.size w)
  have H : ((vesperslaw14_alive.f k).bind fun t259 => (if (l0.length : Int) = 0 then (vesperslaw14_MidpointSpread.j0 k l0 a1 t259 true) else (if (l0.length : Int) > 30 then (vesperslaw14_MidpointSpread.j0 k l0 a1 t259 true) else (vesperslaw14_MidpointSpread.j0 k l0 a1 t259 (!t259))))) = some r := h
  clear h
  replace H := Option.bind_eq_some_iff.mp H
  obtain ⟨t259, A30, H⟩ := H
  replace H : (if (l0.length : Int) = 0 then (vesperslaw14_MidpointSpread.j0 k l0 a1 t259 true) else (if (l0.length : Int) > 30 then (vesperslaw14_MidpointSpread.j0 k l0 a1 t259 true) else (vesperslaw14_MidpointSpread.j0 k l0 a1 t259 (!t259)))) = some r := H
  have A3 := Aside0.mk A30
  clear A30
  have HC4 := Aside0.mk H
  clear H
  go_enter Try.func8, Try.ntmps8
  go_upto_region 2 with (first | (go_at_call 9; (with_reducible refine (vesperslaw14_alive.calls k  t259 _ A3.out).mono ?_); rintro e w5 ⟨rfl, hb⟩; have n0_ := Aside0.mk (below_step (by repeat (first | (with_reducible first | exact HB.out | apply below_alloc | apply pw_below_drewN | apply below_drew1) | exact HB.out)) hb); clear HB; have HB := n0_; clear n0_; (try clear hb); (try clear hb2); (try clear hk); (try clear hi)))
  repeat (go_quiet (first | (go_at_call 9; (with_reducible refine (vesperslaw14_alive.calls k  t259 _ A3.out).mono ?_); rintro e w5 ⟨rfl, hb⟩; have n0_ := Aside0.mk (below_step (by repeat (first | (with_reducible first | exact HB.out | apply below_alloc | apply pw_below_drewN | apply below_drew1) | exact HB.out)) hb); clear HB; have HB := n0_; clear n0_; (try clear hb); (try clear hb2); (try clear hk); (try clear hi))); go_upto_region 2 with (first | (go_at_call 9; (with_reducible refine (vesperslaw14_alive.calls k  t259 _ A3.out).mono ?_); rintro e w5 ⟨rfl, hb⟩; have n0_ := Aside0.mk (below_step (by repeat (first | (with_reducible first | exact HB.out | apply below_alloc | apply pw_below_drewN | apply below_drew1) | exact HB.out)) hb); clear HB; have HB := n0_; clear n0_; (try clear hb); (try clear hb2); (try clear hk); (try clear hi))))
  (try simp only [Act.put, List.setIfInBounds_toArray, List.set_cons_zero, List.set_cons_succ])
  go_cut [30] (fun v30 wc => ∃ (kq : Nat) (x30_3 : Bool), v30 = .bool x30_3 ∧ Aside0 (vesperslaw14_MidpointSpread.j0 kq l0 a1 t259 x30_3 = some r) ∧ Aside0 (kq ≤ k) ∧ Aside0 (Below w.heap.size w wc))
  case first =>
    have H := HC4.out
    clear HC4
    by_cases c6 : (l0.length : Int) = 0
    · rw [if_pos c6] at H
      have c6b0 : ((l0.length : Int) == 0) = true := beq_iff_eq.mpr c6
      have c6b1 : ((l0.length : Int) != 0) = false := bne_eq_false_iff_eq.mpr c6
      clear c6
      (first | rw [c6b0] | (simp only [i64_w, i32_w]; rw [c6b0]) | skip)
      have H' := Aside0.mk H
      clear H
      go_wp2
      repeat (go_quiet (fail); try go_wp2)
      go_meet
      case rel => exact ⟨_, (true), (by first | rfl | (simp; done) | (simp [*]; done)), H', ⟨by first | omega | exact Nat.le_refl _⟩, ⟨by repeat (first | (with_reducible first | exact HB.out | apply below_alloc | apply pw_below_drewN | apply below_drew1) | exact HB.out)⟩⟩
    · rw [if_neg c6] at H
      have c6b0 : ((l0.length : Int) == 0) = false := beq_eq_false_iff_ne.mpr c6
      have c6b1 : ((l0.length : Int) != 0) = true := bne_iff_ne.mpr c6
      have c6b2 : ¬ (l0 = []) := fun h_ => c6 (by rw [h_]; rfl)
      (first | rw [c6b0] | (simp only [i64_w, i32_w]; rw [c6b0]) | skip)
      by_cases c7 : (l0.length : Int) > 30
      · rw [if_pos c7] at H
        have c7b0 : decide (30 < (l0.length : Int)) = true := decide_eq_true c7
        have c7b1 : decide (30 < l0.length) = true := decide_eq_true (by omega)
        clear c7
        have H' := Aside0.mk H
        clear H
        go_wp2
        repeat (go_quiet (fail); try go_wp2)
        go_meet
        case rel => exact ⟨_, (true), (by first | rfl | (simp; done) | (simp [*]; done)), H', ⟨by first | omega | exact Nat.le_refl _⟩, ⟨by repeat (first | (with_reducible first | exact HB.out | apply below_alloc | apply pw_below_drewN | apply below_drew1) | exact HB.out)⟩⟩
      · rw [if_neg c7] at H
        have c7b0 : decide (30 < (l0.length : Int)) = false := decide_eq_false c7
        have c7b1 : decide (30 < l0.length) = false := decide_eq_false (by omega)
        clear c7
        have H' := Aside0.mk H
        clear H
        go_wp2
        repeat (go_quiet (fail); try go_wp2)
        go_meet
        case rel => exact ⟨_, (!t259), (by first | rfl | (simp; done) | (simp [*]; done)), H', ⟨by first | omega | exact Nat.le_refl _⟩, ⟨by repeat (first | (with_reducible first | exact HB.out | apply below_alloc | apply pw_below_drewN | apply below_drew1) | exact HB.out)⟩⟩
  case rest =>
    clear HC4
    try clear p2
    try clear c6
    try clear c6b0
    try clear c6b1
    try clear c6b2
    try clear c7
    try clear c7b0
    try clear c7b1
    obtain ⟨kq, x30_3, rfl, HA, HJ3, HB⟩ := hcut
    cases kq with
    | zero => exact absurd HA.out (by simp [vesperslaw14_MidpointSpread.j0])
    | succ kj3 =>
      have H := HA.out
      clear HA
      simp only [vesperslaw14_MidpointSpread.j0] at H
      by_cases c8 : x30_3 = true
      · subst c8
        have H1 : (some t259) = some r := by rw [if_pos rfl] at H; exact H
        clear H
        have H := H1
        clear H1
        obtain rfl := Option.some.inj H
        go_wp2
        repeat (go_quiet (fail); try go_wp2)
        go_ret
        exact ⟨by first | rfl | (simp [errW_none, errW_some] <;> rfl) | (simp [*, errW_none, errW_some] <;> rfl), by repeat (first | (with_reducible first | exact HB.out | apply below_alloc | apply pw_below_drewN | apply below_drew1) | exact HB.out)⟩
      · replace c8 := Bool.eq_false_iff.mpr c8
        subst c8
        have H1 : (if (wrap64 ((wrap64 (Int.tdiv (wrap64 ((l0.length : Int) - 1)) 2)) + 1)) = 0 then (none) else ((vesperslaw14_some.f kj3 l0).bind fun t260 => ((midpoint_Trim.f t260 (Int.tmod (wrap64 (a1)) (wrap64 ((wrap64 (Int.tdiv (wrap64 ((l0.length : Int) - 1)) 2)) + 1)))).bind fun bt263 => ((midpoint_Spread.f kj3 t260 (Int.tmod (wrap64 (a1)) (wrap64 ((wrap64 (Int.tdiv (wrap64 ((l0.length : Int) - 1)) 2)) + 1)))).bind fun bt267 => ((midpoint_Of.f kj3 t260 (Int.tmod (wrap64 (a1)) (wrap64 ((wrap64 (Int.tdiv (wrap64 ((l0.length : Int) - 1)) 2)) + 1)))).bind fun bt269 => (if bt263.2 = 0 then (if bt267.2 = 0 then (if bt269.2 = 0 then (vesperslaw14_MidpointSpread.j1 kj3 t259 (Int.tmod (wrap64 (a1)) (wrap64 ((wrap64 (Int.tdiv (wrap64 ((l0.length : Int) - 1)) 2)) + 1))) t260 bt263.1 bt267.1 bt269.1 ((bt263.1.length : Int) == 0)) else (vesperslaw14_MidpointSpread.j1 kj3 t259 (Int.tmod (wrap64 (a1)) (wrap64 ((wrap64 (Int.tdiv (wrap64 ((l0.length : Int) - 1)) 2)) + 1))) t260 bt263.1 bt267.1 bt269.1 true)) else (vesperslaw14_MidpointSpread.j1 kj3 t259 (Int.tmod (wrap64 (a1)) (wrap64 ((wrap64 (Int.tdiv (wrap64 ((l0.length : Int) - 1)) 2)) + 1))) t260 bt263.1 bt267.1 bt269.1 true)) else (vesperslaw14_MidpointSpread.j1 kj3 t259 (Int.tmod (wrap64 (a1)) (wrap64 ((wrap64 (Int.tdiv (wrap64 ((l0.length : Int) - 1)) 2)) + 1))) t260 bt263.1 bt267.1 bt269.1 true))))))) = some r := by rw [if_neg (show ¬ (false = true) by decide)] at H; exact H
        clear H
        have H := H1
        clear H1
        by_cases c9 : (wrap64 ((wrap64 (Int.tdiv (wrap64 ((l0.length : Int) - 1)) 2)) + 1)) = 0
        · rw [if_pos c9] at H
          exact absurd H (by simp)
        · rw [if_neg c9] at H
          have c9b0 : ((wrap64 ((wrap64 (Int.tdiv (wrap64 ((l0.length : Int) - 1)) 2)) + 1)) == 0) = false := beq_eq_false_iff_ne.mpr c9
          have c9b1 : ((wrap64 ((wrap64 (Int.tdiv (wrap64 ((l0.length : Int) - 1)) 2)) + 1)) != 0) = true := bne_iff_ne.mpr c9
          replace H := Option.bind_eq_some_iff.mp H
          obtain ⟨t260, A100, H⟩ := H
          replace H : ((midpoint_Trim.f t260 (Int.tmod (wrap64 (a1)) (wrap64 ((wrap64 (Int.tdiv (wrap64 ((l0.length : Int) - 1)) 2)) + 1)))).bind fun bt263 => ((midpoint_Spread.f kj3 t260 (Int.tmod (wrap64 (a1)) (wrap64 ((wrap64 (Int.tdiv (wrap64 ((l0.length : Int) - 1)) 2)) + 1)))).bind fun bt267 => ((midpoint_Of.f kj3 t260 (Int.tmod (wrap64 (a1)) (wrap64 ((wrap64 (Int.tdiv (wrap64 ((l0.length : Int) - 1)) 2)) + 1)))).bind fun bt269 => (if bt263.2 = 0 then (if bt267.2 = 0 then (if bt269.2 = 0 then (vesperslaw14_MidpointSpread.j1 kj3 t259 (Int.tmod (wrap64 (a1)) (wrap64 ((wrap64 (Int.tdiv (wrap64 ((l0.length : Int) - 1)) 2)) + 1))) t260 bt263.1 bt267.1 bt269.1 ((bt263.1.length : Int) == 0)) else (vesperslaw14_MidpointSpread.j1 kj3 t259 (Int.tmod (wrap64 (a1)) (wrap64 ((wrap64 (Int.tdiv (wrap64 ((l0.length : Int) - 1)) 2)) + 1))) t260 bt263.1 bt267.1 bt269.1 true)) else (vesperslaw14_MidpointSpread.j1 kj3 t259 (Int.tmod (wrap64 (a1)) (wrap64 ((wrap64 (Int.tdiv (wrap64 ((l0.length : Int) - 1)) 2)) + 1))) t260 bt263.1 bt267.1 bt269.1 true)) else (vesperslaw14_MidpointSpread.j1 kj3 t259 (Int.tmod (wrap64 (a1)) (wrap64 ((wrap64 (Int.tdiv (wrap64 ((l0.length : Int) - 1)) 2)) + 1))) t260 bt263.1 bt267.1 bt269.1 true))))) = some r := H
          have A10 := Aside0.mk A100
          clear A100
          replace H := Option.bind_eq_some_iff.mp H
          obtain ⟨⟨t263, t264⟩, A110, H⟩ := H
          replace H : ((midpoint_Spread.f kj3 t260 (Int.tmod (wrap64 (a1)) (wrap64 ((wrap64 (Int.tdiv (wrap64 ((l0.length : Int) - 1)) 2)) + 1)))).bind fun bt267 => ((midpoint_Of.f kj3 t260 (Int.tmod (wrap64 (a1)) (wrap64 ((wrap64 (Int.tdiv (wrap64 ((l0.length : Int) - 1)) 2)) + 1)))).bind fun bt269 => (if t264 = 0 then (if bt267.2 = 0 then (if bt269.2 = 0 then (vesperslaw14_MidpointSpread.j1 kj3 t259 (Int.tmod (wrap64 (a1)) (wrap64 ((wrap64 (Int.tdiv (wrap64 ((l0.length : Int) - 1)) 2)) + 1))) t260 t263 bt267.1 bt269.1 ((t263.length : Int) == 0)) else (vesperslaw14_MidpointSpread.j1 kj3 t259 (Int.tmod (wrap64 (a1)) (wrap64 ((wrap64 (Int.tdiv (wrap64 ((l0.length : Int) - 1)) 2)) + 1))) t260 t263 bt267.1 bt269.1 true)) else (vesperslaw14_MidpointSpread.j1 kj3 t259 (Int.tmod (wrap64 (a1)) (wrap64 ((wrap64 (Int.tdiv (wrap64 ((l0.length : Int) - 1)) 2)) + 1))) t260 t263 bt267.1 bt269.1 true)) else (vesperslaw14_MidpointSpread.j1 kj3 t259 (Int.tmod (wrap64 (a1)) (wrap64 ((wrap64 (Int.tdiv (wrap64 ((l0.length : Int) - 1)) 2)) + 1))) t260 t263 bt267.1 bt269.1 true)))) = some r := H
          have A11 := Aside0.mk A110
          clear A110
          replace H := Option.bind_eq_some_iff.mp H
          obtain ⟨⟨t267, t268⟩, A120, H⟩ := H
          replace H : ((midpoint_Of.f kj3 t260 (Int.tmod (wrap64 (a1)) (wrap64 ((wrap64 (Int.tdiv (wrap64 ((l0.length : Int) - 1)) 2)) + 1)))).bind fun bt269 => (if t264 = 0 then (if t268 = 0 then (if bt269.2 = 0 then (vesperslaw14_MidpointSpread.j1 kj3 t259 (Int.tmod (wrap64 (a1)) (wrap64 ((wrap64 (Int.tdiv (wrap64 ((l0.length : Int) - 1)) 2)) + 1))) t260 t263 t267 bt269.1 ((t263.length : Int) == 0)) else (vesperslaw14_MidpointSpread.j1 kj3 t259 (Int.tmod (wrap64 (a1)) (wrap64 ((wrap64 (Int.tdiv (wrap64 ((l0.length : Int) - 1)) 2)) + 1))) t260 t263 t267 bt269.1 true)) else (vesperslaw14_MidpointSpread.j1 kj3 t259 (Int.tmod (wrap64 (a1)) (wrap64 ((wrap64 (Int.tdiv (wrap64 ((l0.length : Int) - 1)) 2)) + 1))) t260 t263 t267 bt269.1 true)) else (vesperslaw14_MidpointSpread.j1 kj3 t259 (Int.tmod (wrap64 (a1)) (wrap64 ((wrap64 (Int.tdiv (wrap64 ((l0.length : Int) - 1)) 2)) + 1))) t260 t263 t267 bt269.1 true))) = some r := H
          have A12 := Aside0.mk A120
          clear A120
          replace H := Option.bind_eq_some_iff.mp H
          obtain ⟨⟨t269, t270⟩, A130, H⟩ := H
          replace H : (if t264 = 0 then (if t268 = 0 then (if t270 = 0 then (vesperslaw14_MidpointSpread.j1 kj3 t259 (Int.tmod (wrap64 (a1)) (wrap64 ((wrap64 (Int.tdiv (wrap64 ((l0.length : Int) - 1)) 2)) + 1))) t260 t263 t267 t269 ((t263.length : Int) == 0)) else (vesperslaw14_MidpointSpread.j1 kj3 t259 (Int.tmod (wrap64 (a1)) (wrap64 ((wrap64 (Int.tdiv (wrap64 ((l0.length : Int) - 1)) 2)) + 1))) t260 t263 t267 t269 true)) else (vesperslaw14_MidpointSpread.j1 kj3 t259 (Int.tmod (wrap64 (a1)) (wrap64 ((wrap64 (Int.tdiv (wrap64 ((l0.length : Int) - 1)) 2)) + 1))) t260 t263 t267 t269 true)) else (vesperslaw14_MidpointSpread.j1 kj3 t259 (Int.tmod (wrap64 (a1)) (wrap64 ((wrap64 (Int.tdiv (wrap64 ((l0.length : Int) - 1)) 2)) + 1))) t260 t263 t267 t269 true)) = some r := H
          have A13 := Aside0.mk A130
          clear A130
          have HC14 := Aside0.mk H
          clear H
          go_upto_region 9 with (first | (go_at_call 10; (with_reducible refine (vesperslaw14_some.calls kj3 _ _ l0 t260 _ ?side1 ?side2 A10.out).mono ?_); (case side1 => repeat (first | exact (Kd.C_below HR0.out HB.out) | (with_reducible refine Kd.C_alloc ?_ _) | (with_reducible refine Kd.C_drewN ?_ _) | (with_reducible refine Kd.C_drew ?_))); (case side2 => exact HC0.out); rintro e w15 ⟨v261, rfl, ho0, hb⟩; have n0_ := Aside0.mk (Kd.R_lower ho0 (below_size (by repeat (first | (with_reducible first | exact HB.out | apply below_alloc | apply pw_below_drewN | apply below_drew1) | exact HB.out)))); have n1_ := Aside0.mk (below_step (by repeat (first | (with_reducible first | exact HB.out | apply below_alloc | apply pw_below_drewN | apply below_drew1) | exact HB.out)) hb); clear HB; have HO262 := n0_; have HB := n1_; clear n0_ n1_; (try clear hb); (try clear hb2); (try clear hk); (try clear hi); (try clear ho0); obtain ⟨Ao16, co16, eo16⟩ := Kd.R_slice HO262.out; subst eo16) | (go_at_call 12; (with_reducible refine (midpoint_Trim.calls _ _ t260 (Int.tmod (wrap64 (a1)) (wrap64 ((wrap64 (Int.tdiv (wrap64 ((l0.length : Int) - 1)) 2)) + 1))) t263 t264 _ ?side1 ?side2 A11.out).mono ?_); (case side1 => repeat (first | exact (Kd.R_reads' HO262.out).2.2 | (with_reducible refine Kd.C_alloc ?_ _) | (with_reducible refine Kd.C_drewN ?_ _) | (with_reducible refine Kd.C_drew ?_))); (case side2 => exact (Kd.R_reads' HO262.out).2.1); rintro e w17 ⟨v265, rfl, ho0, hb⟩; have n0_ := Aside0.mk (Kd.R_elder' (by (with_reducible repeat (first | apply Kd.R_alloc | apply Kd.R_drewN | apply Kd.R_drew)); exact HO262.out) (Kd.R_base ho0) hb); have n1_ := Aside0.mk (Kd.R_lower (Kd.R_new' ho0 (Kd.R_lt (by (with_reducible repeat (first | apply Kd.R_alloc | apply Kd.R_drewN | apply Kd.R_drew)); exact HO262.out))) (below_size (by repeat (first | (with_reducible first | exact HB.out | apply below_alloc | apply pw_below_drewN | apply below_drew1) | exact HB.out)))); have n2_ := Aside0.mk (below_step (by repeat (first | (with_reducible first | exact HB.out | apply below_alloc | apply pw_below_drewN | apply below_drew1) | exact HB.out)) hb); clear HO262; clear HB; have HO262 := n0_; have HO266 := n1_; have HB := n2_; clear n0_ n1_ n2_; (try clear hb); (try clear hb2); (try clear hk); (try clear hi); (try clear ho0)) | (go_at_call 15; (with_reducible refine (midpoint_Spread.calls kj3 _ _ t260 (Int.tmod (wrap64 (a1)) (wrap64 ((wrap64 (Int.tdiv (wrap64 ((l0.length : Int) - 1)) 2)) + 1))) t267 t268 _ ?side1 ?side2 A12.out).mono ?_); (case side1 => repeat (first | exact (Kd.R_reads' HO262.out).2.2 | (with_reducible refine Kd.C_alloc ?_ _) | (with_reducible refine Kd.C_drewN ?_ _) | (with_reducible refine Kd.C_drew ?_))); (case side2 => exact (Kd.R_reads' HO262.out).2.1); rintro e w18 ⟨rfl, hb⟩; have n0_ := Aside0.mk (Kd.R_below (by (with_reducible repeat (first | apply Kd.R_alloc | apply Kd.R_drewN | apply Kd.R_drew)); exact HO262.out) hb); have n1_ := Aside0.mk (Kd.R_below (by (with_reducible repeat (first | apply Kd.R_alloc | apply Kd.R_drewN | apply Kd.R_drew)); exact HO266.out) hb); have n2_ := Aside0.mk (below_step (by repeat (first | (with_reducible first | exact HB.out | apply below_alloc | apply pw_below_drewN | apply below_drew1) | exact HB.out)) hb); clear HO262; clear HO266; clear HB; have HO262 := n0_; have HO266 := n1_; have HB := n2_; clear n0_ n1_ n2_; (try clear hb); (try clear hb2); (try clear hk); (try clear hi)) | (go_at_call 11; (with_reducible refine (midpoint_Of.calls kj3 _ _ t260 (Int.tmod (wrap64 (a1)) (wrap64 ((wrap64 (Int.tdiv (wrap64 ((l0.length : Int) - 1)) 2)) + 1))) t269 t270 _ ?side1 ?side2 A13.out).mono ?_); (case side1 => repeat (first | exact (Kd.R_reads' HO262.out).2.2 | (with_reducible refine Kd.C_alloc ?_ _) | (with_reducible refine Kd.C_drewN ?_ _) | (with_reducible refine Kd.C_drew ?_))); (case side2 => exact (Kd.R_reads' HO262.out).2.1); rintro e w19 ⟨rfl, hb⟩; have n0_ := Aside0.mk (Kd.R_below (by (with_reducible repeat (first | apply Kd.R_alloc | apply Kd.R_drewN | apply Kd.R_drew)); exact HO262.out) hb); have n1_ := Aside0.mk (Kd.R_below (by (with_reducible repeat (first | apply Kd.R_alloc | apply Kd.R_drewN | apply Kd.R_drew)); exact HO266.out) hb); have n2_ := Aside0.mk (below_step (by repeat (first | (with_reducible first | exact HB.out | apply below_alloc | apply pw_below_drewN | apply below_drew1) | exact HB.out)) hb); clear HO262; clear HO266; clear HB; have HO262 := n0_; have HO266 := n1_; have HB := n2_; clear n0_ n1_ n2_; (try clear hb); (try clear hb2); (try clear hk); (try clear hi)))
          repeat (go_quiet (first | (go_at_call 10; (with_reducible refine (vesperslaw14_some.calls kj3 _ _ l0 t260 _ ?side1 ?side2 A10.out).mono ?_); (case side1 => repeat (first | exact (Kd.C_below HR0.out HB.out) | (with_reducible refine Kd.C_alloc ?_ _) | (with_reducible refine Kd.C_drewN ?_ _) | (with_reducible refine Kd.C_drew ?_))); (case side2 => exact HC0.out); rintro e w15 ⟨v261, rfl, ho0, hb⟩; have n0_ := Aside0.mk (Kd.R_lower ho0 (below_size (by repeat (first | (with_reducible first | exact HB.out | apply below_alloc | apply pw_below_drewN | apply below_drew1) | exact HB.out)))); have n1_ := Aside0.mk (below_step (by repeat (first | (with_reducible first | exact HB.out | apply below_alloc | apply pw_below_drewN | apply below_drew1) | exact HB.out)) hb); clear HB; have HO262 := n0_; have HB := n1_; clear n0_ n1_; (try clear hb); (try clear hb2); (try clear hk); (try clear hi); (try clear ho0); obtain ⟨Ao16, co16, eo16⟩ := Kd.R_slice HO262.out; subst eo16) | (go_at_call 12; (with_reducible refine (midpoint_Trim.calls _ _ t260 (Int.tmod (wrap64 (a1)) (wrap64 ((wrap64 (Int.tdiv (wrap64 ((l0.length : Int) - 1)) 2)) + 1))) t263 t264 _ ?side1 ?side2 A11.out).mono ?_); (case side1 => repeat (first | exact (Kd.R_reads' HO262.out).2.2 | (with_reducible refine Kd.C_alloc ?_ _) | (with_reducible refine Kd.C_drewN ?_ _) | (with_reducible refine Kd.C_drew ?_))); (case side2 => exact (Kd.R_reads' HO262.out).2.1); rintro e w17 ⟨v265, rfl, ho0, hb⟩; have n0_ := Aside0.mk (Kd.R_elder' (by (with_reducible repeat (first | apply Kd.R_alloc | apply Kd.R_drewN | apply Kd.R_drew)); exact HO262.out) (Kd.R_base ho0) hb); have n1_ := Aside0.mk (Kd.R_lower (Kd.R_new' ho0 (Kd.R_lt (by (with_reducible repeat (first | apply Kd.R_alloc | apply Kd.R_drewN | apply Kd.R_drew)); exact HO262.out))) (below_size (by repeat (first | (with_reducible first | exact HB.out | apply below_alloc | apply pw_below_drewN | apply below_drew1) | exact HB.out)))); have n2_ := Aside0.mk (below_step (by repeat (first | (with_reducible first | exact HB.out | apply below_alloc | apply pw_below_drewN | apply below_drew1) | exact HB.out)) hb); clear HO262; clear HB; have HO262 := n0_; have HO266 := n1_; have HB := n2_; clear n0_ n1_ n2_; (try clear hb); (try clear hb2); (try clear hk); (try clear hi); (try clear ho0)) | (go_at_call 15; (with_reducible refine (midpoint_Spread.calls kj3 _ _ t260 (Int.tmod (wrap64 (a1)) (wrap64 ((wrap64 (Int.tdiv (wrap64 ((l0.length : Int) - 1)) 2)) + 1))) t267 t268 _ ?side1 ?side2 A12.out).mono ?_); (case side1 => repeat (first | exact (Kd.R_reads' HO262.out).2.2 | (with_reducible refine Kd.C_alloc ?_ _) | (with_reducible refine Kd.C_drewN ?_ _) | (with_reducible refine Kd.C_drew ?_))); (case side2 => exact (Kd.R_reads' HO262.out).2.1); rintro e w18 ⟨rfl, hb⟩; have n0_ := Aside0.mk (Kd.R_below (by (with_reducible repeat (first | apply Kd.R_alloc | apply Kd.R_drewN | apply Kd.R_drew)); exact HO262.out) hb); have n1_ := Aside0.mk (Kd.R_below (by (with_reducible repeat (first | apply Kd.R_alloc | apply Kd.R_drewN | apply Kd.R_drew)); exact HO266.out) hb); have n2_ := Aside0.mk (below_step (by repeat (first | (with_reducible first | exact HB.out | apply below_alloc | apply pw_below_drewN | apply below_drew1) | exact HB.out)) hb); clear HO262; clear HO266; clear HB; have HO262 := n0_; have HO266 := n1_; have HB := n2_; clear n0_ n1_ n2_; (try clear hb); (try clear hb2); (try clear hk); (try clear hi)) | (go_at_call 11; (with_reducible refine (midpoint_Of.calls kj3 _ _ t260 (Int.tmod (wrap64 (a1)) (wrap64 ((wrap64 (Int.tdiv (wrap64 ((l0.length : Int) - 1)) 2)) + 1))) t269 t270 _ ?side1 ?side2 A13.out).mono ?_); (case side1 => repeat (first | exact (Kd.R_reads' HO262.out).2.2 | (with_reducible refine Kd.C_alloc ?_ _) | (with_reducible refine Kd.C_drewN ?_ _) | (with_reducible refine Kd.C_drew ?_))); (case side2 => exact (Kd.R_reads' HO262.out).2.1); rintro e w19 ⟨rfl, hb⟩; have n0_ := Aside0.mk (Kd.R_below (by (with_reducible repeat (first | apply Kd.R_alloc | apply Kd.R_drewN | apply Kd.R_drew)); exact HO262.out) hb); have n1_ := Aside0.mk (Kd.R_below (by (with_reducible repeat (first | apply Kd.R_alloc | apply Kd.R_drewN | apply Kd.R_drew)); exact HO266.out) hb); have n2_ := Aside0.mk (below_step (by repeat (first | (with_reducible first | exact HB.out | apply below_alloc | apply pw_below_drewN | apply below_drew1) | exact HB.out)) hb); clear HO262; clear HO266; clear HB; have HO262 := n0_; have HO266 := n1_; have HB := n2_; clear n0_ n1_ n2_; (try clear hb); (try clear hb2); (try clear hk); (try clear hi))); go_upto_region 9 with (first | (go_at_call 10; (with_reducible refine (vesperslaw14_some.calls kj3 _ _ l0 t260 _ ?side1 ?side2 A10.out).mono ?_); (case side1 => repeat (first | exact (Kd.C_below HR0.out HB.out) | (with_reducible refine Kd.C_alloc ?_ _) | (with_reducible refine Kd.C_drewN ?_ _) | (with_reducible refine Kd.C_drew ?_))); (case side2 => exact HC0.out); rintro e w15 ⟨v261, rfl, ho0, hb⟩; have n0_ := Aside0.mk (Kd.R_lower ho0 (below_size (by repeat (first | (with_reducible first | exact HB.out | apply below_alloc | apply pw_below_drewN | apply below_drew1) | exact HB.out)))); have n1_ := Aside0.mk (below_step (by repeat (first | (with_reducible first | exact HB.out | apply below_alloc | apply pw_below_drewN | apply below_drew1) | exact HB.out)) hb); clear HB; have HO262 := n0_; have HB := n1_; clear n0_ n1_; (try clear hb); (try clear hb2); (try clear hk); (try clear hi); (try clear ho0); obtain ⟨Ao16, co16, eo16⟩ := Kd.R_slice HO262.out; subst eo16) | (go_at_call 12; (with_reducible refine (midpoint_Trim.calls _ _ t260 (Int.tmod (wrap64 (a1)) (wrap64 ((wrap64 (Int.tdiv (wrap64 ((l0.length : Int) - 1)) 2)) + 1))) t263 t264 _ ?side1 ?side2 A11.out).mono ?_); (case side1 => repeat (first | exact (Kd.R_reads' HO262.out).2.2 | (with_reducible refine Kd.C_alloc ?_ _) | (with_reducible refine Kd.C_drewN ?_ _) | (with_reducible refine Kd.C_drew ?_))); (case side2 => exact (Kd.R_reads' HO262.out).2.1); rintro e w17 ⟨v265, rfl, ho0, hb⟩; have n0_ := Aside0.mk (Kd.R_elder' (by (with_reducible repeat (first | apply Kd.R_alloc | apply Kd.R_drewN | apply Kd.R_drew)); exact HO262.out) (Kd.R_base ho0) hb); have n1_ := Aside0.mk (Kd.R_lower (Kd.R_new' ho0 (Kd.R_lt (by (with_reducible repeat (first | apply Kd.R_alloc | apply Kd.R_drewN | apply Kd.R_drew)); exact HO262.out))) (below_size (by repeat (first | (with_reducible first | exact HB.out | apply below_alloc | apply pw_below_drewN | apply below_drew1) | exact HB.out)))); have n2_ := Aside0.mk (below_step (by repeat (first | (with_reducible first | exact HB.out | apply below_alloc | apply pw_below_drewN | apply below_drew1) | exact HB.out)) hb); clear HO262; clear HB; have HO262 := n0_; have HO266 := n1_; have HB := n2_; clear n0_ n1_ n2_; (try clear hb); (try clear hb2); (try clear hk); (try clear hi); (try clear ho0)) | (go_at_call 15; (with_reducible refine (midpoint_Spread.calls kj3 _ _ t260 (Int.tmod (wrap64 (a1)) (wrap64 ((wrap64 (Int.tdiv (wrap64 ((l0.length : Int) - 1)) 2)) + 1))) t267 t268 _ ?side1 ?side2 A12.out).mono ?_); (case side1 => repeat (first | exact (Kd.R_reads' HO262.out).2.2 | (with_reducible refine Kd.C_alloc ?_ _) | (with_reducible refine Kd.C_drewN ?_ _) | (with_reducible refine Kd.C_drew ?_))); (case side2 => exact (Kd.R_reads' HO262.out).2.1); rintro e w18 ⟨rfl, hb⟩; have n0_ := Aside0.mk (Kd.R_below (by (with_reducible repeat (first | apply Kd.R_alloc | apply Kd.R_drewN | apply Kd.R_drew)); exact HO262.out) hb); have n1_ := Aside0.mk (Kd.R_below (by (with_reducible repeat (first | apply Kd.R_alloc | apply Kd.R_drewN | apply Kd.R_drew)); exact HO266.out) hb); have n2_ := Aside0.mk (below_step (by repeat (first | (with_reducible first | exact HB.out | apply below_alloc | apply pw_below_drewN | apply below_drew1) | exact HB.out)) hb); clear HO262; clear HO266; clear HB; have HO262 := n0_; have HO266 := n1_; have HB := n2_; clear n0_ n1_ n2_; (try clear hb); (try clear hb2); (try clear hk); (try clear hi)) | (go_at_call 11; (with_reducible refine (midpoint_Of.calls kj3 _ _ t260 (Int.tmod (wrap64 (a1)) (wrap64 ((wrap64 (Int.tdiv (wrap64 ((l0.length : Int) - 1)) 2)) + 1))) t269 t270 _ ?side1 ?side2 A13.out).mono ?_); (case side1 => repeat (first | exact (Kd.R_reads' HO262.out).2.2 | (with_reducible refine Kd.C_alloc ?_ _) | (with_reducible refine Kd.C_drewN ?_ _) | (with_reducible refine Kd.C_drew ?_))); (case side2 => exact (Kd.R_reads' HO262.out).2.1); rintro e w19 ⟨rfl, hb⟩; have n0_ := Aside0.mk (Kd.R_below (by (with_reducible repeat (first | apply Kd.R_alloc | apply Kd.R_drewN | apply Kd.R_drew)); exact HO262.out) hb); have n1_ := Aside0.mk (Kd.R_below (by (with_reducible repeat (first | apply Kd.R_alloc | apply Kd.R_drewN | apply Kd.R_drew)); exact HO266.out) hb); have n2_ := Aside0.mk (below_step (by repeat (first | (with_reducible first | exact HB.out | apply below_alloc | apply pw_below_drewN | apply below_drew1) | exact HB.out)) hb); clear HO262; clear HO266; clear HB; have HO262 := n0_; have HO266 := n1_; have HB := n2_; clear n0_ n1_ n2_; (try clear hb); (try clear hb2); (try clear hk); (try clear hi))))
          (try simp only [Act.put, List.setIfInBounds_toArray, List.set_cons_zero, List.set_cons_succ])
          go_cut [74] (fun v74 wc => ∃ (kq : Nat) (x74_13 : Bool), v74 = .bool x74_13 ∧ Aside0 (vesperslaw14_MidpointSpread.j1 kq t259 (Int.tmod (wrap64 (a1)) (wrap64 ((wrap64 (Int.tdiv (wrap64 ((l0.length : Int) - 1)) 2)) + 1))) t260 t263 t267 t269 x74_13 = some r) ∧ Aside0 (kq ≤ kj3) ∧ Aside0 (Kd.R (Kd.int .i64) 2 wc w.heap.size (fun k_ => some k_ ≠ (v265 : Value).ownBlock) (.slice Ao16 t260.length co16) t260) ∧ Aside0 (Kd.R (Kd.int .i64) 2 wc w.heap.size (fun k_ => some k_ ≠ ((.slice Ao16 t260.length co16) : Value).ownBlock) v265 t263) ∧ Aside0 (Below w.heap.size w wc))
          case first =>
            have H := HC14.out
            clear HC14
            by_cases c20 : t264 = 0
            · rw [if_pos c20] at H
              have c20b0 : (t264 == 0) = true := beq_iff_eq.mpr c20
              have c20b1 : (t264 != 0) = false := bne_eq_false_iff_eq.mpr c20
              clear c20
              (first | rw [c20b0] | (simp only [i64_w, i32_w]; rw [c20b0]) | skip)
              by_cases c21 : t268 = 0
              · rw [if_pos c21] at H
                have c21b0 : (t268 == 0) = true := beq_iff_eq.mpr c21
                have c21b1 : (t268 != 0) = false := bne_eq_false_iff_eq.mpr c21
                clear c21
                by_cases c22 : t270 = 0
                · rw [if_pos c22] at H
                  have c22b0 : (t270 == 0) = true := beq_iff_eq.mpr c22
                  have c22b1 : (t270 != 0) = false := bne_eq_false_iff_eq.mpr c22
                  clear c22
                  have H' := Aside0.mk H
                  clear H
                  obtain ⟨Ao23, co23, eo23⟩ := Kd.R_slice HO266.out
                  subst eo23
                  go_wp2
                  repeat (go_quiet (fail); try go_wp2)
                  go_meet
                  case rel => exact ⟨_, (((t263.length : Int) == 0)), (by first | rfl | (simp; done) | (simp [*]; done)), H', ⟨by have := HJ3.out; first | omega | exact Nat.le_refl _⟩, ⟨by (with_reducible repeat (first | apply Kd.R_alloc | apply Kd.R_drewN | apply Kd.R_drew)); exact Kd.R_mono HO262.out (fun _ hk => hk.2)⟩, ⟨by (with_reducible repeat (first | apply Kd.R_alloc | apply Kd.R_drewN | apply Kd.R_drew)); exact Kd.R_mono HO266.out (fun _ hk => hk.2)⟩, ⟨by repeat (first | (with_reducible first | exact HB.out | apply below_alloc | apply pw_below_drewN | apply below_drew1) | exact HB.out)⟩⟩
                · rw [if_neg c22] at H
                  have c22b0 : (t270 == 0) = false := beq_eq_false_iff_ne.mpr c22
                  have c22b1 : (t270 != 0) = true := bne_iff_ne.mpr c22
                  have H' := Aside0.mk H
                  clear H
                  go_wp2
                  repeat (go_quiet (fail); try go_wp2)
                  go_meet
                  case rel => exact ⟨_, (true), (by first | rfl | (simp; done) | (simp [*]; done)), H', ⟨by have := HJ3.out; first | omega | exact Nat.le_refl _⟩, ⟨by (with_reducible repeat (first | apply Kd.R_alloc | apply Kd.R_drewN | apply Kd.R_drew)); exact Kd.R_mono HO262.out (fun _ hk => hk.2)⟩, ⟨by (with_reducible repeat (first | apply Kd.R_alloc | apply Kd.R_drewN | apply Kd.R_drew)); exact Kd.R_mono HO266.out (fun _ hk => hk.2)⟩, ⟨by repeat (first | (with_reducible first | exact HB.out | apply below_alloc | apply pw_below_drewN | apply below_drew1) | exact HB.out)⟩⟩
              · rw [if_neg c21] at H
                have c21b0 : (t268 == 0) = false := beq_eq_false_iff_ne.mpr c21
                have c21b1 : (t268 != 0) = true := bne_iff_ne.mpr c21
                have H' := Aside0.mk H
                clear H
                go_wp2
                repeat (go_quiet (fail); try go_wp2)
                go_meet
                case rel => exact ⟨_, (true), (by first | rfl | (simp; done) | (simp [*]; done)), H', ⟨by have := HJ3.out; first | omega | exact Nat.le_refl _⟩, ⟨by (with_reducible repeat (first | apply Kd.R_alloc | apply Kd.R_drewN | apply Kd.R_drew)); exact Kd.R_mono HO262.out (fun _ hk => hk.2)⟩, ⟨by (with_reducible repeat (first | apply Kd.R_alloc | apply Kd.R_drewN | apply Kd.R_drew)); exact Kd.R_mono HO266.out (fun _ hk => hk.2)⟩, ⟨by repeat (first | (with_reducible first | exact HB.out | apply below_alloc | apply pw_below_drewN | apply below_drew1) | exact HB.out)⟩⟩
            · rw [if_neg c20] at H
              have c20b0 : (t264 == 0) = false := beq_eq_false_iff_ne.mpr c20
              have c20b1 : (t264 != 0) = true := bne_iff_ne.mpr c20
              (first | rw [c20b0] | (simp only [i64_w, i32_w]; rw [c20b0]) | skip)
              have H' := Aside0.mk H
              clear H
              go_wp2
              repeat (go_quiet (fail); try go_wp2)
              go_meet
              case rel => exact ⟨_, (true), (by first | rfl | (simp; done) | (simp [*]; done)), H', ⟨by have := HJ3.out; first | omega | exact Nat.le_refl _⟩, ⟨by (with_reducible repeat (first | apply Kd.R_alloc | apply Kd.R_drewN | apply Kd.R_drew)); exact Kd.R_mono HO262.out (fun _ hk => hk.2)⟩, ⟨by (with_reducible repeat (first | apply Kd.R_alloc | apply Kd.R_drewN | apply Kd.R_drew)); exact Kd.R_mono HO266.out (fun _ hk => hk.2)⟩, ⟨by repeat (first | (with_reducible first | exact HB.out | apply below_alloc | apply pw_below_drewN | apply below_drew1) | exact HB.out)⟩⟩
          case rest =>
            clear HC14
            try clear c2
            try clear p2
            try clear c6
            try clear c6b0
            try clear c6b1
            try clear c6b2
            try clear p6
            try clear c7
            try clear c7b0
            try clear c7b1
            try clear c8
            try clear c9
            try clear c9b0
            try clear c9b1
            try clear c20
            try clear c20b0
            try clear c20b1
            try clear c21
            try clear c21b0
            try clear c21b1
            try clear c22
            try clear c22b0
            try clear c22b1
            try clear p2
            obtain ⟨kq, x74_13, rfl, HA, HJ13, HO_7, HO_8, HB⟩ := hcut
            cases kq with
            | zero => exact absurd HA.out (by simp [vesperslaw14_MidpointSpread.j1])
            | succ kj13 =>
              have H := HA.out
              clear HA
              simp only [vesperslaw14_MidpointSpread.j1] at H
              by_cases c24 : x74_13 = true
              · subst c24
                have H1 : (none) = some r := by rw [if_pos rfl] at H; exact H
                clear H
                have H := H1
                clear H1
                exact absurd H (by simp)
              · replace c24 := Bool.eq_false_iff.mpr c24
                subst c24
                have H1 : (if 0 < (t263.length : Int) then (if 0 ≤ (wrap64 ((t263.length : Int) - 1)) then (if (wrap64 ((t263.length : Int) - 1)) < (t263.length : Int) then (if t267 = (wrap64 ((rd t263 (wrap64 ((t263.length : Int) - 1))) - (rd t263 0))) then (if t269 < (rd t263 0) then (none) else (if t269 > (rd t263 (wrap64 ((t263.length : Int) - 1))) then (none) else (if (wrap64 (2 * t269)) > (wrap64 ((rd t263 0) + (rd t263 (wrap64 ((t263.length : Int) - 1))))) then (none) else (if (wrap64 (2 * t269)) < (wrap64 ((wrap64 ((rd t263 0) + (rd t263 (wrap64 ((t263.length : Int) - 1))))) - 1)) then (none) else ((midpoint_Spread.f kj13 t260 (wrap64 ((Int.tmod (wrap64 (a1)) (wrap64 ((wrap64 (Int.tdiv (wrap64 ((l0.length : Int) - 1)) 2)) + 1))) + 1))).bind fun bt273 => (if t259 = true then (if ((bt273.2 == 0) == (decide ((t260.length : Int) ≥ (wrap64 ((wrap64 (2 * (Int.tmod (wrap64 (a1)) (wrap64 ((wrap64 (Int.tdiv (wrap64 ((l0.length : Int) - 1)) 2)) + 1))))) + 3))))) = true then (if bt273.2 = 0 then (some (decide (bt273.1 ≤ t267))) else (some true)) else (none)) else (none))))))) else (none)) else (none)) else (none)) else (none)) = some r := by rw [if_neg (show ¬ (false = true) by decide)] at H; exact H
                clear H
                have H := H1
                clear H1
                by_cases c25 : 0 < (t263.length : Int)
                · rw [if_pos c25] at H
                  have c25b0 : decide (0 < (t263.length : Int)) = true := decide_eq_true c25
                  have c25b1 : decide (0 < t263.length) = true := decide_eq_true (by omega)
                  clear c25
                  obtain ⟨ji26, hji26⟩ : ∃ j_ : Int, (wrap64 ((t263.length : Int) - 1)) = j_ := ⟨_, rfl⟩
                  replace H : (if 0 ≤ (ji26) then (if (ji26) < (t263.length : Int) then (if t267 = (wrap64 ((rd t263 (ji26)) - (rd t263 0))) then (if t269 < (rd t263 0) then (none) else (if t269 > (rd t263 (ji26)) then (none) else (if (wrap64 (2 * t269)) > (wrap64 ((rd t263 0) + (rd t263 (ji26)))) then (none) else (if (wrap64 (2 * t269)) < (wrap64 ((wrap64 ((rd t263 0) + (rd t263 (ji26)))) - 1)) then (none) else ((midpoint_Spread.f kj13 t260 (wrap64 ((Int.tmod (wrap64 (a1)) (wrap64 ((wrap64 (Int.tdiv (wrap64 ((l0.length : Int) - 1)) 2)) + 1))) + 1))).bind fun bt273 => (if t259 = true then (if ((bt273.2 == 0) == (decide ((t260.length : Int) ≥ (wrap64 ((wrap64 (2 * (Int.tmod (wrap64 (a1)) (wrap64 ((wrap64 (Int.tdiv (wrap64 ((l0.length : Int) - 1)) 2)) + 1))))) + 3))))) = true then (if bt273.2 = 0 then (some (decide (bt273.1 ≤ t267))) else (some true)) else (none)) else (none))))))) else (none)) else (none)) else (none)) = some r := by first | (rw [hji26] at H; exact H) | (simp only [hji26] at H ⊢; exact H)
                  have hji26w : (IntKind.i64.wrap ((t263.length : Int) - 1)) = ji26 := (i64_w _).trans hji26
                  by_cases c27 : 0 ≤ (ji26)
                  · rw [if_pos c27] at H
                    have c27b0 : decide (0 ≤ (ji26)) = true := decide_eq_true c27
                    clear c27
                    by_cases c28 : (ji26) < (t263.length : Int)
                    · rw [if_pos c28] at H
                      have c28b0 : decide ((ji26) < (t263.length : Int)) = true := decide_eq_true c28
                      clear c28
                      by_cases c29 : t267 = (wrap64 ((rd t263 (ji26)) - (rd t263 0)))
                      · rw [if_pos c29] at H
                        have c29b0 : (t267 == (wrap64 ((rd t263 (ji26)) - (rd t263 0)))) = true := beq_iff_eq.mpr c29
                        have c29b1 : (t267 != (wrap64 ((rd t263 (ji26)) - (rd t263 0)))) = false := bne_eq_false_iff_eq.mpr c29
                        clear c29
                        by_cases c30 : t269 < (rd t263 0)
                        · rw [if_pos c30] at H
                          exact absurd H (by simp)
                        · rw [if_neg c30] at H
                          have c30b0 : decide (t269 < (rd t263 0)) = false := decide_eq_false c30
                          clear c30
                          by_cases c31 : t269 > (rd t263 (ji26))
                          · rw [if_pos c31] at H
                            exact absurd H (by simp)
                          · rw [if_neg c31] at H
                            have c31b0 : decide ((rd t263 (ji26)) < t269) = false := decide_eq_false c31
                            clear c31
                            by_cases c32 : (wrap64 (2 * t269)) > (wrap64 ((rd t263 0) + (rd t263 (ji26))))
                            · rw [if_pos c32] at H
                              exact absurd H (by simp)
                            · rw [if_neg c32] at H
                              have c32b0 : decide ((wrap64 ((rd t263 0) + (rd t263 (ji26)))) < (wrap64 (2 * t269))) = false := decide_eq_false c32
                              clear c32
                              by_cases c33 : (wrap64 (2 * t269)) < (wrap64 ((wrap64 ((rd t263 0) + (rd t263 (ji26)))) - 1))
                              · rw [if_pos c33] at H
                                exact absurd H (by simp)
                              · rw [if_neg c33] at H
                                have c33b0 : decide ((wrap64 (2 * t269)) < (wrap64 ((wrap64 ((rd t263 0) + (rd t263 (ji26)))) - 1))) = false := decide_eq_false c33
                                clear c33
                                replace H := Option.bind_eq_some_iff.mp H
                                obtain ⟨⟨t273, t274⟩, A340, H⟩ := H
                                replace H : (if t259 = true then (if ((t274 == 0) == (decide ((t260.length : Int) ≥ (wrap64 ((wrap64 (2 * (Int.tmod (wrap64 (a1)) (wrap64 ((wrap64 (Int.tdiv (wrap64 ((l0.length : Int) - 1)) 2)) + 1))))) + 3))))) = true then (if t274 = 0 then (some (decide (t273 ≤ t267))) else (some true)) else (none)) else (none)) = some r := H
                                have A34 := Aside0.mk A340
                                clear A340
                                by_cases c35 : t259 = true
                                · subst c35
                                  have H1 : (if ((t274 == 0) == (decide ((t260.length : Int) ≥ (wrap64 ((wrap64 (2 * (Int.tmod (wrap64 (a1)) (wrap64 ((wrap64 (Int.tdiv (wrap64 ((l0.length : Int) - 1)) 2)) + 1))))) + 3))))) = true then (if t274 = 0 then (some (decide (t273 ≤ t267))) else (some true)) else (none)) = some r := by rw [if_pos rfl] at H; exact H
                                  clear H
                                  have H := H1
                                  clear H1
                                  by_cases c36 : ((t274 == 0) == (decide ((t260.length : Int) ≥ (wrap64 ((wrap64 (2 * (Int.tmod (wrap64 (a1)) (wrap64 ((wrap64 (Int.tdiv (wrap64 ((l0.length : Int) - 1)) 2)) + 1))))) + 3))))) = true
                                  · rw [if_pos c36] at H
                                    have c36b0 : ((t274 == 0) == (decide ((t260.length : Int) ≥ (wrap64 ((wrap64 (2 * (Int.tmod (wrap64 (a1)) (wrap64 ((wrap64 (Int.tdiv (wrap64 ((l0.length : Int) - 1)) 2)) + 1))))) + 3))))) = true := c36
                                    (try (have c36b1 : decide ((t274 == 0) = (decide ((t260.length : Int) ≥ (wrap64 ((wrap64 (2 * (Int.tmod (wrap64 (a1)) (wrap64 ((wrap64 (Int.tdiv (wrap64 ((l0.length : Int) - 1)) 2)) + 1))))) + 3))))) = true := by simpa using c36))
                                    (try (have c36b2 : ((t274 == 0) == (decide ((t260.length : Int) ≥ (wrap64 ((wrap64 (2 * (Int.tmod (wrap64 (a1)) (wrap64 ((wrap64 (Int.tdiv (wrap64 ((l0.length : Int) - 1)) 2)) + 1))))) + 3))))) = true := by simpa using c36))
                                    clear c36
                                    by_cases c37 : t274 = 0
                                    · rw [if_pos c37] at H
                                      have c37b0 : (t274 == 0) = true := beq_iff_eq.mpr c37
                                      have c37b1 : (t274 != 0) = false := bne_eq_false_iff_eq.mpr c37
                                      have c36c : decide ((t260.length : Int) ≥ (wrap64 ((wrap64 (2 * (Int.tmod (wrap64 (a1)) (wrap64 ((wrap64 (Int.tdiv (wrap64 ((l0.length : Int) - 1)) 2)) + 1))))) + 3))) = true := by have h_ := c36b0; rw [c37b0] at h_; simpa using h_
                                      have c36d : decide ((wrap64 ((wrap64 (2 * (Int.tmod (wrap64 (a1)) (wrap64 ((wrap64 (Int.tdiv (wrap64 ((l0.length : Int) - 1)) 2)) + 1))))) + 3)) ≤ (t260.length : Int)) = true := c36c
                                      clear c37
                                      obtain rfl := Option.some.inj H
                                      obtain ⟨Ao38, co38, eo38⟩ := Kd.R_slice HO_8.out
                                      subst eo38
                                      have p271 : 0 ≤ (0 : Int) := (by omega)
                                      have q271 : 0 < (t263.length : Int) := of_decide_eq_true (by first | (with_reducible assumption) | assumption)
                                      obtain ⟨ad271, e271, hx271_0⟩ := Kd.at_int (Kd.R_reads' HO_8.out).2.2 0 p271 q271
                                      cases e271
                                      have qi271 : (0 < t263.length) = True := eq_true (by omega)
                                      (try rw [show ((0 : Int)).toNat = 0 from rfl] at hx271_0)
                                      (try rw [Addr.add_zero'] at hx271_0)
                                      replace p271 := eq_true p271
                                      replace q271 := eq_true q271
                                      have p272 : 0 ≤ ((ji26) : Int) := of_decide_eq_true (by first | (with_reducible assumption) | assumption)
                                      have q272 : (ji26) < (t263.length : Int) := of_decide_eq_true (by first | (with_reducible assumption) | assumption)
                                      obtain ⟨ad272, e272, hx272_0⟩ := Kd.at_int (Kd.R_reads' HO_8.out).2.2 (ji26) p272 q272
                                      obtain rfl : ad271 = ad272 := (by injection e272)
                                      replace p272 := eq_true p272
                                      replace q272 := eq_true q272
                                      go_wp2_with (first | (go_at_call 15; (with_reducible refine (midpoint_Spread.calls kj13 _ _ t260 (wrap64 ((Int.tmod (wrap64 (a1)) (wrap64 ((wrap64 (Int.tdiv (wrap64 ((l0.length : Int) - 1)) 2)) + 1))) + 1)) t273 t274 _ ?side1 ?side2 A34.out).mono ?_); (case side1 => repeat (first | exact (Kd.R_reads' HO_7.out).2.2 | (with_reducible refine Kd.C_alloc ?_ _) | (with_reducible refine Kd.C_drewN ?_ _) | (with_reducible refine Kd.C_drew ?_))); (case side2 => exact (Kd.R_reads' HO_7.out).2.1); rintro e w39 ⟨rfl, hb⟩; have n0_ := Aside0.mk (Kd.R_below (by (with_reducible repeat (first | apply Kd.R_alloc | apply Kd.R_drewN | apply Kd.R_drew)); exact HO_7.out) hb); have n1_ := Aside0.mk (Kd.R_below (by (with_reducible repeat (first | apply Kd.R_alloc | apply Kd.R_drewN | apply Kd.R_drew)); exact HO_8.out) hb); have n2_ := Aside0.mk (below_step (by repeat (first | (with_reducible first | exact HB.out | apply below_alloc | apply pw_below_drewN | apply below_drew1) | exact HB.out)) hb); clear HO_7; clear HO_8; clear HB; have HO_7 := n0_; have HO_8 := n1_; have HB := n2_; clear n0_ n1_ n2_; (try clear hb); (try clear hb2); (try clear hk); (try clear hi)))
                                      repeat (go_quiet (first | (go_at_call 15; (with_reducible refine (midpoint_Spread.calls kj13 _ _ t260 (wrap64 ((Int.tmod (wrap64 (a1)) (wrap64 ((wrap64 (Int.tdiv (wrap64 ((l0.length : Int) - 1)) 2)) + 1))) + 1)) t273 t274 _ ?side1 ?side2 A34.out).mono ?_); (case side1 => repeat (first | exact (Kd.R_reads' HO_7.out).2.2 | (with_reducible refine Kd.C_alloc ?_ _) | (with_reducible refine Kd.C_drewN ?_ _) | (with_reducible refine Kd.C_drew ?_))); (case side2 => exact (Kd.R_reads' HO_7.out).2.1); rintro e w39 ⟨rfl, hb⟩; have n0_ := Aside0.mk (Kd.R_below (by (with_reducible repeat (first | apply Kd.R_alloc | apply Kd.R_drewN | apply Kd.R_drew)); exact HO_7.out) hb); have n1_ := Aside0.mk (Kd.R_below (by (with_reducible repeat (first | apply Kd.R_alloc | apply Kd.R_drewN | apply Kd.R_drew)); exact HO_8.out) hb); have n2_ := Aside0.mk (below_step (by repeat (first | (with_reducible first | exact HB.out | apply below_alloc | apply pw_below_drewN | apply below_drew1) | exact HB.out)) hb); clear HO_7; clear HO_8; clear HB; have HO_7 := n0_; have HO_8 := n1_; have HB := n2_; clear n0_ n1_ n2_; (try clear hb); (try clear hb2); (try clear hk); (try clear hi))); try go_wp2_with (first | (go_at_call 15; (with_reducible refine (midpoint_Spread.calls kj13 _ _ t260 (wrap64 ((Int.tmod (wrap64 (a1)) (wrap64 ((wrap64 (Int.tdiv (wrap64 ((l0.length : Int) - 1)) 2)) + 1))) + 1)) t273 t274 _ ?side1 ?side2 A34.out).mono ?_); (case side1 => repeat (first | exact (Kd.R_reads' HO_7.out).2.2 | (with_reducible refine Kd.C_alloc ?_ _) | (with_reducible refine Kd.C_drewN ?_ _) | (with_reducible refine Kd.C_drew ?_))); (case side2 => exact (Kd.R_reads' HO_7.out).2.1); rintro e w39 ⟨rfl, hb⟩; have n0_ := Aside0.mk (Kd.R_below (by (with_reducible repeat (first | apply Kd.R_alloc | apply Kd.R_drewN | apply Kd.R_drew)); exact HO_7.out) hb); have n1_ := Aside0.mk (Kd.R_below (by (with_reducible repeat (first | apply Kd.R_alloc | apply Kd.R_drewN | apply Kd.R_drew)); exact HO_8.out) hb); have n2_ := Aside0.mk (below_step (by repeat (first | (with_reducible first | exact HB.out | apply below_alloc | apply pw_below_drewN | apply below_drew1) | exact HB.out)) hb); clear HO_7; clear HO_8; clear HB; have HO_7 := n0_; have HO_8 := n1_; have HB := n2_; clear n0_ n1_ n2_; (try clear hb); (try clear hb2); (try clear hk); (try clear hi))))
                                      go_ret
                                      exact ⟨by first | rfl | (simp [errW_none, errW_some] <;> rfl) | (simp only [← hji26]; first | rfl | (simp [errW_none, errW_some] <;> rfl)) | (simp [*, errW_none, errW_some] <;> rfl), by repeat (first | (with_reducible first | exact HB.out | apply below_alloc | apply pw_below_drewN | apply below_drew1) | exact HB.out)⟩
                                    · rw [if_neg c37] at H
                                      have c37b0 : (t274 == 0) = false := beq_eq_false_iff_ne.mpr c37
                                      have c37b1 : (t274 != 0) = true := bne_iff_ne.mpr c37
                                      have c36c : decide ((t260.length : Int) ≥ (wrap64 ((wrap64 (2 * (Int.tmod (wrap64 (a1)) (wrap64 ((wrap64 (Int.tdiv (wrap64 ((l0.length : Int) - 1)) 2)) + 1))))) + 3))) = false := by have h_ := c36b0; rw [c37b0] at h_; simpa using h_
                                      have c36d : decide ((wrap64 ((wrap64 (2 * (Int.tmod (wrap64 (a1)) (wrap64 ((wrap64 (Int.tdiv (wrap64 ((l0.length : Int) - 1)) 2)) + 1))))) + 3)) ≤ (t260.length : Int)) = false := c36c
                                      obtain rfl := Option.some.inj H
                                      obtain ⟨Ao40, co40, eo40⟩ := Kd.R_slice HO_8.out
                                      subst eo40
                                      have p271 : 0 ≤ (0 : Int) := (by omega)
                                      have q271 : 0 < (t263.length : Int) := of_decide_eq_true (by first | (with_reducible assumption) | assumption)
                                      obtain ⟨ad271, e271, hx271_0⟩ := Kd.at_int (Kd.R_reads' HO_8.out).2.2 0 p271 q271
                                      cases e271
                                      have qi271 : (0 < t263.length) = True := eq_true (by omega)
                                      (try rw [show ((0 : Int)).toNat = 0 from rfl] at hx271_0)
                                      (try rw [Addr.add_zero'] at hx271_0)
                                      replace p271 := eq_true p271
                                      replace q271 := eq_true q271
                                      have p272 : 0 ≤ ((ji26) : Int) := of_decide_eq_true (by first | (with_reducible assumption) | assumption)
                                      have q272 : (ji26) < (t263.length : Int) := of_decide_eq_true (by first | (with_reducible assumption) | assumption)
                                      obtain ⟨ad272, e272, hx272_0⟩ := Kd.at_int (Kd.R_reads' HO_8.out).2.2 (ji26) p272 q272
                                      obtain rfl : ad271 = ad272 := (by injection e272)
                                      replace p272 := eq_true p272
                                      replace q272 := eq_true q272
                                      go_wp2_with (first | (go_at_call 15; (with_reducible refine (midpoint_Spread.calls kj13 _ _ t260 (wrap64 ((Int.tmod (wrap64 (a1)) (wrap64 ((wrap64 (Int.tdiv (wrap64 ((l0.length : Int) - 1)) 2)) + 1))) + 1)) t273 t274 _ ?side1 ?side2 A34.out).mono ?_); (case side1 => repeat (first | exact (Kd.R_reads' HO_7.out).2.2 | (with_reducible refine Kd.C_alloc ?_ _) | (with_reducible refine Kd.C_drewN ?_ _) | (with_reducible refine Kd.C_drew ?_))); (case side2 => exact (Kd.R_reads' HO_7.out).2.1); rintro e w41 ⟨rfl, hb⟩; have n0_ := Aside0.mk (Kd.R_below (by (with_reducible repeat (first | apply Kd.R_alloc | apply Kd.R_drewN | apply Kd.R_drew)); exact HO_7.out) hb); have n1_ := Aside0.mk (Kd.R_below (by (with_reducible repeat (first | apply Kd.R_alloc | apply Kd.R_drewN | apply Kd.R_drew)); exact HO_8.out) hb); have n2_ := Aside0.mk (below_step (by repeat (first | (with_reducible first | exact HB.out | apply below_alloc | apply pw_below_drewN | apply below_drew1) | exact HB.out)) hb); clear HO_7; clear HO_8; clear HB; have HO_7 := n0_; have HO_8 := n1_; have HB := n2_; clear n0_ n1_ n2_; (try clear hb); (try clear hb2); (try clear hk); (try clear hi)))
                                      repeat (go_quiet (first | (go_at_call 15; (with_reducible refine (midpoint_Spread.calls kj13 _ _ t260 (wrap64 ((Int.tmod (wrap64 (a1)) (wrap64 ((wrap64 (Int.tdiv (wrap64 ((l0.length : Int) - 1)) 2)) + 1))) + 1)) t273 t274 _ ?side1 ?side2 A34.out).mono ?_); (case side1 => repeat (first | exact (Kd.R_reads' HO_7.out).2.2 | (with_reducible refine Kd.C_alloc ?_ _) | (with_reducible refine Kd.C_drewN ?_ _) | (with_reducible refine Kd.C_drew ?_))); (case side2 => exact (Kd.R_reads' HO_7.out).2.1); rintro e w41 ⟨rfl, hb⟩; have n0_ := Aside0.mk (Kd.R_below (by (with_reducible repeat (first | apply Kd.R_alloc | apply Kd.R_drewN | apply Kd.R_drew)); exact HO_7.out) hb); have n1_ := Aside0.mk (Kd.R_below (by (with_reducible repeat (first | apply Kd.R_alloc | apply Kd.R_drewN | apply Kd.R_drew)); exact HO_8.out) hb); have n2_ := Aside0.mk (below_step (by repeat (first | (with_reducible first | exact HB.out | apply below_alloc | apply pw_below_drewN | apply below_drew1) | exact HB.out)) hb); clear HO_7; clear HO_8; clear HB; have HO_7 := n0_; have HO_8 := n1_; have HB := n2_; clear n0_ n1_ n2_; (try clear hb); (try clear hb2); (try clear hk); (try clear hi))); try go_wp2_with (first | (go_at_call 15; (with_reducible refine (midpoint_Spread.calls kj13 _ _ t260 (wrap64 ((Int.tmod (wrap64 (a1)) (wrap64 ((wrap64 (Int.tdiv (wrap64 ((l0.length : Int) - 1)) 2)) + 1))) + 1)) t273 t274 _ ?side1 ?side2 A34.out).mono ?_); (case side1 => repeat (first | exact (Kd.R_reads' HO_7.out).2.2 | (with_reducible refine Kd.C_alloc ?_ _) | (with_reducible refine Kd.C_drewN ?_ _) | (with_reducible refine Kd.C_drew ?_))); (case side2 => exact (Kd.R_reads' HO_7.out).2.1); rintro e w41 ⟨rfl, hb⟩; have n0_ := Aside0.mk (Kd.R_below (by (with_reducible repeat (first | apply Kd.R_alloc | apply Kd.R_drewN | apply Kd.R_drew)); exact HO_7.out) hb); have n1_ := Aside0.mk (Kd.R_below (by (with_reducible repeat (first | apply Kd.R_alloc | apply Kd.R_drewN | apply Kd.R_drew)); exact HO_8.out) hb); have n2_ := Aside0.mk (below_step (by repeat (first | (with_reducible first | exact HB.out | apply below_alloc | apply pw_below_drewN | apply below_drew1) | exact HB.out)) hb); clear HO_7; clear HO_8; clear HB; have HO_7 := n0_; have HO_8 := n1_; have HB := n2_; clear n0_ n1_ n2_; (try clear hb); (try clear hb2); (try clear hk); (try clear hi))))
                                      go_ret
                                      exact ⟨by first | rfl | (simp [errW_none, errW_some] <;> rfl) | (simp only [← hji26]; first | rfl | (simp [errW_none, errW_some] <;> rfl)) | (simp [*, errW_none, errW_some] <;> rfl), by repeat (first | (with_reducible first | exact HB.out | apply below_alloc | apply pw_below_drewN | apply below_drew1) | exact HB.out)⟩
                                  · rw [if_neg c36] at H
                                    exact absurd H (by simp)
                                · replace c35 := Bool.eq_false_iff.mpr c35
                                  subst c35
                                  have H1 : (none) = some r := by rw [if_neg (show ¬ (false = true) by decide)] at H; exact H
                                  clear H
                                  have H := H1
                                  clear H1
                                  exact absurd H (by simp)
                      · rw [if_neg c29] at H
                        exact absurd H (by simp)
                    · rw [if_neg c28] at H
                      exact absurd H (by simp)
                  · rw [if_neg c27] at H
                    exact absurd H (by simp)
                · rw [if_neg c25] at H
                  exact absurd H (by simp)

/-- THE ONE PURE STATEMENT of vesperslaw14_MidpointSpread: yours. -/
def vesperslaw14_MidpointSpread.Pure : Prop := ∀ (l0 : List Int) (a1 : Int), l0.length ≤ maxLen → l0.length * 8 ≤ 140737488351232 → (∀ x ∈ l0, (Lit.int .i64 x).wf = true) → (Lit.int .u8 a1).wf = true → ∃ k, vesperslaw14_MidpointSpread.f k l0 a1 = some true
theorem vesperslaw14_MidpointSpread.walk (P : vesperslaw14_MidpointSpread.Pure) (a0 : Option Addr) (len0 cap0 : Nat) (z0 : List Int) (a1 : Int) (w : World) (w0 : (a0 = none ∧ len0 = 0 ∧ cap0 = 0 ∧ z0 = []) ∨ ∃ x, a0 = some x ∧ len0 ≤ cap0 ∧ cap0 ≤ maxLen ∧ z0.length = cap0 ∧ (∀ i, i < z0.length → w.cell? (x.add i) = some (.int .i64 (z0.getD i 0))) ∧ ∀ n ∈ z0, (Lit.int .i64 n).wf = true) (y0 : len0 * 8 ≤ 140737488351232) (w1 : (Lit.int .u8 a1).wf = true) :
    Calls Try.prog 8 #[.slice a0 len0 cap0, .int .u8 a1] w fun e w' => e = .returned (.bool true) ∧ Below w.heap.size w w' := by
  obtain ⟨l0, rfl, hr0, hm0, hw0, hc0⟩ := ReadsInt.ofRowC w0
  obtain ⟨k, h⟩ := P l0 a1 hm0 y0 hw0 w1
  refine (vesperslaw14_MidpointSpread.calls k _ _ l0 a1 true w (Kd.C_of_reads (d := (0 : Int)) (h1 := fun _ => rfl) hr0) hc0 h).mono ?_
  rintro e w' ⟨rfl, hd⟩
  exact ⟨rfl, hd⟩

end Go.Proofs.Ytcagoddljhagiaa.PA
