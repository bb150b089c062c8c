/- Written by a program of this session (wip/jprint.py, over the printer of the kit): functions that a law comes to, as plain Lean functions, and walks; Lean checks it. -/
import Derived.Test.YtbbiihifhdcniaaPDx0
namespace Go.Proofs.Ytbbiihifhdcniaa.PD
open Go.RowKit Go.Proofs.Ytbbiihifhdcniaa.Hand Go.Proofs.Ytbbiihifhdcniaa.PA Go.Proofs.YtbbiihifhdcniaaW.PrintWords Go.Proofs.YtbbiihifhdcniaaW.PrintLast Go.Proofs.YtbbiihifhdcniaaW.PrintMore
attribute [local go_sem] max2_int min2_int max_two min_two max_three min_three max_four min_four   -- for this text's walks alone
set_option linter.unusedVariables false
set_option linter.unusedSimpArgs false

-- BY HAND: function 6 (vesperslaw20_alive)

-- BY HAND: function 7 (protocol_Run)

-- BY HAND: function 9 (protocol_Way)

/-! ### vesperslaw20_ProtocolWays: function 4 -/
mutual
def vesperslaw20_ProtocolWays.j0 : Nat → List Int → Bool → Int → Int → List Int → List Int → Bool → Option (Bool)
  | 0, _, _, _, _, _, _, _ => none
  | k + 1, x2, x7, x8, x9, x10, x12, x58 => if x58 = true then (none) else (vesperslaw20_ProtocolWays.l0 k x2 x7 x8 x9 x10 x12 x12 (x12.length : Int) 0)
def vesperslaw20_ProtocolWays.l0 : Nat → List Int → Bool → Int → Int → List Int → List Int → List Int → Int → Int → Option (Bool)
  | 0, _, _, _, _, _, _, _, _, _ => none
  | k + 1, x2, x7, x8, x9, x10, x12, x59, x60, x61 => if x61 < x60 then (if 0 ≤ x61 then (if x61 < (x59.length : Int) then (if (((rd x59 x61) == x9) != (x61 == (wrap64 ((x12.length : Int) - 1)))) = true then (none) else (vesperslaw20_ProtocolWays.l0 k x2 x7 x8 x9 x10 x12 x59 x60 (wrap64 (x61 + 1)))) else (none)) else (none)) else (if (x2.length : Int) > 6 then (some x7) else (if (x2.length : Int) ≥ (x10.length : Int) then (some x7) else ((protocol_Run.f k x8 x2).bind fun bt111 => (if x7 = true then (if bt111.2 < (x2.length : Int) then (some true) else (if (bt111.1.length : Int) = 0 then (some true) else (if 0 ≤ (wrap64 ((bt111.1.length : Int) - 1)) then (if (wrap64 ((bt111.1.length : Int) - 1)) < (bt111.1.length : Int) then (some ((rd bt111.1 (wrap64 ((bt111.1.length : Int) - 1))) != x9)) else (none)) else (none)))) else (none)))))
end
def vesperslaw20_ProtocolWays.f (k : Nat) (a0 : Int) (a1 : Int) (l2 : List Int) : Option (Bool) := (vesperslaw20_alive.f).bind fun t101 => ((protocol_Way.f (Int.tmod (wrap64 (a0)) 7) (Int.tmod (wrap64 (a1)) 7)).bind fun bt102 => ((protocol_Run.f k (Int.tmod (wrap64 (a0)) 7) bt102.1).bind fun bt106 => (if bt102.2 = 0 then (if bt106.2 = (bt102.1.length : Int) then (if (bt102.1.length : Int) > 7 then (vesperslaw20_ProtocolWays.j0 k l2 t101 (Int.tmod (wrap64 (a0)) 7) (Int.tmod (wrap64 (a1)) 7) bt102.1 bt106.1 true) else (vesperslaw20_ProtocolWays.j0 k l2 t101 (Int.tmod (wrap64 (a0)) 7) (Int.tmod (wrap64 (a1)) 7) bt102.1 bt106.1 (((Int.tmod (wrap64 (a0)) 7) == (Int.tmod (wrap64 (a1)) 7)) != ((bt102.1.length : Int) == 0)))) else (vesperslaw20_ProtocolWays.j0 k l2 t101 (Int.tmod (wrap64 (a0)) 7) (Int.tmod (wrap64 (a1)) 7) bt102.1 bt106.1 true)) else (vesperslaw20_ProtocolWays.j0 k l2 t101 (Int.tmod (wrap64 (a0)) 7) (Int.tmod (wrap64 (a1)) 7) bt102.1 bt106.1 true))))
theorem vesperslaw20_ProtocolWays.mono_l : ∀ k, (∀ y0 y1 y2 y3 y4 y5 y6, LeO (vesperslaw20_ProtocolWays.j0 k y0 y1 y2 y3 y4 y5 y6) (vesperslaw20_ProtocolWays.j0 (k + 1) y0 y1 y2 y3 y4 y5 y6)) ∧ (∀ y0 y1 y2 y3 y4 y5 y6 y7 y8, LeO (vesperslaw20_ProtocolWays.l0 k y0 y1 y2 y3 y4 y5 y6 y7 y8) (vesperslaw20_ProtocolWays.l0 (k + 1) y0 y1 y2 y3 y4 y5 y6 y7 y8))
  | 0 => ⟨fun _ _ _ _ _ _ _ r h => by simp [vesperslaw20_ProtocolWays.j0] at h, fun _ _ _ _ _ _ _ _ _ r h => by simp [vesperslaw20_ProtocolWays.l0] at h⟩
  | k + 1 => by
    obtain ⟨ih0, ih1⟩ := vesperslaw20_ProtocolWays.mono_l k
    refine ⟨?_, ?_⟩
    · intro y0 y1 y2 y3 y4 y5 y6
      unfold vesperslaw20_ProtocolWays.j0
      repeat' first
      | (with_reducible exact ih0 _ _ _ _ _ _ _)
      | (with_reducible exact ih1 _ _ _ _ _ _ _ _ _)
      | (with_reducible exact protocol_Run.mono _ _ _)
      | (with_reducible exact LeO.refl _)
      | (with_reducible exact LeO.none _)
      | (with_reducible refine LeO.ite ?_ ?_)
      | (with_reducible refine LeO.bind ?_ (fun _ => ?_))
      | exact ih0 _ _ _ _ _ _ _
      | exact ih1 _ _ _ _ _ _ _ _ _
      | exact protocol_Run.mono _ _ _
      | exact LeO.none _
      | refine LeO.ite ?_ ?_
      | refine LeO.bind ?_ (fun _ => ?_)
    · intro y0 y1 y2 y3 y4 y5 y6 y7 y8
      unfold vesperslaw20_ProtocolWays.l0
      repeat' first
      | (with_reducible exact ih0 _ _ _ _ _ _ _)
      | (with_reducible exact ih1 _ _ _ _ _ _ _ _ _)
      | (with_reducible exact protocol_Run.mono _ _ _)
      | (with_reducible exact LeO.refl _)
      | (with_reducible exact LeO.none _)
      | (with_reducible refine LeO.ite ?_ ?_)
      | (with_reducible refine LeO.bind ?_ (fun _ => ?_))
      | exact ih0 _ _ _ _ _ _ _
      | exact ih1 _ _ _ _ _ _ _ _ _
      | exact protocol_Run.mono _ _ _
      | exact LeO.none _
      | refine LeO.ite ?_ ?_
      | refine LeO.bind ?_ (fun _ => ?_)
theorem vesperslaw20_ProtocolWays.mono : ∀ a0 a1 a2 k, LeO (vesperslaw20_ProtocolWays.f k a0 a1 a2) (vesperslaw20_ProtocolWays.f (k + 1) a0 a1 a2) := by
  intro a0 a1 a2 k
  obtain ⟨ih0, ih1⟩ := vesperslaw20_ProtocolWays.mono_l k
  unfold vesperslaw20_ProtocolWays.f
  repeat' first
      | (with_reducible exact ih0 _ _ _ _ _ _ _)
      | (with_reducible exact ih1 _ _ _ _ _ _ _ _ _)
      | (with_reducible exact protocol_Run.mono _ _ _)
      | (with_reducible exact LeO.refl _)
      | (with_reducible exact LeO.none _)
      | (with_reducible refine LeO.ite ?_ ?_)
      | (with_reducible refine LeO.bind ?_ (fun _ => ?_))
      | exact ih0 _ _ _ _ _ _ _
      | exact ih1 _ _ _ _ _ _ _ _ _
      | exact protocol_Run.mono _ _ _
      | exact LeO.none _
      | refine LeO.ite ?_ ?_
      | refine LeO.bind ?_ (fun _ => ?_)
set_option maxHeartbeats 8000000 in
set_option maxRecDepth 100000 in
theorem vesperslaw20_ProtocolWays.calls (k : Nat) (a0 : Int) (a1 : Int) (A2 : Option Addr) (c2 : Nat) (l2 : List Int) (r : Bool) (w : World) (hr2 : Kd.C (Kd.int .i64) w A2 l2.length l2) (hc2 : l2.length ≤ c2) (h : vesperslaw20_ProtocolWays.f k a0 a1 l2 = some r) :
    Calls Try.prog 4 #[.int .u8 a0, .int .u8 a1, .slice A2 l2.length c2] w fun e w' => e = .returned (.bool r) ∧ Below w.heap.size w w' := by
  have HR2 := Aside0.mk hr2
  have HC2 := Aside0.mk hc2
  clear hr2 hc2
  have HB := Aside0.mk (Below.refl w.heap.size w)
  have H : ((vesperslaw20_alive.f).bind fun t101 => ((protocol_Way.f (Int.tmod (wrap64 (a0)) 7) (Int.tmod (wrap64 (a1)) 7)).bind fun bt102 => ((protocol_Run.f k (Int.tmod (wrap64 (a0)) 7) bt102.1).bind fun bt106 => (if bt102.2 = 0 then (if bt106.2 = (bt102.1.length : Int) then (if (bt102.1.length : Int) > 7 then (vesperslaw20_ProtocolWays.j0 k l2 t101 (Int.tmod (wrap64 (a0)) 7) (Int.tmod (wrap64 (a1)) 7) bt102.1 bt106.1 true) else (vesperslaw20_ProtocolWays.j0 k l2 t101 (Int.tmod (wrap64 (a0)) 7) (Int.tmod (wrap64 (a1)) 7) bt102.1 bt106.1 (((Int.tmod (wrap64 (a0)) 7) == (Int.tmod (wrap64 (a1)) 7)) != ((bt102.1.length : Int) == 0)))) else (vesperslaw20_ProtocolWays.j0 k l2 t101 (Int.tmod (wrap64 (a0)) 7) (Int.tmod (wrap64 (a1)) 7) bt102.1 bt106.1 true)) else (vesperslaw20_ProtocolWays.j0 k l2 t101 (Int.tmod (wrap64 (a0)) 7) (Int.tmod (wrap64 (a1)) 7) bt102.1 bt106.1 true))))) = some r := h
  clear h
  replace H := Option.bind_eq_some_iff.mp H
  obtain ⟨t101, A40, H⟩ := H
  replace H : ((protocol_Way.f (Int.tmod (wrap64 (a0)) 7) (Int.tmod (wrap64 (a1)) 7)).bind fun bt102 => ((protocol_Run.f k (Int.tmod (wrap64 (a0)) 7) bt102.1).bind fun bt106 => (if bt102.2 = 0 then (if bt106.2 = (bt102.1.length : Int) then (if (bt102.1.length : Int) > 7 then (vesperslaw20_ProtocolWays.j0 k l2 t101 (Int.tmod (wrap64 (a0)) 7) (Int.tmod (wrap64 (a1)) 7) bt102.1 bt106.1 true) else (vesperslaw20_ProtocolWays.j0 k l2 t101 (Int.tmod (wrap64 (a0)) 7) (Int.tmod (wrap64 (a1)) 7) bt102.1 bt106.1 (((Int.tmod (wrap64 (a0)) 7) == (Int.tmod (wrap64 (a1)) 7)) != ((bt102.1.length : Int) == 0)))) else (vesperslaw20_ProtocolWays.j0 k l2 t101 (Int.tmod (wrap64 (a0)) 7) (Int.tmod (wrap64 (a1)) 7) bt102.1 bt106.1 true)) else (vesperslaw20_ProtocolWays.j0 k l2 t101 (Int.tmod (wrap64 (a0)) 7) (Int.tmod (wrap64 (a1)) 7) bt102.1 bt106.1 true)))) = some r := H
  have A4 := Aside0.mk A40
  clear A40
  replace H := Option.bind_eq_some_iff.mp H
  obtain ⟨⟨t102, t103⟩, A50, H⟩ := H
  replace H : ((protocol_Run.f k (Int.tmod (wrap64 (a0)) 7) t102).bind fun bt106 => (if t103 = 0 then (if bt106.2 = (t102.length : Int) then (if (t102.length : Int) > 7 then (vesperslaw20_ProtocolWays.j0 k l2 t101 (Int.tmod (wrap64 (a0)) 7) (Int.tmod (wrap64 (a1)) 7) t102 bt106.1 true) else (vesperslaw20_ProtocolWays.j0 k l2 t101 (Int.tmod (wrap64 (a0)) 7) (Int.tmod (wrap64 (a1)) 7) t102 bt106.1 (((Int.tmod (wrap64 (a0)) 7) == (Int.tmod (wrap64 (a1)) 7)) != ((t102.length : Int) == 0)))) else (vesperslaw20_ProtocolWays.j0 k l2 t101 (Int.tmod (wrap64 (a0)) 7) (Int.tmod (wrap64 (a1)) 7) t102 bt106.1 true)) else (vesperslaw20_ProtocolWays.j0 k l2 t101 (Int.tmod (wrap64 (a0)) 7) (Int.tmod (wrap64 (a1)) 7) t102 bt106.1 true))) = some r := H
  have A5 := Aside0.mk A50
  clear A50
  replace H := Option.bind_eq_some_iff.mp H
  obtain ⟨⟨t106, t107⟩, A60, H⟩ := H
  replace H : (if t103 = 0 then (if t107 = (t102.length : Int) then (if (t102.length : Int) > 7 then (vesperslaw20_ProtocolWays.j0 k l2 t101 (Int.tmod (wrap64 (a0)) 7) (Int.tmod (wrap64 (a1)) 7) t102 t106 true) else (vesperslaw20_ProtocolWays.j0 k l2 t101 (Int.tmod (wrap64 (a0)) 7) (Int.tmod (wrap64 (a1)) 7) t102 t106 (((Int.tmod (wrap64 (a0)) 7) == (Int.tmod (wrap64 (a1)) 7)) != ((t102.length : Int) == 0)))) else (vesperslaw20_ProtocolWays.j0 k l2 t101 (Int.tmod (wrap64 (a0)) 7) (Int.tmod (wrap64 (a1)) 7) t102 t106 true)) else (vesperslaw20_ProtocolWays.j0 k l2 t101 (Int.tmod (wrap64 (a0)) 7) (Int.tmod (wrap64 (a1)) 7) t102 t106 true)) = some r := H
  have A6 := Aside0.mk A60
  clear A60
  have HC7 := Aside0.mk H
  clear H
  go_enter Try.func4, Try.ntmps4
  go_upto_region 5 with (first | ((with_reducible refine gate_callee (f := 6) rfl ?_); refine goesL_ (some 18) rfl rfl Try.func6 (by kernel_rfl) rfl #[] rfl (by (try simp only [List.map_toArray, List.map_cons, List.map_nil]); first | done | rfl | (simp only [List.length_drop, List.length_take]; rfl)) ?_; (with_reducible refine (vesperslaw20_alive.calls  t101 _ A4.out).mono ?_); rintro e w8 ⟨rfl, hb⟩; refine ⟨_, rfl, ?_⟩; have n0_ := Aside0.mk (below_step (by repeat (first | (with_reducible first | exact HB.out | apply below_alloc | apply pw_below_drewN | apply below_drew1) | exact HB.out)) hb); clear HB; have HB := n0_; clear n0_; (try clear hb); (try clear hb2); (try clear hk); (try clear hi)) | ((with_reducible refine gate_callee (f := 9) rfl ?_); refine goesL_ (some 28) rfl rfl Try.func9 (by kernel_rfl) rfl #[.int .i64 (Int.tmod (wrap64 (a0)) 7), .int .i64 (Int.tmod (wrap64 (a1)) 7)] rfl (by (try simp only [List.map_toArray, List.map_cons, List.map_nil]); first | done | rfl | (simp only [List.length_drop, List.length_take]; rfl)) ?_; (with_reducible refine (protocol_Way.calls (Int.tmod (wrap64 (a0)) 7) (Int.tmod (wrap64 (a1)) 7) t102 t103 _ A5.out).mono ?_); rintro e w9 ⟨v104, rfl, ho0, hb⟩; refine ⟨_, rfl, ?_⟩; have n0_ := Aside0.mk (Kd.R_lower ho0 (below_size (by repeat (first | (with_reducible first | exact HB.out | apply below_alloc | apply pw_below_drewN | apply below_drew1) | exact HB.out)))); have n1_ := Aside0.mk (below_step (by repeat (first | (with_reducible first | exact HB.out | apply below_alloc | apply pw_below_drewN | apply below_drew1) | exact HB.out)) hb); clear HB; have HO105 := n0_; have HB := n1_; clear n0_ n1_; (try clear hb); (try clear hb2); (try clear hk); (try clear hi); (try clear ho0); obtain ⟨Ao10, co10, eo10⟩ := Kd.R_slice HO105.out; subst eo10) | ((with_reducible refine gate_callee (f := 7) rfl ?_); refine goesL_ (some 34) rfl rfl Try.func7 (by kernel_rfl) rfl #[.int .i64 (Int.tmod (wrap64 (a0)) 7), .slice Ao10 t102.length co10] rfl (by (try simp only [List.map_toArray, List.map_cons, List.map_nil]); first | done | rfl | (simp only [List.length_drop, List.length_take]; rfl)) ?_; (with_reducible refine (protocol_Run.calls k (Int.tmod (wrap64 (a0)) 7) _ _ t102 t106 t107 _ ?side1 ?side2 A6.out).mono ?_); (case side1 => repeat (first | exact (Kd.R_reads' HO105.out).2.2 | (with_reducible refine Kd.C_alloc ?_ _) | (with_reducible refine Kd.C_drewN ?_ _) | (with_reducible refine Kd.C_drew ?_))); (case side2 => exact (Kd.R_reads' HO105.out).2.1); rintro e w11 ⟨v108, rfl, ho0, hb⟩; refine ⟨_, rfl, ?_⟩; have n0_ := Aside0.mk (Kd.R_elder' (by (with_reducible repeat (first | apply Kd.R_alloc | apply Kd.R_drewN | apply Kd.R_drew)); exact HO105.out) (Kd.R_base ho0) hb); have n1_ := Aside0.mk (Kd.R_lower (Kd.R_new' ho0 (Kd.R_lt (by (with_reducible repeat (first | apply Kd.R_alloc | apply Kd.R_drewN | apply Kd.R_drew)); exact HO105.out))) (below_size (by repeat (first | (with_reducible first | exact HB.out | apply below_alloc | apply pw_below_drewN | apply below_drew1) | exact HB.out)))); have n2_ := Aside0.mk (below_step (by repeat (first | (with_reducible first | exact HB.out | apply below_alloc | apply pw_below_drewN | apply below_drew1) | exact HB.out)) hb); clear HO105; clear HB; have HO105 := n0_; have HO109 := n1_; have HB := n2_; clear n0_ n1_ n2_; (try clear hb); (try clear hb2); (try clear hk); (try clear hi); (try clear ho0)))
  (try simp only [Act.put, List.setIfInBounds_toArray, List.set_cons_zero, List.set_cons_succ])
  go_cut [58] (fun v58 wc => ∃ (kq : Nat) (x58_6 : Bool), v58 = .bool x58_6 ∧ Aside0 (vesperslaw20_ProtocolWays.j0 kq l2 t101 (Int.tmod (wrap64 (a0)) 7) (Int.tmod (wrap64 (a1)) 7) t102 t106 x58_6 = some r) ∧ Aside0 (kq ≤ k) ∧ Aside0 (Kd.R (Kd.int .i64) 3 wc w.heap.size (fun k_ => some k_ ≠ (v108 : Value).ownBlock) (.slice Ao10 t102.length co10) t102) ∧ Aside0 (Kd.R (Kd.int .i64) 3 wc w.heap.size (fun k_ => some k_ ≠ ((.slice Ao10 t102.length co10) : Value).ownBlock) v108 t106) ∧ Aside0 (Below w.heap.size w wc))
  case first =>
    have H := HC7.out
    clear HC7
    by_cases c12 : t103 = 0
    · rw [if_pos c12] at H
      have c12b0 : (t103 == 0) = true := beq_iff_eq.mpr c12
      have c12b1 : (t103 != 0) = false := bne_eq_false_iff_eq.mpr c12
      clear c12
      (first | rw [c12b0] | rw [c12b1] | (simp only [i64_w, i32_w]; rw [c12b0]) | skip)
      by_cases c13 : t107 = (t102.length : Int)
      · rw [if_pos c13] at H
        have c13b0 : (t107 == (t102.length : Int)) = true := beq_iff_eq.mpr c13
        have c13b1 : (t107 != (t102.length : Int)) = false := bne_eq_false_iff_eq.mpr c13
        clear c13
        by_cases c14 : (t102.length : Int) > 7
        · rw [if_pos c14] at H
          have c14b0 : decide (7 < (t102.length : Int)) = true := decide_eq_true c14
          have c14b1 : decide (7 < t102.length) = true := decide_eq_true (by omega)
          clear c14
          have H' := Aside0.mk H
          clear H
          go_wp2
          go_meet
          case rel => exact ⟨_, (true), (by first | rfl | (simp; done) | (simp [*]; done)), H', ⟨by first | omega | exact Nat.le_refl _⟩, ⟨by (with_reducible repeat (first | apply Kd.R_alloc | apply Kd.R_drewN | apply Kd.R_drew)); exact Kd.R_mono HO105.out (fun _ hk => hk.2)⟩, ⟨by (with_reducible repeat (first | apply Kd.R_alloc | apply Kd.R_drewN | apply Kd.R_drew)); exact Kd.R_mono HO109.out (fun _ hk => hk.2)⟩, ⟨by repeat (first | (with_reducible first | exact HB.out | apply below_alloc | apply pw_below_drewN | apply below_drew1) | exact HB.out)⟩⟩
        · rw [if_neg c14] at H
          have c14b0 : decide (7 < (t102.length : Int)) = false := decide_eq_false c14
          have c14b1 : decide (7 < t102.length) = false := decide_eq_false (by omega)
          clear c14
          have H' := Aside0.mk H
          clear H
          go_wp2
          go_meet
          case rel => exact ⟨_, ((((Int.tmod (wrap64 (a0)) 7) == (Int.tmod (wrap64 (a1)) 7)) != ((t102.length : Int) == 0))), (by first | rfl | (simp; done) | (simp [*]; done)), H', ⟨by first | omega | exact Nat.le_refl _⟩, ⟨by (with_reducible repeat (first | apply Kd.R_alloc | apply Kd.R_drewN | apply Kd.R_drew)); exact Kd.R_mono HO105.out (fun _ hk => hk.2)⟩, ⟨by (with_reducible repeat (first | apply Kd.R_alloc | apply Kd.R_drewN | apply Kd.R_drew)); exact Kd.R_mono HO109.out (fun _ hk => hk.2)⟩, ⟨by repeat (first | (with_reducible first | exact HB.out | apply below_alloc | apply pw_below_drewN | apply below_drew1) | exact HB.out)⟩⟩
      · rw [if_neg c13] at H
        have c13b0 : (t107 == (t102.length : Int)) = false := beq_eq_false_iff_ne.mpr c13
        have c13b1 : (t107 != (t102.length : Int)) = true := bne_iff_ne.mpr c13
        have H' := Aside0.mk H
        clear H
        go_wp2
        go_meet
        case rel => exact ⟨_, (true), (by first | rfl | (simp; done) | (simp [*]; done)), H', ⟨by first | omega | exact Nat.le_refl _⟩, ⟨by (with_reducible repeat (first | apply Kd.R_alloc | apply Kd.R_drewN | apply Kd.R_drew)); exact Kd.R_mono HO105.out (fun _ hk => hk.2)⟩, ⟨by (with_reducible repeat (first | apply Kd.R_alloc | apply Kd.R_drewN | apply Kd.R_drew)); exact Kd.R_mono HO109.out (fun _ hk => hk.2)⟩, ⟨by repeat (first | (with_reducible first | exact HB.out | apply below_alloc | apply pw_below_drewN | apply below_drew1) | exact HB.out)⟩⟩
    · rw [if_neg c12] at H
      have c12b0 : (t103 == 0) = false := beq_eq_false_iff_ne.mpr c12
      have c12b1 : (t103 != 0) = true := bne_iff_ne.mpr c12
      (first | rw [c12b0] | rw [c12b1] | (simp only [i64_w, i32_w]; rw [c12b0]) | skip)
      have H' := Aside0.mk H
      clear H
      go_wp2
      go_meet
      case rel => exact ⟨_, (true), (by first | rfl | (simp; done) | (simp [*]; done)), H', ⟨by first | omega | exact Nat.le_refl _⟩, ⟨by (with_reducible repeat (first | apply Kd.R_alloc | apply Kd.R_drewN | apply Kd.R_drew)); exact Kd.R_mono HO105.out (fun _ hk => hk.2)⟩, ⟨by (with_reducible repeat (first | apply Kd.R_alloc | apply Kd.R_drewN | apply Kd.R_drew)); exact Kd.R_mono HO109.out (fun _ hk => hk.2)⟩, ⟨by repeat (first | (with_reducible first | exact HB.out | apply below_alloc | apply pw_below_drewN | apply below_drew1) | exact HB.out)⟩⟩
  case rest =>
    clear HC7
    try clear c1
    try clear c2
    try clear p2
    try clear c4
    try clear c6
    try clear p6
    try clear c7
    try clear c9
    try clear c12
    try clear c12b0
    try clear c12b1
    try clear c13
    try clear c13b0
    try clear c13b1
    try clear c14
    try clear c14b0
    try clear c14b1
    obtain ⟨kq, x58_6, rfl, HA, HJ6, HO_10, HO_12, HB⟩ := hcut
    cases kq with
    | zero => exact absurd HA.out (by simp [vesperslaw20_ProtocolWays.j0])
    | succ kj6 =>
      have H := HA.out
      clear HA
      simp only [vesperslaw20_ProtocolWays.j0] at H
      by_cases c15 : x58_6 = true
      · subst c15
        have H1 : (none) = some r := by rw [if_pos rfl] at H; exact H
        clear H
        have H := H1
        clear H1
        exact absurd H (by simp)
      · replace c15 := Bool.eq_false_iff.mpr c15
        subst c15
        have H1 : (vesperslaw20_ProtocolWays.l0 kj6 l2 t101 (Int.tmod (wrap64 (a0)) 7) (Int.tmod (wrap64 (a1)) 7) t102 t106 t106 (t106.length : Int) 0) = some r := by rw [if_neg (show ¬ (false = true) by decide)] at H; exact H
        clear H
        have H := H1
        clear H1
        have H' := Aside0.mk H
        clear H
        obtain ⟨Ao16, co16, eo16⟩ := Kd.R_slice HO_12.out
        subst eo16
        go_wp2
        go_loopg [61] kj6 (fun kq v61 w' => ∃ (x61_2 : Int), v61 = .int .i64 x61_2 ∧ Aside0 (vesperslaw20_ProtocolWays.l0 kq l2 t101 (Int.tmod (wrap64 (a0)) 7) (Int.tmod (wrap64 (a1)) 7) t102 t106 t106 (t106.length : Int) x61_2 = some r) ∧ Aside0 (kq ≤ kj6) ∧ Aside0 (Kd.R (Kd.int .i64) 3 w' w.heap.size (fun k_ => some k_ ≠ ((.slice Ao16 t106.length co16) : Value).ownBlock ∧ some k_ ≠ ((.slice Ao16 t106.length co16) : Value).ownBlock) (.slice Ao10 t102.length co10) t102) ∧ Aside0 (Kd.R (Kd.int .i64) 3 w' w.heap.size (fun k_ => some k_ ≠ ((.slice Ao10 t102.length co10) : Value).ownBlock) (.slice Ao16 t106.length co16) t106) ∧ Aside0 (Kd.R (Kd.int .i64) 3 w' w.heap.size (fun k_ => some k_ ≠ ((.slice Ao10 t102.length co10) : Value).ownBlock) (.slice Ao16 t106.length co16) t106) ∧ Aside0 (Below w.heap.size w w'))
        case atStart => exact ⟨(0), (by first | rfl | (simp; done) | (simp [*]; done)), H', ⟨Nat.le_refl _⟩, ⟨by (with_reducible repeat (first | apply Kd.R_alloc | apply Kd.R_drewN | apply Kd.R_drew)); exact Kd.R_mono HO_10.out (fun _ hk => ⟨hk, hk⟩)⟩, ⟨by (with_reducible repeat (first | apply Kd.R_alloc | apply Kd.R_drewN | apply Kd.R_drew)); exact HO_12.out⟩, ⟨by (with_reducible repeat (first | apply Kd.R_alloc | apply Kd.R_drewN | apply Kd.R_drew)); exact HO_12.out⟩, ⟨by repeat (first | (with_reducible first | exact HB.out | apply below_alloc | apply pw_below_drewN | apply below_drew1) | exact HB.out)⟩⟩
        case round =>
          clear H'
          try clear c1
          try clear c2
          try clear p2
          try clear c4
          try clear c6
          try clear p6
          try clear c7
          try clear c9
          try clear c12
          try clear c12b0
          try clear c12b1
          try clear c13
          try clear c13b0
          try clear c13b1
          try clear c14
          try clear c14b0
          try clear c14b1
          try clear c15
          try clear p2
          try clear p6
          obtain ⟨x61_2, rfl, HA, HK2, HO_10, HO_12, HO_59, HB⟩ := hrel
          cases gk with
          | zero => exact absurd HA.out (by simp [vesperslaw20_ProtocolWays.l0])
          | succ k2 =>
            have H := HA.out
            clear HA
            simp only [vesperslaw20_ProtocolWays.l0] at H
            by_cases c17 : x61_2 < (t106.length : Int)
            · rw [if_pos c17] at H
              have c17b0 : decide (x61_2 < (t106.length : Int)) = true := decide_eq_true c17
              clear c17
              by_cases c18 : 0 ≤ x61_2
              · rw [if_pos c18] at H
                have c18b0 : decide (0 ≤ x61_2) = true := decide_eq_true c18
                clear c18
                by_cases c19 : x61_2 < (t106.length : Int)
                · rw [if_pos c19] at H
                  have c19b0 : decide (x61_2 < (t106.length : Int)) = true := decide_eq_true c19
                  clear c19
                  by_cases c20 : (((rd t106 x61_2) == (Int.tmod (wrap64 (a1)) 7)) != (x61_2 == (wrap64 ((t106.length : Int) - 1)))) = true
                  · rw [if_pos c20] at H
                    exact absurd H (by simp)
                  · rw [if_neg c20] at H
                    have c20b0 : (((rd t106 x61_2) == (Int.tmod (wrap64 (a1)) 7)) != (x61_2 == (wrap64 ((t106.length : Int) - 1)))) = false := by simpa using c20
                    (try (have c20b1 : decide (((rd t106 x61_2) == (Int.tmod (wrap64 (a1)) 7)) = (x61_2 == (wrap64 ((t106.length : Int) - 1)))) = true := by simpa using c20))
                    (try (have c20b2 : (((rd t106 x61_2) == (Int.tmod (wrap64 (a1)) 7)) == (x61_2 == (wrap64 ((t106.length : Int) - 1)))) = true := by simpa using c20))
                    clear c20
                    have H' := Aside0.mk H
                    clear H
                    have p110 : 0 ≤ (x61_2 : Int) := of_decide_eq_true (by first | (with_reducible assumption) | assumption)
                    have q110 : x61_2 < (t106.length : Int) := of_decide_eq_true (by first | (with_reducible assumption) | assumption)
                    obtain ⟨ad110, e110, hx110_0⟩ := Kd.at_int (Kd.R_reads' HO_59.out).2.2 x61_2 p110 q110
                    cases e110
                    replace p110 := eq_true p110
                    replace q110 := eq_true q110
                    go_wp2
                    go_roundg k2
                    case measure => have := HJ6.out; have := HK2.out; omega
                    case rel => exact ⟨(wrap64 (x61_2 + 1)), (by first | rfl | (simp; done) | (simp [*]; done)), H', ⟨by have := HJ6.out; have := HK2.out; omega⟩, ⟨by (with_reducible repeat (first | apply Kd.R_alloc | apply Kd.R_drewN | apply Kd.R_drew)); exact HO_10.out⟩, ⟨by (with_reducible repeat (first | apply Kd.R_alloc | apply Kd.R_drewN | apply Kd.R_drew)); exact HO_12.out⟩, ⟨by (with_reducible repeat (first | apply Kd.R_alloc | apply Kd.R_drewN | apply Kd.R_drew)); exact HO_59.out⟩, ⟨by repeat (first | (with_reducible first | exact HB.out | apply below_alloc | apply pw_below_drewN | apply below_drew1) | exact HB.out)⟩⟩
                · rw [if_neg c19] at H
                  exact absurd H (by simp)
              · rw [if_neg c18] at H
                exact absurd H (by simp)
            · rw [if_neg c17] at H
              have c17b0 : decide (x61_2 < (t106.length : Int)) = false := decide_eq_false c17
              clear c17
              by_cases c21 : (l2.length : Int) > 6
              · rw [if_pos c21] at H
                have c21b0 : decide (6 < (l2.length : Int)) = true := decide_eq_true c21
                have c21b1 : decide (6 < l2.length) = true := decide_eq_true (by omega)
                clear c21
                obtain rfl := Option.some.inj H
                go_wp2
                go_ret
                exact ⟨by first | rfl | (simp [errW_none, errW_some] <;> rfl) | (simp [*, errW_none, errW_some] <;> rfl), by repeat (first | (with_reducible first | exact HB.out | apply below_alloc | apply pw_below_drewN | apply below_drew1) | exact HB.out)⟩
              · rw [if_neg c21] at H
                have c21b0 : decide (6 < (l2.length : Int)) = false := decide_eq_false c21
                have c21b1 : decide (6 < l2.length) = false := decide_eq_false (by omega)
                clear c21
                by_cases c22 : (l2.length : Int) ≥ (t102.length : Int)
                · rw [if_pos c22] at H
                  have c22b0 : decide ((t102.length : Int) ≤ (l2.length : Int)) = true := decide_eq_true c22
                  have c22b1 : decide (t102.length ≤ l2.length) = true := decide_eq_true (Int.ofNat_le.mp c22)
                  clear c22
                  obtain rfl := Option.some.inj H
                  go_wp2
                  go_ret
                  exact ⟨by first | rfl | (simp [errW_none, errW_some] <;> rfl) | (simp [*, errW_none, errW_some] <;> rfl), by repeat (first | (with_reducible first | exact HB.out | apply below_alloc | apply pw_below_drewN | apply below_drew1) | exact HB.out)⟩
                · rw [if_neg c22] at H
                  have c22b0 : decide ((t102.length : Int) ≤ (l2.length : Int)) = false := decide_eq_false c22
                  have c22b1 : decide (t102.length ≤ l2.length) = false := decide_eq_false (fun h => c22 (Int.ofNat_le.mpr h))
                  clear c22
                  replace H := Option.bind_eq_some_iff.mp H
                  obtain ⟨⟨t111, t112⟩, A230, H⟩ := H
                  replace H : (if t101 = true then (if t112 < (l2.length : Int) then (some true) else (if (t111.length : Int) = 0 then (some true) else (if 0 ≤ (wrap64 ((t111.length : Int) - 1)) then (if (wrap64 ((t111.length : Int) - 1)) < (t111.length : Int) then (some ((rd t111 (wrap64 ((t111.length : Int) - 1))) != (Int.tmod (wrap64 (a1)) 7))) else (none)) else (none)))) else (none)) = some r := H
                  have A23 := Aside0.mk A230
                  clear A230
                  by_cases c24 : t101 = true
                  · subst c24
                    have H1 : (if t112 < (l2.length : Int) then (some true) else (if (t111.length : Int) = 0 then (some true) else (if 0 ≤ (wrap64 ((t111.length : Int) - 1)) then (if (wrap64 ((t111.length : Int) - 1)) < (t111.length : Int) then (some ((rd t111 (wrap64 ((t111.length : Int) - 1))) != (Int.tmod (wrap64 (a1)) 7))) else (none)) else (none)))) = some r := by rw [if_pos rfl] at H; exact H
                    clear H
                    have H := H1
                    clear H1
                    by_cases c25 : t112 < (l2.length : Int)
                    · rw [if_pos c25] at H
                      have c25b0 : decide (t112 < (l2.length : Int)) = true := decide_eq_true c25
                      clear c25
                      obtain rfl := Option.some.inj H
                      go_wp2_with (first | ((with_reducible refine gate_callee (f := 7) rfl ?_); refine goesL_ (some 90) rfl rfl Try.func7 (by kernel_rfl) rfl #[.int .i64 (Int.tmod (wrap64 (a0)) 7), .slice A2 l2.length c2] rfl (by (try simp only [List.map_toArray, List.map_cons, List.map_nil]); first | done | rfl | (simp only [List.length_drop, List.length_take]; rfl)) ?_; (with_reducible refine (protocol_Run.calls k2 (Int.tmod (wrap64 (a0)) 7) _ _ l2 t111 t112 _ ?side1 ?side2 A23.out).mono ?_); (case side1 => repeat (first | exact (Kd.C_below HR2.out HB.out) | (with_reducible refine Kd.C_alloc ?_ _) | (with_reducible refine Kd.C_drewN ?_ _) | (with_reducible refine Kd.C_drew ?_))); (case side2 => exact HC2.out); rintro e w26 ⟨v113, rfl, ho0, hb⟩; refine ⟨_, rfl, ?_⟩; have n0_ := Aside0.mk (Kd.R_elder' (by (with_reducible repeat (first | apply Kd.R_alloc | apply Kd.R_drewN | apply Kd.R_drew)); exact HO_10.out) (Kd.R_base ho0) hb); have n1_ := Aside0.mk (Kd.R_elder' (by (with_reducible repeat (first | apply Kd.R_alloc | apply Kd.R_drewN | apply Kd.R_drew)); exact HO_12.out) (Kd.R_base ho0) hb); have n2_ := Aside0.mk (Kd.R_elder' (by (with_reducible repeat (first | apply Kd.R_alloc | apply Kd.R_drewN | apply Kd.R_drew)); exact HO_59.out) (Kd.R_base ho0) hb); have n3_ := Aside0.mk (Kd.R_lower (Kd.R_new' (Kd.R_new' (Kd.R_new' ho0 (Kd.R_lt (by (with_reducible repeat (first | apply Kd.R_alloc | apply Kd.R_drewN | apply Kd.R_drew)); exact HO_10.out))) (Kd.R_lt (by (with_reducible repeat (first | apply Kd.R_alloc | apply Kd.R_drewN | apply Kd.R_drew)); exact HO_12.out))) (Kd.R_lt (by (with_reducible repeat (first | apply Kd.R_alloc | apply Kd.R_drewN | apply Kd.R_drew)); exact HO_59.out))) (below_size (by repeat (first | (with_reducible first | exact HB.out | apply below_alloc | apply pw_below_drewN | apply below_drew1) | exact HB.out)))); have n4_ := Aside0.mk (below_step (by repeat (first | (with_reducible first | exact HB.out | apply below_alloc | apply pw_below_drewN | apply below_drew1) | exact HB.out)) hb); clear HO_10; clear HO_12; clear HO_59; clear HB; have HO_10 := n0_; have HO_12 := n1_; have HO_59 := n2_; have HO114 := n3_; have HB := n4_; clear n0_ n1_ n2_ n3_ n4_; (try clear hb); (try clear hb2); (try clear hk); (try clear hi); (try clear ho0)))
                      go_ret
                      exact ⟨by first | rfl | (simp [errW_none, errW_some] <;> rfl) | (simp [*, errW_none, errW_some] <;> rfl), by repeat (first | (with_reducible first | exact HB.out | apply below_alloc | apply pw_below_drewN | apply below_drew1) | exact HB.out)⟩
                    · rw [if_neg c25] at H
                      have c25b0 : decide (t112 < (l2.length : Int)) = false := decide_eq_false c25
                      clear c25
                      by_cases c27 : (t111.length : Int) = 0
                      · rw [if_pos c27] at H
                        have c27b0 : ((t111.length : Int) == 0) = true := beq_iff_eq.mpr c27
                        have c27b1 : ((t111.length : Int) != 0) = false := bne_eq_false_iff_eq.mpr c27
                        clear c27
                        obtain rfl := Option.some.inj H
                        go_wp2_with (first | ((with_reducible refine gate_callee (f := 7) rfl ?_); refine goesL_ (some 90) rfl rfl Try.func7 (by kernel_rfl) rfl #[.int .i64 (Int.tmod (wrap64 (a0)) 7), .slice A2 l2.length c2] rfl (by (try simp only [List.map_toArray, List.map_cons, List.map_nil]); first | done | rfl | (simp only [List.length_drop, List.length_take]; rfl)) ?_; (with_reducible refine (protocol_Run.calls k2 (Int.tmod (wrap64 (a0)) 7) _ _ l2 t111 t112 _ ?side1 ?side2 A23.out).mono ?_); (case side1 => repeat (first | exact (Kd.C_below HR2.out HB.out) | (with_reducible refine Kd.C_alloc ?_ _) | (with_reducible refine Kd.C_drewN ?_ _) | (with_reducible refine Kd.C_drew ?_))); (case side2 => exact HC2.out); rintro e w28 ⟨v113, rfl, ho0, hb⟩; refine ⟨_, rfl, ?_⟩; have n0_ := Aside0.mk (Kd.R_elder' (by (with_reducible repeat (first | apply Kd.R_alloc | apply Kd.R_drewN | apply Kd.R_drew)); exact HO_10.out) (Kd.R_base ho0) hb); have n1_ := Aside0.mk (Kd.R_elder' (by (with_reducible repeat (first | apply Kd.R_alloc | apply Kd.R_drewN | apply Kd.R_drew)); exact HO_12.out) (Kd.R_base ho0) hb); have n2_ := Aside0.mk (Kd.R_elder' (by (with_reducible repeat (first | apply Kd.R_alloc | apply Kd.R_drewN | apply Kd.R_drew)); exact HO_59.out) (Kd.R_base ho0) hb); have n3_ := Aside0.mk (Kd.R_lower (Kd.R_new' (Kd.R_new' (Kd.R_new' ho0 (Kd.R_lt (by (with_reducible repeat (first | apply Kd.R_alloc | apply Kd.R_drewN | apply Kd.R_drew)); exact HO_10.out))) (Kd.R_lt (by (with_reducible repeat (first | apply Kd.R_alloc | apply Kd.R_drewN | apply Kd.R_drew)); exact HO_12.out))) (Kd.R_lt (by (with_reducible repeat (first | apply Kd.R_alloc | apply Kd.R_drewN | apply Kd.R_drew)); exact HO_59.out))) (below_size (by repeat (first | (with_reducible first | exact HB.out | apply below_alloc | apply pw_below_drewN | apply below_drew1) | exact HB.out)))); have n4_ := Aside0.mk (below_step (by repeat (first | (with_reducible first | exact HB.out | apply below_alloc | apply pw_below_drewN | apply below_drew1) | exact HB.out)) hb); clear HO_10; clear HO_12; clear HO_59; clear HB; have HO_10 := n0_; have HO_12 := n1_; have HO_59 := n2_; have HO114 := n3_; have HB := n4_; clear n0_ n1_ n2_ n3_ n4_; (try clear hb); (try clear hb2); (try clear hk); (try clear hi); (try clear ho0); obtain ⟨Ao29, co29, eo29⟩ := Kd.R_slice HO114.out; subst eo29))
                        go_ret
                        exact ⟨by first | rfl | (simp [errW_none, errW_some] <;> rfl) | (simp [*, errW_none, errW_some] <;> rfl), by repeat (first | (with_reducible first | exact HB.out | apply below_alloc | apply pw_below_drewN | apply below_drew1) | exact HB.out)⟩
                      · rw [if_neg c27] at H
                        have c27b0 : ((t111.length : Int) == 0) = false := beq_eq_false_iff_ne.mpr c27
                        have c27b1 : ((t111.length : Int) != 0) = true := bne_iff_ne.mpr c27
                        have c27b2 : ¬ (t111 = []) := fun h_ => c27 (by rw [h_]; rfl)
                        obtain ⟨ji30, hji30⟩ : ∃ j_ : Int, (wrap64 ((t111.length : Int) - 1)) = j_ := ⟨_, rfl⟩
                        replace H : (if 0 ≤ (ji30) then (if (ji30) < (t111.length : Int) then (some ((rd t111 (ji30)) != (Int.tmod (wrap64 (a1)) 7))) else (none)) else (none)) = some r := by first | (rw [hji30] at H; exact H) | (simp only [hji30] at H ⊢; exact H)
                        (try rw [hji30] at A23)
                        have hji30w : (IntKind.i64.wrap ((t111.length : Int) - 1)) = ji30 := (i64_w _).trans hji30
                        by_cases c31 : 0 ≤ (ji30)
                        · rw [if_pos c31] at H
                          have c31b0 : decide (0 ≤ (ji30)) = true := decide_eq_true c31
                          clear c31
                          by_cases c32 : (ji30) < (t111.length : Int)
                          · rw [if_pos c32] at H
                            have c32b0 : decide ((ji30) < (t111.length : Int)) = true := decide_eq_true c32
                            clear c32
                            obtain rfl := Option.some.inj H
                            go_wp2_with (first | ((with_reducible refine gate_callee (f := 7) rfl ?_); refine goesL_ (some 90) rfl rfl Try.func7 (by kernel_rfl) rfl #[.int .i64 (Int.tmod (wrap64 (a0)) 7), .slice A2 l2.length c2] rfl (by (try simp only [List.map_toArray, List.map_cons, List.map_nil]); first | done | rfl | (simp only [List.length_drop, List.length_take]; rfl)) ?_; (with_reducible refine (protocol_Run.calls k2 (Int.tmod (wrap64 (a0)) 7) _ _ l2 t111 t112 _ ?side1 ?side2 A23.out).mono ?_); (case side1 => repeat (first | exact (Kd.C_below HR2.out HB.out) | (with_reducible refine Kd.C_alloc ?_ _) | (with_reducible refine Kd.C_drewN ?_ _) | (with_reducible refine Kd.C_drew ?_))); (case side2 => exact HC2.out); rintro e w33 ⟨v113, rfl, ho0, hb⟩; refine ⟨_, rfl, ?_⟩; have n0_ := Aside0.mk (Kd.R_elder' (by (with_reducible repeat (first | apply Kd.R_alloc | apply Kd.R_drewN | apply Kd.R_drew)); exact HO_10.out) (Kd.R_base ho0) hb); have n1_ := Aside0.mk (Kd.R_elder' (by (with_reducible repeat (first | apply Kd.R_alloc | apply Kd.R_drewN | apply Kd.R_drew)); exact HO_12.out) (Kd.R_base ho0) hb); have n2_ := Aside0.mk (Kd.R_elder' (by (with_reducible repeat (first | apply Kd.R_alloc | apply Kd.R_drewN | apply Kd.R_drew)); exact HO_59.out) (Kd.R_base ho0) hb); have n3_ := Aside0.mk (Kd.R_lower (Kd.R_new' (Kd.R_new' (Kd.R_new' ho0 (Kd.R_lt (by (with_reducible repeat (first | apply Kd.R_alloc | apply Kd.R_drewN | apply Kd.R_drew)); exact HO_10.out))) (Kd.R_lt (by (with_reducible repeat (first | apply Kd.R_alloc | apply Kd.R_drewN | apply Kd.R_drew)); exact HO_12.out))) (Kd.R_lt (by (with_reducible repeat (first | apply Kd.R_alloc | apply Kd.R_drewN | apply Kd.R_drew)); exact HO_59.out))) (below_size (by repeat (first | (with_reducible first | exact HB.out | apply below_alloc | apply pw_below_drewN | apply below_drew1) | exact HB.out)))); have n4_ := Aside0.mk (below_step (by repeat (first | (with_reducible first | exact HB.out | apply below_alloc | apply pw_below_drewN | apply below_drew1) | exact HB.out)) hb); clear HO_10; clear HO_12; clear HO_59; clear HB; have HO_10 := n0_; have HO_12 := n1_; have HO_59 := n2_; have HO114 := n3_; have HB := n4_; clear n0_ n1_ n2_ n3_ n4_; (try clear hb); (try clear hb2); (try clear hk); (try clear hi); (try clear ho0); obtain ⟨Ao34, co34, eo34⟩ := Kd.R_slice HO114.out; subst eo34; have p115 : 0 ≤ ((ji30) : Int) := of_decide_eq_true (by first | (with_reducible assumption) | assumption); have q115 : (ji30) < (t111.length : Int) := of_decide_eq_true (by first | (with_reducible assumption) | assumption); obtain ⟨ad115, e115, hx115_0⟩ := Kd.at_int (Kd.R_reads' HO114.out).2.2 (ji30) p115 q115; cases e115; replace p115 := eq_true p115; replace q115 := eq_true q115))
                            go_ret
                            exact ⟨by first | rfl | (simp [errW_none, errW_some] <;> rfl) | (simp only [← hji30]; first | rfl | (simp [errW_none, errW_some] <;> rfl)) | (simp [*, errW_none, errW_some] <;> rfl), by repeat (first | (with_reducible first | exact HB.out | apply below_alloc | apply pw_below_drewN | apply below_drew1) | exact HB.out)⟩
                          · rw [if_neg c32] at H
                            exact absurd H (by simp)
                        · rw [if_neg c31] at H
                          exact absurd H (by simp)
                  · replace c24 := Bool.eq_false_iff.mpr c24
                    subst c24
                    have H1 : (none) = some r := by rw [if_neg (show ¬ (false = true) by decide)] at H; exact H
                    clear H
                    have H := H1
                    clear H1
                    exact absurd H (by simp)

/-- THE ONE PURE STATEMENT of vesperslaw20_ProtocolWays: yours. -/
def vesperslaw20_ProtocolWays.Pure : Prop := ∀ (a0 : Int) (a1 : Int) (l2 : List Int), (Lit.int .u8 a0).wf = true → (Lit.int .u8 a1).wf = true → l2.length ≤ maxLen → l2.length * 8 ≤ 140737488351232 → (∀ x ∈ l2, (Lit.int .i64 x).wf = true) → ∃ k, vesperslaw20_ProtocolWays.f k a0 a1 l2 = some true
theorem vesperslaw20_ProtocolWays.walk (P : vesperslaw20_ProtocolWays.Pure) (a0 : Int) (a1 : Int) (a2 : Option Addr) (len2 cap2 : Nat) (z2 : List Int) (w : World) (w0 : (Lit.int .u8 a0).wf = true) (w1 : (Lit.int .u8 a1).wf = true) (w2 : (a2 = none ∧ len2 = 0 ∧ cap2 = 0 ∧ z2 = []) ∨ ∃ x, a2 = some x ∧ len2 ≤ cap2 ∧ cap2 ≤ maxLen ∧ z2.length = cap2 ∧ (∀ i, i < z2.length → w.cell? (x.add i) = some (.int .i64 (z2.getD i 0))) ∧ ∀ n ∈ z2, (Lit.int .i64 n).wf = true) (y2 : len2 * 8 ≤ 140737488351232) :
    Calls Try.prog 4 #[.int .u8 a0, .int .u8 a1, .slice a2 len2 cap2] w fun e w' => e = .returned (.bool true) ∧ Below w.heap.size w w' := by
  obtain ⟨l2, rfl, hr2, hm2, hw2, hc2⟩ := ReadsInt.ofRowC w2
  obtain ⟨k, h⟩ := P a0 a1 l2 w0 w1 hm2 y2 hw2
  refine (vesperslaw20_ProtocolWays.calls k a0 a1 _ _ l2 true w (Kd.C_of_reads (d := (0 : Int)) (h1 := fun _ => rfl) hr2) hc2 h).mono ?_
  rintro e w' ⟨rfl, hd⟩
  exact ⟨rfl, hd⟩

end Go.Proofs.Ytbbiihifhdcniaa.PD
