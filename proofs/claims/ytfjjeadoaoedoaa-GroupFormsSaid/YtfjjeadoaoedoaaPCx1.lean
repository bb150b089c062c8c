/- Written by a program of this session (wip/jprint.py, over the printer of the kit): functions that a law comes to, as plain Lean functions, and walks; Lean checks it. -/
import Derived.Test.YtfjjeadoaoedoaaPCx0
namespace Go.Proofs.Ytfjjeadoaoedoaa.PC
open Go.RowKit Go.Proofs.Ytfjjeadoaoedoaa.Hand Go.Proofs.Ytfjjeadoaoedoaa.PA Go.Proofs.Ytfjjeadoaoedoaa.PB Go.Proofs.YtfjjeadoaoedoaaW.PrintWords Go.Proofs.YtfjjeadoaoedoaaW.PrintLast Go.Proofs.YtfjjeadoaoedoaaW.PrintMore
attribute [local go_sem] max2_int min2_int max_two min_two max_three min_three max_four min_four   -- for this text's walks alone
set_option linter.unusedVariables false
set_option linter.unusedSimpArgs false

-- BY HAND: function 11 (group_List)

-- BY HAND: function 14 (group_Has)

-- BY HAND: function 16 (group_With)

-- BY HAND: function 18 (group_Without)

-- BY HAND: function 20 (group_Count)

-- BY HAND: function 32 (vesperslaw03_alive)

-- BY HAND: function 33 (group_Of)

-- BY HAND: function 34 (group_Text)

-- BY HAND: function 36 (group_Parse)

/-! ### vesperslaw03_GroupBack: function 9 -/
mutual
def vesperslaw03_GroupBack.j0 : Nat → Int → ByteArray → Bool → Int → Int → Int → Bool → Option (Bool)
  | 0, _, _, _, _, _, _, _ => none
  | k + 1, x0, x2, x7, x8, x9, x11, x54 => if x54 = true then (if x7 = true then (if (x2.size : Int) > 100 then (if x9 = x0 then (some (x11 == x0)) else (none)) else (none)) else (none)) else ((group_Has.f x0 x8).bind fun t110 => ((group_With.f x0 x8).bind fun t111 => ((group_Without.f x0 x8).bind fun t112 => ((group_Has.f t111 x8).bind fun t113 => (if t113 = true then ((group_Has.f t112 x8).bind fun t114 => (if t114 = true then (vesperslaw03_GroupBack.j1 k x2 x7 true) else (if (t110 != (t111 == x0)) = true then (vesperslaw03_GroupBack.j1 k x2 x7 true) else (if (t110 == (t112 == x0)) = true then (vesperslaw03_GroupBack.j1 k x2 x7 true) else ((group_Count.f t111).bind fun t115 => ((group_Count.f t112).bind fun t116 => (vesperslaw03_GroupBack.j1 k x2 x7 ((wrap64 (t115 - t116)) != 1)))))))) else (vesperslaw03_GroupBack.j1 k x2 x7 true))))))
def vesperslaw03_GroupBack.j1 : Nat → ByteArray → Bool → Bool → Option (Bool)
  | 0, _, _, _ => none
  | k + 1, x2, x7, x110 => if x110 = true then (none) else ((group_Parse.f x2).bind fun bt117 => (if x7 = true then (if bt117.2 = 0 then ((group_Text.f bt117.1).bind fun t119 => (some (t119.toList == x2.toList))) else (some true)) else (none)))
end
def vesperslaw03_GroupBack.f (k : Nat) (a0 : Int) (a1 : Int) (a2 : ByteArray) : Option (Bool) := (vesperslaw03_alive.f k).bind fun t101 => ((group_List.f a0).bind fun t102 => ((group_Of.f k t102).bind fun bt105 => ((group_Text.f a0).bind fun t107 => ((group_Parse.f t107).bind fun bt108 => (if bt105.2 = 0 then (if bt108.2 = 0 then (if bt105.1 = a0 then (if bt108.1 = a0 then (vesperslaw03_GroupBack.j0 k a0 a2 t101 (Int.tmod (wrap64 (a1)) 16) bt105.1 bt108.1 (decide ((a2.size : Int) > 100))) else (vesperslaw03_GroupBack.j0 k a0 a2 t101 (Int.tmod (wrap64 (a1)) 16) bt105.1 bt108.1 true)) else (vesperslaw03_GroupBack.j0 k a0 a2 t101 (Int.tmod (wrap64 (a1)) 16) bt105.1 bt108.1 true)) else (vesperslaw03_GroupBack.j0 k a0 a2 t101 (Int.tmod (wrap64 (a1)) 16) bt105.1 bt108.1 true)) else (vesperslaw03_GroupBack.j0 k a0 a2 t101 (Int.tmod (wrap64 (a1)) 16) bt105.1 bt108.1 true))))))
theorem vesperslaw03_GroupBack.mono_l : ∀ k, (∀ y0 y1 y2 y3 y4 y5 y6, LeO (vesperslaw03_GroupBack.j0 k y0 y1 y2 y3 y4 y5 y6) (vesperslaw03_GroupBack.j0 (k + 1) y0 y1 y2 y3 y4 y5 y6)) ∧ (∀ y0 y1 y2, LeO (vesperslaw03_GroupBack.j1 k y0 y1 y2) (vesperslaw03_GroupBack.j1 (k + 1) y0 y1 y2))
  | 0 => ⟨fun _ _ _ _ _ _ _ r h => by simp [vesperslaw03_GroupBack.j0] at h, fun _ _ _ r h => by simp [vesperslaw03_GroupBack.j1] at h⟩
  | k + 1 => by
    obtain ⟨ih0, ih1⟩ := vesperslaw03_GroupBack.mono_l k
    refine ⟨?_, ?_⟩
    · intro y0 y1 y2 y3 y4 y5 y6
      unfold vesperslaw03_GroupBack.j0
      repeat' first
      | (with_reducible exact ih0 _ _ _ _ _ _ _)
      | (with_reducible exact ih1 _ _ _)
      | (with_reducible exact group_Of.mono _ _)
      | (with_reducible exact vesperslaw03_alive.mono _)
      | (with_reducible exact LeO.refl _)
      | (with_reducible exact LeO.none _)
      | (with_reducible refine LeO.ite ?_ ?_)
      | (with_reducible refine LeO.bind ?_ (fun _ => ?_))
      | exact ih0 _ _ _ _ _ _ _
      | exact ih1 _ _ _
      | exact group_Of.mono _ _
      | exact vesperslaw03_alive.mono _
      | exact LeO.none _
      | refine LeO.ite ?_ ?_
      | refine LeO.bind ?_ (fun _ => ?_)
    · intro y0 y1 y2
      unfold vesperslaw03_GroupBack.j1
      repeat' first
      | (with_reducible exact ih0 _ _ _ _ _ _ _)
      | (with_reducible exact ih1 _ _ _)
      | (with_reducible exact group_Of.mono _ _)
      | (with_reducible exact vesperslaw03_alive.mono _)
      | (with_reducible exact LeO.refl _)
      | (with_reducible exact LeO.none _)
      | (with_reducible refine LeO.ite ?_ ?_)
      | (with_reducible refine LeO.bind ?_ (fun _ => ?_))
      | exact ih0 _ _ _ _ _ _ _
      | exact ih1 _ _ _
      | exact group_Of.mono _ _
      | exact vesperslaw03_alive.mono _
      | exact LeO.none _
      | refine LeO.ite ?_ ?_
      | refine LeO.bind ?_ (fun _ => ?_)
theorem vesperslaw03_GroupBack.mono : ∀ a0 a1 a2 k, LeO (vesperslaw03_GroupBack.f k a0 a1 a2) (vesperslaw03_GroupBack.f (k + 1) a0 a1 a2) := by
  intro a0 a1 a2 k
  obtain ⟨ih0, ih1⟩ := vesperslaw03_GroupBack.mono_l k
  unfold vesperslaw03_GroupBack.f
  repeat' first
      | (with_reducible exact ih0 _ _ _ _ _ _ _)
      | (with_reducible exact ih1 _ _ _)
      | (with_reducible exact group_Of.mono _ _)
      | (with_reducible exact vesperslaw03_alive.mono _)
      | (with_reducible exact LeO.refl _)
      | (with_reducible exact LeO.none _)
      | (with_reducible refine LeO.ite ?_ ?_)
      | (with_reducible refine LeO.bind ?_ (fun _ => ?_))
      | exact ih0 _ _ _ _ _ _ _
      | exact ih1 _ _ _
      | exact group_Of.mono _ _
      | exact vesperslaw03_alive.mono _
      | exact LeO.none _
      | refine LeO.ite ?_ ?_
      | refine LeO.bind ?_ (fun _ => ?_)
set_option maxHeartbeats 8000000 in
set_option maxRecDepth 100000 in
theorem vesperslaw03_GroupBack.calls (k : Nat) (a0 : Int) (a1 : Int) (a2 : ByteArray) (r : Bool) (w : World) (hm : MaxAt w) (h : vesperslaw03_GroupBack.f k a0 a1 a2 = some r) :
    Calls Try.prog 9 #[.int .u16 a0, .int .u8 a1, .string a2] w fun e w' => e = .returned (.bool r) ∧ Below w.heap.size w w' := by
  have HB := Aside0.mk (Below.refl w.heap.size w)
  have H : ((vesperslaw03_alive.f k).bind fun t101 => ((group_List.f a0).bind fun t102 => ((group_Of.f k t102).bind fun bt105 => ((group_Text.f a0).bind fun t107 => ((group_Parse.f t107).bind fun bt108 => (if bt105.2 = 0 then (if bt108.2 = 0 then (if bt105.1 = a0 then (if bt108.1 = a0 then (vesperslaw03_GroupBack.j0 k a0 a2 t101 (Int.tmod (wrap64 (a1)) 16) bt105.1 bt108.1 (decide ((a2.size : Int) > 100))) else (vesperslaw03_GroupBack.j0 k a0 a2 t101 (Int.tmod (wrap64 (a1)) 16) bt105.1 bt108.1 true)) else (vesperslaw03_GroupBack.j0 k a0 a2 t101 (Int.tmod (wrap64 (a1)) 16) bt105.1 bt108.1 true)) else (vesperslaw03_GroupBack.j0 k a0 a2 t101 (Int.tmod (wrap64 (a1)) 16) bt105.1 bt108.1 true)) else (vesperslaw03_GroupBack.j0 k a0 a2 t101 (Int.tmod (wrap64 (a1)) 16) bt105.1 bt108.1 true))))))) = some r := h
  clear h
  replace H := Option.bind_eq_some_iff.mp H
  obtain ⟨t101, A40, H⟩ := H
  replace H : ((group_List.f a0).bind fun t102 => ((group_Of.f k t102).bind fun bt105 => ((group_Text.f a0).bind fun t107 => ((group_Parse.f t107).bind fun bt108 => (if bt105.2 = 0 then (if bt108.2 = 0 then (if bt105.1 = a0 then (if bt108.1 = a0 then (vesperslaw03_GroupBack.j0 k a0 a2 t101 (Int.tmod (wrap64 (a1)) 16) bt105.1 bt108.1 (decide ((a2.size : Int) > 100))) else (vesperslaw03_GroupBack.j0 k a0 a2 t101 (Int.tmod (wrap64 (a1)) 16) bt105.1 bt108.1 true)) else (vesperslaw03_GroupBack.j0 k a0 a2 t101 (Int.tmod (wrap64 (a1)) 16) bt105.1 bt108.1 true)) else (vesperslaw03_GroupBack.j0 k a0 a2 t101 (Int.tmod (wrap64 (a1)) 16) bt105.1 bt108.1 true)) else (vesperslaw03_GroupBack.j0 k a0 a2 t101 (Int.tmod (wrap64 (a1)) 16) bt105.1 bt108.1 true)))))) = some r := H
  have A4 := Aside0.mk A40
  clear A40
  replace H := Option.bind_eq_some_iff.mp H
  obtain ⟨t102, A50, H⟩ := H
  replace H : ((group_Of.f k t102).bind fun bt105 => ((group_Text.f a0).bind fun t107 => ((group_Parse.f t107).bind fun bt108 => (if bt105.2 = 0 then (if bt108.2 = 0 then (if bt105.1 = a0 then (if bt108.1 = a0 then (vesperslaw03_GroupBack.j0 k a0 a2 t101 (Int.tmod (wrap64 (a1)) 16) bt105.1 bt108.1 (decide ((a2.size : Int) > 100))) else (vesperslaw03_GroupBack.j0 k a0 a2 t101 (Int.tmod (wrap64 (a1)) 16) bt105.1 bt108.1 true)) else (vesperslaw03_GroupBack.j0 k a0 a2 t101 (Int.tmod (wrap64 (a1)) 16) bt105.1 bt108.1 true)) else (vesperslaw03_GroupBack.j0 k a0 a2 t101 (Int.tmod (wrap64 (a1)) 16) bt105.1 bt108.1 true)) else (vesperslaw03_GroupBack.j0 k a0 a2 t101 (Int.tmod (wrap64 (a1)) 16) bt105.1 bt108.1 true))))) = some r := H
  have A5 := Aside0.mk A50
  clear A50
  replace H := Option.bind_eq_some_iff.mp H
  obtain ⟨⟨t105, t106⟩, A60, H⟩ := H
  replace H : ((group_Text.f a0).bind fun t107 => ((group_Parse.f t107).bind fun bt108 => (if t106 = 0 then (if bt108.2 = 0 then (if t105 = a0 then (if bt108.1 = a0 then (vesperslaw03_GroupBack.j0 k a0 a2 t101 (Int.tmod (wrap64 (a1)) 16) t105 bt108.1 (decide ((a2.size : Int) > 100))) else (vesperslaw03_GroupBack.j0 k a0 a2 t101 (Int.tmod (wrap64 (a1)) 16) t105 bt108.1 true)) else (vesperslaw03_GroupBack.j0 k a0 a2 t101 (Int.tmod (wrap64 (a1)) 16) t105 bt108.1 true)) else (vesperslaw03_GroupBack.j0 k a0 a2 t101 (Int.tmod (wrap64 (a1)) 16) t105 bt108.1 true)) else (vesperslaw03_GroupBack.j0 k a0 a2 t101 (Int.tmod (wrap64 (a1)) 16) t105 bt108.1 true)))) = some r := H
  have A6 := Aside0.mk A60
  clear A60
  replace H := Option.bind_eq_some_iff.mp H
  obtain ⟨t107, A70, H⟩ := H
  replace H : ((group_Parse.f t107).bind fun bt108 => (if t106 = 0 then (if bt108.2 = 0 then (if t105 = a0 then (if bt108.1 = a0 then (vesperslaw03_GroupBack.j0 k a0 a2 t101 (Int.tmod (wrap64 (a1)) 16) t105 bt108.1 (decide ((a2.size : Int) > 100))) else (vesperslaw03_GroupBack.j0 k a0 a2 t101 (Int.tmod (wrap64 (a1)) 16) t105 bt108.1 true)) else (vesperslaw03_GroupBack.j0 k a0 a2 t101 (Int.tmod (wrap64 (a1)) 16) t105 bt108.1 true)) else (vesperslaw03_GroupBack.j0 k a0 a2 t101 (Int.tmod (wrap64 (a1)) 16) t105 bt108.1 true)) else (vesperslaw03_GroupBack.j0 k a0 a2 t101 (Int.tmod (wrap64 (a1)) 16) t105 bt108.1 true))) = some r := H
  have A7 := Aside0.mk A70
  clear A70
  replace H := Option.bind_eq_some_iff.mp H
  obtain ⟨⟨t108, t109⟩, A80, H⟩ := H
  replace H : (if t106 = 0 then (if t109 = 0 then (if t105 = a0 then (if t108 = a0 then (vesperslaw03_GroupBack.j0 k a0 a2 t101 (Int.tmod (wrap64 (a1)) 16) t105 t108 (decide ((a2.size : Int) > 100))) else (vesperslaw03_GroupBack.j0 k a0 a2 t101 (Int.tmod (wrap64 (a1)) 16) t105 t108 true)) else (vesperslaw03_GroupBack.j0 k a0 a2 t101 (Int.tmod (wrap64 (a1)) 16) t105 t108 true)) else (vesperslaw03_GroupBack.j0 k a0 a2 t101 (Int.tmod (wrap64 (a1)) 16) t105 t108 true)) else (vesperslaw03_GroupBack.j0 k a0 a2 t101 (Int.tmod (wrap64 (a1)) 16) t105 t108 true)) = some r := H
  have A8 := Aside0.mk A80
  clear A80
  have HC9 := Aside0.mk H
  clear H
  go_enter Try.func9, Try.ntmps9
  go_upto_region 5 with (first | ((with_reducible refine gate_callee (f := 32) rfl ?_); refine goesL_ (some 18) rfl rfl Try.func32 (by kernel_rfl) rfl #[] rfl (by (try simp only [List.map_toArray, List.map_cons, List.map_nil]); first | done | rfl | (simp only [List.length_drop, List.length_take]; rfl)) ?_; (with_reducible refine (vesperslaw03_alive.calls k  t101 _ A4.out).mono ?_); rintro e w10 ⟨rfl, hb⟩; refine ⟨_, rfl, ?_⟩; have n0_ := Aside0.mk (below_step (by repeat (first | (with_reducible first | exact HB.out | apply below_alloc | apply pw_below_drewN | apply below_drew1) | exact HB.out)) hb); clear HB; have HB := n0_; clear n0_; (try clear hb); (try clear hb2); (try clear hk); (try clear hi)) | ((with_reducible refine gate_callee (f := 11) rfl ?_); refine goesL_ (some 24) rfl rfl Try.func11 (by kernel_rfl) rfl #[.int .u16 a0] rfl (by (try simp only [List.map_toArray, List.map_cons, List.map_nil]); first | done | rfl | (simp only [List.length_drop, List.length_take]; rfl)) ?_; (with_reducible refine (group_List.calls a0 t102 _ A5.out).mono ?_); rintro e w11 ⟨v103, rfl, ho0, hb⟩; refine ⟨_, rfl, ?_⟩; have n0_ := Aside0.mk (Kd.R_lower ho0 (below_size (by repeat (first | (with_reducible first | exact HB.out | apply below_alloc | apply pw_below_drewN | apply below_drew1) | exact HB.out)))); have n1_ := Aside0.mk (below_step (by repeat (first | (with_reducible first | exact HB.out | apply below_alloc | apply pw_below_drewN | apply below_drew1) | exact HB.out)) hb); clear HB; have HO104 := n0_; have HB := n1_; clear n0_ n1_; (try clear hb); (try clear hb2); (try clear hk); (try clear hi); (try clear ho0); obtain ⟨Ao12, co12, eo12⟩ := Kd.R_slice HO104.out; subst eo12) | ((with_reducible refine gate_callee (f := 33) rfl ?_); refine goesL_ (some 25) rfl rfl Try.func33 (by kernel_rfl) rfl #[.slice Ao12 t102.length co12] rfl (by (try simp only [List.map_toArray, List.map_cons, List.map_nil]); first | done | rfl | (simp only [List.length_drop, List.length_take]; rfl)) ?_; (with_reducible refine (group_Of.calls k _ _ t102 t105 t106 _ ?side1 ?side2 A6.out).mono ?_); (case side1 => repeat (first | exact (Kd.R_reads' HO104.out).2.2 | (with_reducible refine Kd.C_alloc ?_ _) | (with_reducible refine Kd.C_drewN ?_ _) | (with_reducible refine Kd.C_drew ?_))); (case side2 => exact (Kd.R_reads' HO104.out).2.1); rintro e w' ⟨rfl, ⟨nd, rfl⟩⟩; refine ⟨_, rfl, ?_⟩) | ((with_reducible refine gate_callee (f := 34) rfl ?_); refine goesL_ (some 30) rfl rfl Try.func34 (by kernel_rfl) rfl #[.int .u16 a0] rfl (by (try simp only [List.map_toArray, List.map_cons, List.map_nil]); first | done | rfl | (simp only [List.length_drop, List.length_take]; rfl)) ?_; (with_reducible refine (group_Text.calls a0 t107 _ A7.out).mono ?_); rintro e w13 ⟨rfl, hb⟩; refine ⟨_, rfl, ?_⟩; have n0_ := Aside0.mk (Kd.R_below (by (with_reducible repeat (first | apply Kd.R_alloc | apply Kd.R_drewN | apply Kd.R_drew)); exact HO104.out) hb); have n1_ := Aside0.mk (below_step (by repeat (first | (with_reducible first | exact HB.out | apply below_alloc | apply pw_below_drewN | apply below_drew1) | exact HB.out)) hb); clear HO104; clear HB; have HO104 := n0_; have HB := n1_; clear n0_ n1_; (try clear hb); (try clear hb2); (try clear hk); (try clear hi)) | ((with_reducible refine gate_callee (f := 36) rfl ?_); refine goesL_ (some 31) rfl rfl Try.func36 (by kernel_rfl) rfl #[.string t107] rfl (by (try simp only [List.map_toArray, List.map_cons, List.map_nil]); first | done | rfl | (simp only [List.length_drop, List.length_take]; rfl)) ?_; (with_reducible refine (group_Parse.callsAt t107 t108 t109 _ (hm.below (n := 0) (by repeat (first | (with_reducible first | exact HB.out | apply below_alloc | apply pw_below_drewN | apply below_drew1) | exact HB.out))) A8.out).mono ?_); rintro e w14 ⟨rfl, hb⟩; refine ⟨_, rfl, ?_⟩; have n0_ := Aside0.mk (Kd.R_below (by (with_reducible repeat (first | apply Kd.R_alloc | apply Kd.R_drewN | apply Kd.R_drew)); exact HO104.out) hb); have n1_ := Aside0.mk (below_step (by repeat (first | (with_reducible first | exact HB.out | apply below_alloc | apply pw_below_drewN | apply below_drew1) | exact HB.out)) hb); clear HO104; clear HB; have HO104 := n0_; have HB := n1_; clear n0_ n1_; (try clear hb); (try clear hb2); (try clear hk); (try clear hi)))
  (try simp only [Act.put, List.setIfInBounds_toArray, List.set_cons_zero, List.set_cons_succ])
  go_cut [54] (fun v54 wc => ∃ (kq : Nat) (x54_8 : Bool), v54 = .bool x54_8 ∧ Aside0 (vesperslaw03_GroupBack.j0 kq a0 a2 t101 (Int.tmod (wrap64 (a1)) 16) t105 t108 x54_8 = some r) ∧ Aside0 (kq ≤ k) ∧ Aside0 (Below w.heap.size w wc))
  case first =>
    have H := HC9.out
    clear HC9
    by_cases c15 : t106 = 0
    · rw [if_pos c15] at H
      have c15b0 : (t106 == 0) = true := beq_iff_eq.mpr c15
      have c15b1 : (t106 != 0) = false := bne_eq_false_iff_eq.mpr c15
      clear c15
      (first | rw [c15b0] | (simp only [i64_w, i32_w]; rw [c15b0]) | skip)
      by_cases c16 : t109 = 0
      · rw [if_pos c16] at H
        have c16b0 : (t109 == 0) = true := beq_iff_eq.mpr c16
        have c16b1 : (t109 != 0) = false := bne_eq_false_iff_eq.mpr c16
        clear c16
        by_cases c17 : t105 = a0
        · rw [if_pos c17] at H
          have c17b0 : (t105 == a0) = true := beq_iff_eq.mpr c17
          have c17b1 : (t105 != a0) = false := bne_eq_false_iff_eq.mpr c17
          clear c17
          by_cases c18 : t108 = a0
          · rw [if_pos c18] at H
            have c18b0 : (t108 == a0) = true := beq_iff_eq.mpr c18
            have c18b1 : (t108 != a0) = false := bne_eq_false_iff_eq.mpr c18
            clear c18
            have H' := Aside0.mk H
            clear H
            go_wp2
            go_meet
            case rel => exact ⟨_, (decide ((a2.size : Int) > 100)), (by first | rfl | (simp; done) | (simp [*]; done)), H', ⟨by first | omega | exact Nat.le_refl _⟩, ⟨by repeat (first | (with_reducible first | exact HB.out | apply below_alloc | apply pw_below_drewN | apply below_drew1) | exact HB.out)⟩⟩
          · rw [if_neg c18] at H
            have c18b0 : (t108 == a0) = false := beq_eq_false_iff_ne.mpr c18
            have c18b1 : (t108 != a0) = true := bne_iff_ne.mpr c18
            have H' := Aside0.mk H
            clear H
            go_wp2
            go_meet
            case rel => exact ⟨_, (true), (by first | rfl | (simp; done) | (simp [*]; done)), H', ⟨by first | omega | exact Nat.le_refl _⟩, ⟨by repeat (first | (with_reducible first | exact HB.out | apply below_alloc | apply pw_below_drewN | apply below_drew1) | exact HB.out)⟩⟩
        · rw [if_neg c17] at H
          have c17b0 : (t105 == a0) = false := beq_eq_false_iff_ne.mpr c17
          have c17b1 : (t105 != a0) = true := bne_iff_ne.mpr c17
          have H' := Aside0.mk H
          clear H
          go_wp2
          go_meet
          case rel => exact ⟨_, (true), (by first | rfl | (simp; done) | (simp [*]; done)), H', ⟨by first | omega | exact Nat.le_refl _⟩, ⟨by repeat (first | (with_reducible first | exact HB.out | apply below_alloc | apply pw_below_drewN | apply below_drew1) | exact HB.out)⟩⟩
      · rw [if_neg c16] at H
        have c16b0 : (t109 == 0) = false := beq_eq_false_iff_ne.mpr c16
        have c16b1 : (t109 != 0) = true := bne_iff_ne.mpr c16
        have H' := Aside0.mk H
        clear H
        go_wp2
        go_meet
        case rel => exact ⟨_, (true), (by first | rfl | (simp; done) | (simp [*]; done)), H', ⟨by first | omega | exact Nat.le_refl _⟩, ⟨by repeat (first | (with_reducible first | exact HB.out | apply below_alloc | apply pw_below_drewN | apply below_drew1) | exact HB.out)⟩⟩
    · rw [if_neg c15] at H
      have c15b0 : (t106 == 0) = false := beq_eq_false_iff_ne.mpr c15
      have c15b1 : (t106 != 0) = true := bne_iff_ne.mpr c15
      (first | rw [c15b0] | (simp only [i64_w, i32_w]; rw [c15b0]) | skip)
      have H' := Aside0.mk H
      clear H
      go_wp2
      go_meet
      case rel => exact ⟨_, (true), (by first | rfl | (simp; done) | (simp [*]; done)), H', ⟨by first | omega | exact Nat.le_refl _⟩, ⟨by repeat (first | (with_reducible first | exact HB.out | apply below_alloc | apply pw_below_drewN | apply below_drew1) | exact HB.out)⟩⟩
  case rest =>
    clear HC9
    try clear c1
    try clear p2
    try clear c3
    try clear p6
    try clear c9
    try clear c11
    try clear c15
    try clear c15b0
    try clear c15b1
    try clear c16
    try clear c16b0
    try clear c16b1
    try clear c17
    try clear c17b0
    try clear c17b1
    try clear c18
    try clear c18b0
    try clear c18b1
    obtain ⟨kq, x54_8, rfl, HA, HJ8, HB⟩ := hcut
    cases kq with
    | zero => exact absurd HA.out (by simp [vesperslaw03_GroupBack.j0])
    | succ kj8 =>
      have H := HA.out
      clear HA
      simp only [vesperslaw03_GroupBack.j0] at H
      by_cases c19 : x54_8 = true
      · subst c19
        have H1 : (if t101 = true then (if (a2.size : Int) > 100 then (if t105 = a0 then (some (t108 == a0)) else (none)) else (none)) else (none)) = some r := by rw [if_pos rfl] at H; exact H
        clear H
        have H := H1
        clear H1
        by_cases c20 : t101 = true
        · subst c20
          have H1 : (if (a2.size : Int) > 100 then (if t105 = a0 then (some (t108 == a0)) else (none)) else (none)) = some r := by rw [if_pos rfl] at H; exact H
          clear H
          have H := H1
          clear H1
          by_cases c21 : (a2.size : Int) > 100
          · rw [if_pos c21] at H
            have c21b0 : decide (100 < (a2.size : Int)) = true := decide_eq_true c21
            have c21b1 : decide (100 < a2.size) = true := decide_eq_true (by omega)
            clear c21
            by_cases c22 : t105 = a0
            · rw [if_pos c22] at H
              have c22b0 : (t105 == a0) = true := beq_iff_eq.mpr c22
              have c22b1 : (t105 != a0) = false := bne_eq_false_iff_eq.mpr c22
              clear c22
              obtain rfl := Option.some.inj H
              go_wp2
              go_ret
              exact ⟨by first | rfl | (simp [errW_none, errW_some] <;> rfl) | (simp [*, errW_none, errW_some] <;> rfl), by repeat (first | (with_reducible first | exact HB.out | apply below_alloc | apply pw_below_drewN | apply below_drew1) | exact HB.out)⟩
            · rw [if_neg c22] at H
              exact absurd H (by simp)
          · rw [if_neg c21] at H
            exact absurd H (by simp)
        · replace c20 := Bool.eq_false_iff.mpr c20
          subst c20
          have H1 : (none) = some r := by rw [if_neg (show ¬ (false = true) by decide)] at H; exact H
          clear H
          have H := H1
          clear H1
          exact absurd H (by simp)
      · replace c19 := Bool.eq_false_iff.mpr c19
        subst c19
        have H1 : ((group_Has.f a0 (Int.tmod (wrap64 (a1)) 16)).bind fun t110 => ((group_With.f a0 (Int.tmod (wrap64 (a1)) 16)).bind fun t111 => ((group_Without.f a0 (Int.tmod (wrap64 (a1)) 16)).bind fun t112 => ((group_Has.f t111 (Int.tmod (wrap64 (a1)) 16)).bind fun t113 => (if t113 = true then ((group_Has.f t112 (Int.tmod (wrap64 (a1)) 16)).bind fun t114 => (if t114 = true then (vesperslaw03_GroupBack.j1 kj8 a2 t101 true) else (if (t110 != (t111 == a0)) = true then (vesperslaw03_GroupBack.j1 kj8 a2 t101 true) else (if (t110 == (t112 == a0)) = true then (vesperslaw03_GroupBack.j1 kj8 a2 t101 true) else ((group_Count.f t111).bind fun t115 => ((group_Count.f t112).bind fun t116 => (vesperslaw03_GroupBack.j1 kj8 a2 t101 ((wrap64 (t115 - t116)) != 1)))))))) else (vesperslaw03_GroupBack.j1 kj8 a2 t101 true)))))) = some r := by rw [if_neg (show ¬ (false = true) by decide)] at H; exact H
        clear H
        have H := H1
        clear H1
        replace H := Option.bind_eq_some_iff.mp H
        obtain ⟨t110, A230, H⟩ := H
        replace H : ((group_With.f a0 (Int.tmod (wrap64 (a1)) 16)).bind fun t111 => ((group_Without.f a0 (Int.tmod (wrap64 (a1)) 16)).bind fun t112 => ((group_Has.f t111 (Int.tmod (wrap64 (a1)) 16)).bind fun t113 => (if t113 = true then ((group_Has.f t112 (Int.tmod (wrap64 (a1)) 16)).bind fun t114 => (if t114 = true then (vesperslaw03_GroupBack.j1 kj8 a2 t101 true) else (if (t110 != (t111 == a0)) = true then (vesperslaw03_GroupBack.j1 kj8 a2 t101 true) else (if (t110 == (t112 == a0)) = true then (vesperslaw03_GroupBack.j1 kj8 a2 t101 true) else ((group_Count.f t111).bind fun t115 => ((group_Count.f t112).bind fun t116 => (vesperslaw03_GroupBack.j1 kj8 a2 t101 ((wrap64 (t115 - t116)) != 1)))))))) else (vesperslaw03_GroupBack.j1 kj8 a2 t101 true))))) = some r := H
        have A23 := Aside0.mk A230
        clear A230
        replace H := Option.bind_eq_some_iff.mp H
        obtain ⟨t111, A240, H⟩ := H
        replace H : ((group_Without.f a0 (Int.tmod (wrap64 (a1)) 16)).bind fun t112 => ((group_Has.f t111 (Int.tmod (wrap64 (a1)) 16)).bind fun t113 => (if t113 = true then ((group_Has.f t112 (Int.tmod (wrap64 (a1)) 16)).bind fun t114 => (if t114 = true then (vesperslaw03_GroupBack.j1 kj8 a2 t101 true) else (if (t110 != (t111 == a0)) = true then (vesperslaw03_GroupBack.j1 kj8 a2 t101 true) else (if (t110 == (t112 == a0)) = true then (vesperslaw03_GroupBack.j1 kj8 a2 t101 true) else ((group_Count.f t111).bind fun t115 => ((group_Count.f t112).bind fun t116 => (vesperslaw03_GroupBack.j1 kj8 a2 t101 ((wrap64 (t115 - t116)) != 1)))))))) else (vesperslaw03_GroupBack.j1 kj8 a2 t101 true)))) = some r := H
        have A24 := Aside0.mk A240
        clear A240
        replace H := Option.bind_eq_some_iff.mp H
        obtain ⟨t112, A250, H⟩ := H
        replace H : ((group_Has.f t111 (Int.tmod (wrap64 (a1)) 16)).bind fun t113 => (if t113 = true then ((group_Has.f t112 (Int.tmod (wrap64 (a1)) 16)).bind fun t114 => (if t114 = true then (vesperslaw03_GroupBack.j1 kj8 a2 t101 true) else (if (t110 != (t111 == a0)) = true then (vesperslaw03_GroupBack.j1 kj8 a2 t101 true) else (if (t110 == (t112 == a0)) = true then (vesperslaw03_GroupBack.j1 kj8 a2 t101 true) else ((group_Count.f t111).bind fun t115 => ((group_Count.f t112).bind fun t116 => (vesperslaw03_GroupBack.j1 kj8 a2 t101 ((wrap64 (t115 - t116)) != 1)))))))) else (vesperslaw03_GroupBack.j1 kj8 a2 t101 true))) = some r := H
        have A25 := Aside0.mk A250
        clear A250
        have HC26 := Aside0.mk H
        clear H
        go_upto_region 9 with (first | ((with_reducible refine gate_callee (f := 14) rfl ?_); refine goesL_ (some 73) rfl rfl Try.func14 (by kernel_rfl) rfl #[.int .u16 a0, .int .i64 (Int.tmod (wrap64 (a1)) 16)] rfl (by (try simp only [List.map_toArray, List.map_cons, List.map_nil]); first | done | rfl | (simp only [List.length_drop, List.length_take]; rfl)) ?_; (with_reducible refine (group_Has.calls a0 (Int.tmod (wrap64 (a1)) 16) t110 _ A23.out).mono ?_); rintro e w' ⟨rfl, ⟨nd, rfl⟩⟩; refine ⟨_, rfl, ?_⟩) | ((with_reducible refine gate_callee (f := 16) rfl ?_); refine goesL_ (some 76) rfl rfl Try.func16 (by kernel_rfl) rfl #[.int .u16 a0, .int .i64 (Int.tmod (wrap64 (a1)) 16)] rfl (by (try simp only [List.map_toArray, List.map_cons, List.map_nil]); first | done | rfl | (simp only [List.length_drop, List.length_take]; rfl)) ?_; (with_reducible refine (group_With.calls a0 (Int.tmod (wrap64 (a1)) 16) t111 _ A24.out).mono ?_); rintro e w' ⟨rfl, ⟨nd, rfl⟩⟩; refine ⟨_, rfl, ?_⟩) | ((with_reducible refine gate_callee (f := 18) rfl ?_); refine goesL_ (some 79) rfl rfl Try.func18 (by kernel_rfl) rfl #[.int .u16 a0, .int .i64 (Int.tmod (wrap64 (a1)) 16)] rfl (by (try simp only [List.map_toArray, List.map_cons, List.map_nil]); first | done | rfl | (simp only [List.length_drop, List.length_take]; rfl)) ?_; (with_reducible refine (group_Without.calls a0 (Int.tmod (wrap64 (a1)) 16) t112 _ A25.out).mono ?_); rintro e w' ⟨rfl, ⟨nd, rfl⟩⟩; refine ⟨_, rfl, ?_⟩))
        (try simp only [Act.put, List.setIfInBounds_toArray, List.set_cons_zero, List.set_cons_succ])
        go_cut [110] (fun v110 wc => ∃ (kq : Nat) (x110_25 : Bool), v110 = .bool x110_25 ∧ Aside0 (vesperslaw03_GroupBack.j1 kq a2 t101 x110_25 = some r) ∧ Aside0 (kq ≤ kj8) ∧ Aside0 (Below w.heap.size w wc))
        case first =>
          have H := HC26.out
          clear HC26
          replace H := Option.bind_eq_some_iff.mp H
          obtain ⟨t113, A270, H⟩ := H
          replace H : (if t113 = true then ((group_Has.f t112 (Int.tmod (wrap64 (a1)) 16)).bind fun t114 => (if t114 = true then (vesperslaw03_GroupBack.j1 kj8 a2 t101 true) else (if (t110 != (t111 == a0)) = true then (vesperslaw03_GroupBack.j1 kj8 a2 t101 true) else (if (t110 == (t112 == a0)) = true then (vesperslaw03_GroupBack.j1 kj8 a2 t101 true) else ((group_Count.f t111).bind fun t115 => ((group_Count.f t112).bind fun t116 => (vesperslaw03_GroupBack.j1 kj8 a2 t101 ((wrap64 (t115 - t116)) != 1)))))))) else (vesperslaw03_GroupBack.j1 kj8 a2 t101 true)) = some r := H
          have A27 := Aside0.mk A270
          clear A270
          by_cases c28 : t113 = true
          · subst c28
            have H1 : ((group_Has.f t112 (Int.tmod (wrap64 (a1)) 16)).bind fun t114 => (if t114 = true then (vesperslaw03_GroupBack.j1 kj8 a2 t101 true) else (if (t110 != (t111 == a0)) = true then (vesperslaw03_GroupBack.j1 kj8 a2 t101 true) else (if (t110 == (t112 == a0)) = true then (vesperslaw03_GroupBack.j1 kj8 a2 t101 true) else ((group_Count.f t111).bind fun t115 => ((group_Count.f t112).bind fun t116 => (vesperslaw03_GroupBack.j1 kj8 a2 t101 ((wrap64 (t115 - t116)) != 1)))))))) = some r := by rw [if_pos rfl] at H; exact H
            clear H
            have H := H1
            clear H1
            replace H := Option.bind_eq_some_iff.mp H
            obtain ⟨t114, A290, H⟩ := H
            replace H : (if t114 = true then (vesperslaw03_GroupBack.j1 kj8 a2 t101 true) else (if (t110 != (t111 == a0)) = true then (vesperslaw03_GroupBack.j1 kj8 a2 t101 true) else (if (t110 == (t112 == a0)) = true then (vesperslaw03_GroupBack.j1 kj8 a2 t101 true) else ((group_Count.f t111).bind fun t115 => ((group_Count.f t112).bind fun t116 => (vesperslaw03_GroupBack.j1 kj8 a2 t101 ((wrap64 (t115 - t116)) != 1))))))) = some r := H
            have A29 := Aside0.mk A290
            clear A290
            by_cases c30 : t114 = true
            · subst c30
              have H1 : (vesperslaw03_GroupBack.j1 kj8 a2 t101 true) = some r := by rw [if_pos rfl] at H; exact H
              clear H
              have H := H1
              clear H1
              have H' := Aside0.mk H
              clear H
              go_wp2_with (first | ((with_reducible refine gate_callee (f := 14) rfl ?_); refine goesL_ (some 82) rfl rfl Try.func14 (by kernel_rfl) rfl #[.int .u16 t111, .int .i64 (Int.tmod (wrap64 (a1)) 16)] rfl (by (try simp only [List.map_toArray, List.map_cons, List.map_nil]); first | done | rfl | (simp only [List.length_drop, List.length_take]; rfl)) ?_; (with_reducible refine (group_Has.calls t111 (Int.tmod (wrap64 (a1)) 16) true _ A27.out).mono ?_); rintro e w' ⟨rfl, ⟨nd, rfl⟩⟩; refine ⟨_, rfl, ?_⟩) | (go_at_call 14; (with_reducible refine (group_Has.calls t112 (Int.tmod (wrap64 (a1)) 16) true _ A29.out).mono ?_); rintro e w' ⟨rfl, ⟨nd, rfl⟩⟩))
              go_meet
              case rel => exact ⟨_, (true), (by first | rfl | (simp; done) | (simp [*]; done)), H', ⟨by have := HJ8.out; first | omega | exact Nat.le_refl _⟩, ⟨by repeat (first | (with_reducible first | exact HB.out | apply below_alloc | apply pw_below_drewN | apply below_drew1) | exact HB.out)⟩⟩
            · replace c30 := Bool.eq_false_iff.mpr c30
              subst c30
              have H1 : (if (t110 != (t111 == a0)) = true then (vesperslaw03_GroupBack.j1 kj8 a2 t101 true) else (if (t110 == (t112 == a0)) = true then (vesperslaw03_GroupBack.j1 kj8 a2 t101 true) else ((group_Count.f t111).bind fun t115 => ((group_Count.f t112).bind fun t116 => (vesperslaw03_GroupBack.j1 kj8 a2 t101 ((wrap64 (t115 - t116)) != 1)))))) = some r := by rw [if_neg (show ¬ (false = true) by decide)] at H; exact H
              clear H
              have H := H1
              clear H1
              by_cases c31 : (t110 != (t111 == a0)) = true
              · rw [if_pos c31] at H
                have c31b0 : (t110 != (t111 == a0)) = true := c31
                (try (have c31b1 : decide (t110 = (t111 == a0)) = false := by simpa using c31))
                (try (have c31b2 : (t110 == (t111 == a0)) = false := by simpa using c31))
                (try (have c31b3 : ¬ (t110 = (t111 == a0)) := by simpa using c31))
                clear c31
                (first | rw [c31b0] | (simp only [i64_w, i32_w]; rw [c31b0]) | skip)
                have H' := Aside0.mk H
                clear H
                go_wp2_with (first | ((with_reducible refine gate_callee (f := 14) rfl ?_); refine goesL_ (some 82) rfl rfl Try.func14 (by kernel_rfl) rfl #[.int .u16 t111, .int .i64 (Int.tmod (wrap64 (a1)) 16)] rfl (by (try simp only [List.map_toArray, List.map_cons, List.map_nil]); first | done | rfl | (simp only [List.length_drop, List.length_take]; rfl)) ?_; (with_reducible refine (group_Has.calls t111 (Int.tmod (wrap64 (a1)) 16) true _ A27.out).mono ?_); rintro e w' ⟨rfl, ⟨nd, rfl⟩⟩; refine ⟨_, rfl, ?_⟩) | (go_at_call 14; (with_reducible refine (group_Has.calls t112 (Int.tmod (wrap64 (a1)) 16) false _ A29.out).mono ?_); rintro e w' ⟨rfl, ⟨nd, rfl⟩⟩))
                go_meet
                case rel => exact ⟨_, (true), (by first | rfl | (simp; done) | (simp [*]; done)), H', ⟨by have := HJ8.out; first | omega | exact Nat.le_refl _⟩, ⟨by repeat (first | (with_reducible first | exact HB.out | apply below_alloc | apply pw_below_drewN | apply below_drew1) | exact HB.out)⟩⟩
              · rw [if_neg c31] at H
                have c31b0 : (t110 != (t111 == a0)) = false := by simpa using c31
                (try (have c31b1 : decide (t110 = (t111 == a0)) = true := by simpa using c31))
                (try (have c31b2 : (t110 == (t111 == a0)) = true := by simpa using c31))
                clear c31
                (first | rw [c31b0] | (simp only [i64_w, i32_w]; rw [c31b0]) | skip)
                by_cases c32 : (t110 == (t112 == a0)) = true
                · rw [if_pos c32] at H
                  have c32b0 : (t110 == (t112 == a0)) = true := c32
                  (try (have c32b1 : decide (t110 = (t112 == a0)) = true := by simpa using c32))
                  (try (have c32b2 : (t110 == (t112 == a0)) = true := by simpa using c32))
                  clear c32
                  have H' := Aside0.mk H
                  clear H
                  go_wp2_with (first | ((with_reducible refine gate_callee (f := 14) rfl ?_); refine goesL_ (some 82) rfl rfl Try.func14 (by kernel_rfl) rfl #[.int .u16 t111, .int .i64 (Int.tmod (wrap64 (a1)) 16)] rfl (by (try simp only [List.map_toArray, List.map_cons, List.map_nil]); first | done | rfl | (simp only [List.length_drop, List.length_take]; rfl)) ?_; (with_reducible refine (group_Has.calls t111 (Int.tmod (wrap64 (a1)) 16) true _ A27.out).mono ?_); rintro e w' ⟨rfl, ⟨nd, rfl⟩⟩; refine ⟨_, rfl, ?_⟩) | (go_at_call 14; (with_reducible refine (group_Has.calls t112 (Int.tmod (wrap64 (a1)) 16) false _ A29.out).mono ?_); rintro e w' ⟨rfl, ⟨nd, rfl⟩⟩))
                  go_meet
                  case rel => exact ⟨_, (true), (by first | rfl | (simp; done) | (simp [*]; done)), H', ⟨by have := HJ8.out; first | omega | exact Nat.le_refl _⟩, ⟨by repeat (first | (with_reducible first | exact HB.out | apply below_alloc | apply pw_below_drewN | apply below_drew1) | exact HB.out)⟩⟩
                · rw [if_neg c32] at H
                  have c32b0 : (t110 == (t112 == a0)) = false := by simpa using c32
                  (try (have c32b1 : decide (t110 = (t112 == a0)) = false := by simpa using c32))
                  (try (have c32b2 : (t110 == (t112 == a0)) = false := by simpa using c32))
                  (try (have c32b3 : ¬ (t110 = (t112 == a0)) := by simpa using c32))
                  clear c32
                  replace H := Option.bind_eq_some_iff.mp H
                  obtain ⟨t115, A330, H⟩ := H
                  replace H : ((group_Count.f t112).bind fun t116 => (vesperslaw03_GroupBack.j1 kj8 a2 t101 ((wrap64 (t115 - t116)) != 1))) = some r := H
                  have A33 := Aside0.mk A330
                  clear A330
                  replace H := Option.bind_eq_some_iff.mp H
                  obtain ⟨t116, A340, H⟩ := H
                  replace H : (vesperslaw03_GroupBack.j1 kj8 a2 t101 ((wrap64 (t115 - t116)) != 1)) = some r := H
                  have A34 := Aside0.mk A340
                  clear A340
                  have H' := Aside0.mk H
                  clear H
                  go_wp2_with (first | ((with_reducible refine gate_callee (f := 14) rfl ?_); refine goesL_ (some 82) rfl rfl Try.func14 (by kernel_rfl) rfl #[.int .u16 t111, .int .i64 (Int.tmod (wrap64 (a1)) 16)] rfl (by (try simp only [List.map_toArray, List.map_cons, List.map_nil]); first | done | rfl | (simp only [List.length_drop, List.length_take]; rfl)) ?_; (with_reducible refine (group_Has.calls t111 (Int.tmod (wrap64 (a1)) 16) true _ A27.out).mono ?_); rintro e w' ⟨rfl, ⟨nd, rfl⟩⟩; refine ⟨_, rfl, ?_⟩) | (go_at_call 14; (with_reducible refine (group_Has.calls t112 (Int.tmod (wrap64 (a1)) 16) false _ A29.out).mono ?_); rintro e w' ⟨rfl, ⟨nd, rfl⟩⟩) | (go_at_call 20; (with_reducible refine (group_Count.calls t111 t115 _ A33.out).mono ?_); rintro e w' ⟨rfl, ⟨nd, rfl⟩⟩) | (go_at_call 20; (with_reducible refine (group_Count.calls t112 t116 _ A34.out).mono ?_); rintro e w' ⟨rfl, ⟨nd, rfl⟩⟩))
                  go_meet
                  case rel => exact ⟨_, (((wrap64 (t115 - t116)) != 1)), (by first | rfl | (simp; done) | (simp [*]; done)), H', ⟨by have := HJ8.out; first | omega | exact Nat.le_refl _⟩, ⟨by repeat (first | (with_reducible first | exact HB.out | apply below_alloc | apply pw_below_drewN | apply below_drew1) | exact HB.out)⟩⟩
          · replace c28 := Bool.eq_false_iff.mpr c28
            subst c28
            have H1 : (vesperslaw03_GroupBack.j1 kj8 a2 t101 true) = some r := by rw [if_neg (show ¬ (false = true) by decide)] at H; exact H
            clear H
            have H := H1
            clear H1
            have H' := Aside0.mk H
            clear H
            go_wp2_with (first | ((with_reducible refine gate_callee (f := 14) rfl ?_); refine goesL_ (some 82) rfl rfl Try.func14 (by kernel_rfl) rfl #[.int .u16 t111, .int .i64 (Int.tmod (wrap64 (a1)) 16)] rfl (by (try simp only [List.map_toArray, List.map_cons, List.map_nil]); first | done | rfl | (simp only [List.length_drop, List.length_take]; rfl)) ?_; (with_reducible refine (group_Has.calls t111 (Int.tmod (wrap64 (a1)) 16) false _ A27.out).mono ?_); rintro e w' ⟨rfl, ⟨nd, rfl⟩⟩; refine ⟨_, rfl, ?_⟩))
            go_meet
            case rel => exact ⟨_, (true), (by first | rfl | (simp; done) | (simp [*]; done)), H', ⟨by have := HJ8.out; first | omega | exact Nat.le_refl _⟩, ⟨by repeat (first | (with_reducible first | exact HB.out | apply below_alloc | apply pw_below_drewN | apply below_drew1) | exact HB.out)⟩⟩
        case rest =>
          clear HC26
          try clear c1
          try clear c2
          try clear p2
          try clear c3
          try clear p6
          try clear c9
          try clear c11
          try clear c14
          try clear c15
          try clear c15b0
          try clear c15b1
          try clear c16
          try clear c16b0
          try clear c16b1
          try clear c17
          try clear c17b0
          try clear c17b1
          try clear c18
          try clear c18b0
          try clear c18b1
          try clear c19
          try clear c20
          try clear c21
          try clear c21b0
          try clear c21b1
          try clear c22
          try clear c22b0
          try clear c22b1
          try clear c28
          try clear c30
          try clear c31
          try clear c31b0
          try clear c31b1
          try clear c31b2
          try clear c32
          try clear c32b0
          try clear c32b1
          try clear c32b2
          try clear c33
          try clear c34
          try clear p2
          try clear p6
          obtain ⟨kq, x110_25, rfl, HA, HJ25, HB⟩ := hcut
          cases kq with
          | zero => exact absurd HA.out (by simp [vesperslaw03_GroupBack.j1])
          | succ kj25 =>
            have H := HA.out
            clear HA
            simp only [vesperslaw03_GroupBack.j1] at H
            by_cases c35 : x110_25 = true
            · subst c35
              have H1 : (none) = some r := by rw [if_pos rfl] at H; exact H
              clear H
              have H := H1
              clear H1
              exact absurd H (by simp)
            · replace c35 := Bool.eq_false_iff.mpr c35
              subst c35
              have H1 : ((group_Parse.f a2).bind fun bt117 => (if t101 = true then (if bt117.2 = 0 then ((group_Text.f bt117.1).bind fun t119 => (some (t119.toList == a2.toList))) else (some true)) else (none))) = some r := by rw [if_neg (show ¬ (false = true) by decide)] at H; exact H
              clear H
              have H := H1
              clear H1
              replace H := Option.bind_eq_some_iff.mp H
              obtain ⟨⟨t117, t118⟩, A360, H⟩ := H
              replace H : (if t101 = true then (if t118 = 0 then ((group_Text.f t117).bind fun t119 => (some (t119.toList == a2.toList))) else (some true)) else (none)) = some r := H
              have A36 := Aside0.mk A360
              clear A360
              by_cases c37 : t101 = true
              · subst c37
                have H1 : (if t118 = 0 then ((group_Text.f t117).bind fun t119 => (some (t119.toList == a2.toList))) else (some true)) = some r := by rw [if_pos rfl] at H; exact H
                clear H
                have H := H1
                clear H1
                by_cases c38 : t118 = 0
                · rw [if_pos c38] at H
                  have c38b0 : (t118 == 0) = true := beq_iff_eq.mpr c38
                  have c38b1 : (t118 != 0) = false := bne_eq_false_iff_eq.mpr c38
                  clear c38
                  replace H := Option.bind_eq_some_iff.mp H
                  obtain ⟨t119, A390, H⟩ := H
                  replace H : (some (t119.toList == a2.toList)) = some r := H
                  have A39 := Aside0.mk A390
                  clear A390
                  obtain rfl := Option.some.inj H
                  go_wp2_with (first | ((with_reducible refine gate_callee (f := 36) rfl ?_); refine goesL_ (some 113) rfl rfl Try.func36 (by kernel_rfl) rfl #[.string a2] rfl (by (try simp only [List.map_toArray, List.map_cons, List.map_nil]); first | done | rfl | (simp only [List.length_drop, List.length_take]; rfl)) ?_; (with_reducible refine (group_Parse.callsAt a2 t117 t118 _ (hm.below (n := 0) (by repeat (first | (with_reducible first | exact HB.out | apply below_alloc | apply pw_below_drewN | apply below_drew1) | exact HB.out))) A36.out).mono ?_); rintro e w40 ⟨rfl, hb⟩; refine ⟨_, rfl, ?_⟩; have n0_ := Aside0.mk (below_step (by repeat (first | (with_reducible first | exact HB.out | apply below_alloc | apply pw_below_drewN | apply below_drew1) | exact HB.out)) hb); clear HB; have HB := n0_; clear n0_; (try clear hb); (try clear hb2); (try clear hk); (try clear hi)) | (go_at_call 34; (with_reducible refine (group_Text.calls t117 t119 _ A39.out).mono ?_); rintro e w41 ⟨rfl, hb⟩; have n0_ := Aside0.mk (below_step (by repeat (first | (with_reducible first | exact HB.out | apply below_alloc | apply pw_below_drewN | apply below_drew1) | exact HB.out)) hb); clear HB; have HB := n0_; clear n0_; (try clear hb); (try clear hb2); (try clear hk); (try clear hi)))
                  go_ret
                  exact ⟨by first | rfl | (simp [errW_none, errW_some] <;> rfl) | (simp [*, errW_none, errW_some] <;> rfl), by repeat (first | (with_reducible first | exact HB.out | apply below_alloc | apply pw_below_drewN | apply below_drew1) | exact HB.out)⟩
                · rw [if_neg c38] at H
                  have c38b0 : (t118 == 0) = false := beq_eq_false_iff_ne.mpr c38
                  have c38b1 : (t118 != 0) = true := bne_iff_ne.mpr c38
                  obtain rfl := Option.some.inj H
                  go_wp2_with (first | ((with_reducible refine gate_callee (f := 36) rfl ?_); refine goesL_ (some 113) rfl rfl Try.func36 (by kernel_rfl) rfl #[.string a2] rfl (by (try simp only [List.map_toArray, List.map_cons, List.map_nil]); first | done | rfl | (simp only [List.length_drop, List.length_take]; rfl)) ?_; (with_reducible refine (group_Parse.callsAt a2 t117 t118 _ (hm.below (n := 0) (by repeat (first | (with_reducible first | exact HB.out | apply below_alloc | apply pw_below_drewN | apply below_drew1) | exact HB.out))) A36.out).mono ?_); rintro e w42 ⟨rfl, hb⟩; refine ⟨_, rfl, ?_⟩; have n0_ := Aside0.mk (below_step (by repeat (first | (with_reducible first | exact HB.out | apply below_alloc | apply pw_below_drewN | apply below_drew1) | exact HB.out)) hb); clear HB; have HB := n0_; clear n0_; (try clear hb); (try clear hb2); (try clear hk); (try clear hi)))
                  go_ret
                  exact ⟨by first | rfl | (simp [errW_none, errW_some] <;> rfl) | (simp [*, errW_none, errW_some] <;> rfl), by repeat (first | (with_reducible first | exact HB.out | apply below_alloc | apply pw_below_drewN | apply below_drew1) | exact HB.out)⟩
              · replace c37 := Bool.eq_false_iff.mpr c37
                subst c37
                have H1 : (none) = some r := by rw [if_neg (show ¬ (false = true) by decide)] at H; exact H
                clear H
                have H := H1
                clear H1
                exact absurd H (by simp)

/-- THE ONE PURE STATEMENT of vesperslaw03_GroupBack: yours. -/
def vesperslaw03_GroupBack.Pure : Prop := ∀ (a0 : Int) (a1 : Int) (a2 : ByteArray), (Lit.int .u16 a0).wf = true → (Lit.int .u8 a1).wf = true → a2.size ≤ 140737488351232 → ∃ k, vesperslaw03_GroupBack.f k a0 a1 a2 = some true
theorem vesperslaw03_GroupBack.walk (P : vesperslaw03_GroupBack.Pure) (a0 : Int) (a1 : Int) (a2 : ByteArray) (w : World) (hm : MaxAt w) (w0 : (Lit.int .u16 a0).wf = true) (w1 : (Lit.int .u8 a1).wf = true) (w2 : a2.size ≤ 140737488351232) :
    Calls Try.prog 9 #[.int .u16 a0, .int .u8 a1, .string a2] w fun e w' => e = .returned (.bool true) ∧ Below w.heap.size w w' := by
  obtain ⟨k, h⟩ := P a0 a1 a2 w0 w1 w2
  refine (vesperslaw03_GroupBack.calls k a0 a1 a2 true w hm h).mono ?_
  rintro e w' ⟨rfl, hd⟩
  exact ⟨rfl, hd⟩

-- BY HAND: function 12 (vespersref03_Ints)

-- BY HAND: function 17 (vespersref03_With)

/-! ### vespersref03_Of: function 35 -/
def vespersref03_Of.l0 : Nat → List Int → Int → Int → Option (Int × Int)
  | 0, _, _, _ => none
  | k + 1, x0, x4, x5 => if x5 < (x0.length : Int) then (if 0 ≤ x5 then (if (rd x0 x5) < 0 then (some (0, 2)) else (if (rd x0 x5) > 15 then (some (0, 2)) else ((vespersref03_With.f k x4 (rd x0 x5)).bind fun t123 => (vespersref03_Of.l0 k x0 t123 (wrap64 (x5 + 1)))))) else (none)) else (some (x4, 0))
def vespersref03_Of.f (k : Nat) (l0 : List Int) : Option (Int × Int) := vespersref03_Of.l0 k l0 0 0
theorem vespersref03_Of.mono_l : ∀ k, (∀ y0 y1 y2, LeO (vespersref03_Of.l0 k y0 y1 y2) (vespersref03_Of.l0 (k + 1) y0 y1 y2))
  | 0 => fun _ _ _ r h => by simp [vespersref03_Of.l0] at h
  | k + 1 => by
    have ih0 := vespersref03_Of.mono_l k
    · intro y0 y1 y2
      unfold vespersref03_Of.l0
      repeat' first
      | (with_reducible exact ih0 _ _ _)
      | (with_reducible exact vespersref03_With.mono _ _ _)
      | (with_reducible exact LeO.refl _)
      | (with_reducible exact LeO.none _)
      | (with_reducible refine LeO.ite ?_ ?_)
      | (with_reducible refine LeO.bind ?_ (fun _ => ?_))
      | exact ih0 _ _ _
      | exact vespersref03_With.mono _ _ _
      | exact LeO.none _
      | refine LeO.ite ?_ ?_
      | refine LeO.bind ?_ (fun _ => ?_)
theorem vespersref03_Of.mono : ∀ a0 k, LeO (vespersref03_Of.f k a0) (vespersref03_Of.f (k + 1) a0) := by
  intro a0 k
  have ih0 := vespersref03_Of.mono_l k
  unfold vespersref03_Of.f
  repeat' first
      | (with_reducible exact ih0 _ _ _)
      | (with_reducible exact vespersref03_With.mono _ _ _)
      | (with_reducible exact LeO.refl _)
      | (with_reducible exact LeO.none _)
      | (with_reducible refine LeO.ite ?_ ?_)
      | (with_reducible refine LeO.bind ?_ (fun _ => ?_))
      | exact ih0 _ _ _
      | exact vespersref03_With.mono _ _ _
      | exact LeO.none _
      | refine LeO.ite ?_ ?_
      | refine LeO.bind ?_ (fun _ => ?_)
set_option maxHeartbeats 8000000 in
set_option maxRecDepth 100000 in
theorem vespersref03_Of.calls (k : Nat) (A0 : Option Addr) (c0 : Nat) (l0 : List Int) (r1 : Int) (r2 : Int) (w : World) (hr0 : Kd.C (Kd.int .i64) w A0 l0.length l0) (hc0 : l0.length ≤ c0) (h : vespersref03_Of.f k l0 = some (r1, r2)) :
    Calls Try.prog 35 #[.slice A0 l0.length c0] w fun e w' => e = .returned (.tuple #[.int .u16 r1, .int .i64 r2]) ∧ Drawn0 w w' := by
  have HR0 := Aside0.mk hr0
  have HC0 := Aside0.mk hc0
  clear hr0 hc0
  have H : (vespersref03_Of.l0 k l0 0 0) = some (r1, r2) := h
  clear h
  have H' := Aside0.mk H
  clear H
  go_enter Try.func35, Try.ntmps35
  go_wp2
  go_loopg [4, 5] k (fun kq v4 v5 w' => ∃ (x4_1 : Int) (x5_1 : Int), v4 = .int .u16 x4_1 ∧ v5 = .int .i64 x5_1 ∧ Aside0 (vespersref03_Of.l0 kq l0 x4_1 x5_1 = some (r1, r2)) ∧ Aside0 (kq ≤ k) ∧ Drawn0 w w')
  case atStart => exact ⟨(0), (0), (by first | rfl | (simp; done) | (simp [*]; done)), (by first | rfl | (simp; done) | (simp [*]; done)), H', ⟨Nat.le_refl _⟩, by repeat (first | exact Drawn0.refl _ | apply Drawn0.step)⟩
  case round =>
    clear H'
    obtain ⟨x4_1, x5_1, rfl, rfl, HA, HK1, ⟨m1, rfl⟩⟩ := hrel
    cases gk with
    | zero => exact absurd HA.out (by simp [vespersref03_Of.l0])
    | succ k1 =>
      have H := HA.out
      clear HA
      simp only [vespersref03_Of.l0] at H
      by_cases c2 : x5_1 < (l0.length : Int)
      · rw [if_pos c2] at H
        have c2b0 : decide (x5_1 < (l0.length : Int)) = true := decide_eq_true c2
        clear c2
        by_cases c3 : 0 ≤ x5_1
        · rw [if_pos c3] at H
          have c3b0 : decide (0 ≤ x5_1) = true := decide_eq_true c3
          clear c3
          by_cases c4 : (rd l0 x5_1) < 0
          · rw [if_pos c4] at H
            have c4b0 : decide ((rd l0 x5_1) < 0) = true := decide_eq_true c4
            clear c4
            simp only [Option.some.injEq, Prod.mk.injEq] at H
            obtain ⟨rfl, rfl⟩ := H
            have p120 : 0 ≤ (x5_1 : Int) := of_decide_eq_true (by first | (with_reducible assumption) | assumption)
            have q120 : x5_1 < (l0.length : Int) := of_decide_eq_true (by first | (with_reducible assumption) | assumption)
            obtain ⟨ad120, e120, hx120_0⟩ := Kd.at_int HR0.out x5_1 p120 q120
            cases e120
            replace p120 := eq_true p120
            replace q120 := eq_true q120
            go_wp2
            go_ret2
            exact ⟨by first | rfl | (simp; done) | (simp [*]; done), by repeat (first | exact Drawn0.refl _ | apply Drawn0.step)⟩
          · rw [if_neg c4] at H
            have c4b0 : decide ((rd l0 x5_1) < 0) = false := decide_eq_false c4
            clear c4
            by_cases c5 : (rd l0 x5_1) > 15
            · rw [if_pos c5] at H
              have c5b0 : decide (15 < (rd l0 x5_1)) = true := decide_eq_true c5
              clear c5
              simp only [Option.some.injEq, Prod.mk.injEq] at H
              obtain ⟨rfl, rfl⟩ := H
              have p120 : 0 ≤ (x5_1 : Int) := of_decide_eq_true (by first | (with_reducible assumption) | assumption)
              have q120 : x5_1 < (l0.length : Int) := of_decide_eq_true (by first | (with_reducible assumption) | assumption)
              obtain ⟨ad120, e120, hx120_0⟩ := Kd.at_int HR0.out x5_1 p120 q120
              cases e120
              replace p120 := eq_true p120
              replace q120 := eq_true q120
              have p121 : 0 ≤ (x5_1 : Int) := of_decide_eq_true (by first | (with_reducible assumption) | assumption)
              have q121 : x5_1 < (l0.length : Int) := of_decide_eq_true (by first | (with_reducible assumption) | assumption)
              obtain ⟨ad121, e121, hx121_0⟩ := Kd.at_int HR0.out x5_1 p121 q121
              obtain rfl : ad120 = ad121 := (by injection e121)
              replace p121 := eq_true p121
              replace q121 := eq_true q121
              go_wp2
              go_ret2
              exact ⟨by first | rfl | (simp; done) | (simp [*]; done), by repeat (first | exact Drawn0.refl _ | apply Drawn0.step)⟩
            · rw [if_neg c5] at H
              have c5b0 : decide (15 < (rd l0 x5_1)) = false := decide_eq_false c5
              clear c5
              replace H := Option.bind_eq_some_iff.mp H
              obtain ⟨t123, A60, H⟩ := H
              replace H : (vespersref03_Of.l0 k1 l0 t123 (wrap64 (x5_1 + 1))) = some (r1, r2) := H
              have A6 := Aside0.mk A60
              clear A60
              have H' := Aside0.mk H
              clear H
              have p120 : 0 ≤ (x5_1 : Int) := of_decide_eq_true (by first | (with_reducible assumption) | assumption)
              have q120 : x5_1 < (l0.length : Int) := of_decide_eq_true (by first | (with_reducible assumption) | assumption)
              obtain ⟨ad120, e120, hx120_0⟩ := Kd.at_int HR0.out x5_1 p120 q120
              cases e120
              replace p120 := eq_true p120
              replace q120 := eq_true q120
              have p121 : 0 ≤ (x5_1 : Int) := of_decide_eq_true (by first | (with_reducible assumption) | assumption)
              have q121 : x5_1 < (l0.length : Int) := of_decide_eq_true (by first | (with_reducible assumption) | assumption)
              obtain ⟨ad121, e121, hx121_0⟩ := Kd.at_int HR0.out x5_1 p121 q121
              obtain rfl : ad120 = ad121 := (by injection e121)
              replace p121 := eq_true p121
              replace q121 := eq_true q121
              have p122 : 0 ≤ (x5_1 : Int) := of_decide_eq_true (by first | (with_reducible assumption) | assumption)
              have q122 : x5_1 < (l0.length : Int) := of_decide_eq_true (by first | (with_reducible assumption) | assumption)
              obtain ⟨ad122, e122, hx122_0⟩ := Kd.at_int HR0.out x5_1 p122 q122
              obtain rfl : ad120 = ad122 := (by injection e122)
              replace p122 := eq_true p122
              replace q122 := eq_true q122
              go_wp2_with (first | ((with_reducible refine gate_callee (f := 17) rfl ?_); refine goesL_ (some 29) rfl rfl Try.func17 (by kernel_rfl) rfl #[.int .u16 x4_1, .int .i64 (rd l0 x5_1)] rfl (by (try simp only [List.map_toArray, List.map_cons, List.map_nil]); first | done | rfl | (simp only [List.length_drop, List.length_take]; rfl)) ?_; (with_reducible refine (vespersref03_With.calls k1 x4_1 (rd l0 x5_1) t123 _ A6.out).mono ?_); rintro e w' ⟨rfl, ⟨nd, rfl⟩⟩; refine ⟨_, rfl, ?_⟩))
              go_roundg k1
              case measure => have := HK1.out; omega
              case rel => exact ⟨(t123), (wrap64 (x5_1 + 1)), (by first | rfl | (simp; done) | (simp [*]; done)), (by first | rfl | (simp; done) | (simp [*]; done)), H', ⟨by have := HK1.out; omega⟩, by repeat (first | exact Drawn0.refl _ | apply Drawn0.step)⟩
        · rw [if_neg c3] at H
          exact absurd H (by simp)
      · rw [if_neg c2] at H
        have c2b0 : decide (x5_1 < (l0.length : Int)) = false := decide_eq_false c2
        clear c2
        simp only [Option.some.injEq, Prod.mk.injEq] at H
        obtain ⟨rfl, rfl⟩ := H
        go_wp2
        go_ret2
        exact ⟨by first | rfl | (simp; done) | (simp [*]; done), by repeat (first | exact Drawn0.refl _ | apply Drawn0.step)⟩

/-! ### vespersref03_Parse: function 37 -/
mutual
def vespersref03_Parse.l0 : Nat → ByteArray → Int → Int → Int → Option (Int × Int)
  | 0, _, _, _, _ => none
  | k + 1, x0, x4, x5, x6 => if x6 < (x0.size : Int) then (vespersref03_Parse.l1 k x0 x4 x5 x6 (-1) 0) else (if x5 < 0 then (some (0, 2)) else (some (x4, 0)))
def vespersref03_Parse.l1 : Nat → ByteArray → Int → Int → Int → Int → Int → Option (Int × Int)
  | 0, _, _, _, _, _, _ => none
  | k + 1, x0, x4, x5, x6, x7, x8 => if x8 < 16 then (if 0 ≤ x8 then (if 0 ≤ x6 then (if x6 < (x0.size : Int) then (if (bt (⟨#[48, 49, 50, 51, 52, 53, 54, 55, 56, 57, 97, 98, 99, 100, 101, 102]⟩ : ByteArray) x8) = (bt x0 x6) then (vespersref03_Parse.l1 k x0 x4 x5 x6 x8 (wrap64 (x8 + 1))) else (vespersref03_Parse.l1 k x0 x4 x5 x6 x7 (wrap64 (x8 + 1)))) else (none)) else (none)) else (none)) else (if x7 ≤ x5 then (some (0, 2)) else ((vespersref03_With.f k x4 x7).bind fun t124 => (vespersref03_Parse.l0 k x0 t124 x7 (wrap64 (x6 + 1)))))
end
def vespersref03_Parse.f (k : Nat) (a0 : ByteArray) : Option (Int × Int) := if a0.toList = ([45] : List UInt8) then (some (0, 0)) else (vespersref03_Parse.l0 k a0 0 (-1) 0)
theorem vespersref03_Parse.mono_l : ∀ k, (∀ y0 y1 y2 y3, LeO (vespersref03_Parse.l0 k y0 y1 y2 y3) (vespersref03_Parse.l0 (k + 1) y0 y1 y2 y3)) ∧ (∀ y0 y1 y2 y3 y4 y5, LeO (vespersref03_Parse.l1 k y0 y1 y2 y3 y4 y5) (vespersref03_Parse.l1 (k + 1) y0 y1 y2 y3 y4 y5))
  | 0 => ⟨fun _ _ _ _ r h => by simp [vespersref03_Parse.l0] at h, fun _ _ _ _ _ _ r h => by simp [vespersref03_Parse.l1] at h⟩
  | k + 1 => by
    obtain ⟨ih0, ih1⟩ := vespersref03_Parse.mono_l k
    refine ⟨?_, ?_⟩
    · intro y0 y1 y2 y3
      unfold vespersref03_Parse.l0
      repeat' first
      | (with_reducible exact ih0 _ _ _ _)
      | (with_reducible exact ih1 _ _ _ _ _ _)
      | (with_reducible exact vespersref03_With.mono _ _ _)
      | (with_reducible exact LeO.refl _)
      | (with_reducible exact LeO.none _)
      | (with_reducible refine LeO.ite ?_ ?_)
      | (with_reducible refine LeO.bind ?_ (fun _ => ?_))
      | exact ih0 _ _ _ _
      | exact ih1 _ _ _ _ _ _
      | exact vespersref03_With.mono _ _ _
      | exact LeO.none _
      | refine LeO.ite ?_ ?_
      | refine LeO.bind ?_ (fun _ => ?_)
    · intro y0 y1 y2 y3 y4 y5
      unfold vespersref03_Parse.l1
      repeat' first
      | (with_reducible exact ih0 _ _ _ _)
      | (with_reducible exact ih1 _ _ _ _ _ _)
      | (with_reducible exact vespersref03_With.mono _ _ _)
      | (with_reducible exact LeO.refl _)
      | (with_reducible exact LeO.none _)
      | (with_reducible refine LeO.ite ?_ ?_)
      | (with_reducible refine LeO.bind ?_ (fun _ => ?_))
      | exact ih0 _ _ _ _
      | exact ih1 _ _ _ _ _ _
      | exact vespersref03_With.mono _ _ _
      | exact LeO.none _
      | refine LeO.ite ?_ ?_
      | refine LeO.bind ?_ (fun _ => ?_)
theorem vespersref03_Parse.mono : ∀ a0 k, LeO (vespersref03_Parse.f k a0) (vespersref03_Parse.f (k + 1) a0) := by
  intro a0 k
  obtain ⟨ih0, ih1⟩ := vespersref03_Parse.mono_l k
  unfold vespersref03_Parse.f
  repeat' first
      | (with_reducible exact ih0 _ _ _ _)
      | (with_reducible exact ih1 _ _ _ _ _ _)
      | (with_reducible exact vespersref03_With.mono _ _ _)
      | (with_reducible exact LeO.refl _)
      | (with_reducible exact LeO.none _)
      | (with_reducible refine LeO.ite ?_ ?_)
      | (with_reducible refine LeO.bind ?_ (fun _ => ?_))
      | exact ih0 _ _ _ _
      | exact ih1 _ _ _ _ _ _
      | exact vespersref03_With.mono _ _ _
      | exact LeO.none _
      | refine LeO.ite ?_ ?_
      | refine LeO.bind ?_ (fun _ => ?_)
set_option maxHeartbeats 8000000 in
set_option maxRecDepth 100000 in
theorem vespersref03_Parse.calls (k : Nat) (a0 : ByteArray) (r1 : Int) (r2 : Int) (w : World) (h : vespersref03_Parse.f k a0 = some (r1, r2)) :
    Calls Try.prog 37 #[.string a0] w fun e w' => e = .returned (.tuple #[.int .u16 r1, .int .i64 r2]) ∧ Drawn0 w w' := by
  have H : (if a0.toList = ([45] : List UInt8) then (some (0, 0)) else (vespersref03_Parse.l0 k a0 0 (-1) 0)) = some (r1, r2) := h
  clear h
  by_cases c2 : a0.toList = ([45] : List UInt8)
  · rw [if_pos c2] at H
    have c2b0 : (a0.toList == ([45] : List UInt8)) = true := beq_iff_eq.mpr c2
    have c2b1 : (a0.toList != ([45] : List UInt8)) = false := bne_eq_false_iff_eq.mpr c2
    clear c2
    simp only [Option.some.injEq, Prod.mk.injEq] at H
    obtain ⟨rfl, rfl⟩ := H
    go_enter Try.func37, Try.ntmps37
    go_wp2
    repeat (go_quiet (fail); try go_wp2)
    go_ret2
    exact ⟨by first | rfl | (simp; done) | (simp [*]; done), by repeat (first | exact Drawn0.refl _ | apply Drawn0.step)⟩
  · rw [if_neg c2] at H
    have c2b0 : (a0.toList == ([45] : List UInt8)) = false := beq_eq_false_iff_ne.mpr c2
    have c2b1 : (a0.toList != ([45] : List UInt8)) = true := bne_iff_ne.mpr c2
    have H' := Aside0.mk H
    clear H
    go_enter Try.func37, Try.ntmps37
    go_wp2
    repeat (go_quiet (fail); try go_wp2)
    go_loopg [4, 5, 6] k (fun kq v4 v5 v6 w' => ∃ (x4_1 : Int) (x5_1 : Int) (x6_1 : Int), v4 = .int .u16 x4_1 ∧ v5 = .int .i64 x5_1 ∧ v6 = .int .i64 x6_1 ∧ Aside0 (vespersref03_Parse.l0 kq a0 x4_1 x5_1 x6_1 = some (r1, r2)) ∧ Aside0 (kq ≤ k) ∧ Drawn0 w w')
    case atStart => exact ⟨(0), ((-1)), (0), (by first | rfl | (simp; done) | (simp [*]; done)), (by first | rfl | (simp; done) | (simp [*]; done)), (by first | rfl | (simp; done) | (simp [*]; done)), H', ⟨Nat.le_refl _⟩, by repeat (first | exact Drawn0.refl _ | apply Drawn0.step)⟩
    case round =>
      clear H'
      try clear c2
      try clear c2b0
      try clear c2b1
      try clear p2
      obtain ⟨x4_1, x5_1, x6_1, rfl, rfl, rfl, HA, HK1, ⟨m1, rfl⟩⟩ := hrel
      cases gk with
      | zero => exact absurd HA.out (by simp [vespersref03_Parse.l0])
      | succ k1 =>
        have H := HA.out
        clear HA
        simp only [vespersref03_Parse.l0] at H
        by_cases c3 : x6_1 < (a0.size : Int)
        · rw [if_pos c3] at H
          have c3b0 : decide (x6_1 < (a0.size : Int)) = true := decide_eq_true c3
          clear c3
          have H' := Aside0.mk H
          clear H
          go_wp2
          repeat (go_quiet (fail); try go_wp2)
          go_loopg [7, 8] k1 (fun kq v7 v8 w' => ∃ (x7_2 : Int) (x8_2 : Int), v7 = .int .i64 x7_2 ∧ v8 = .int .i64 x8_2 ∧ Aside0 (vespersref03_Parse.l1 kq a0 x4_1 x5_1 x6_1 x7_2 x8_2 = some (r1, r2)) ∧ Aside0 (kq ≤ k1) ∧ Drawn0 w w')
          case atStart => exact ⟨((-1)), (0), (by first | rfl | (simp; done) | (simp [*]; done)), (by first | rfl | (simp; done) | (simp [*]; done)), H', ⟨Nat.le_refl _⟩, by repeat (first | exact Drawn0.refl _ | apply Drawn0.step)⟩
          case round =>
            clear H'
            try clear c2
            try clear c2b0
            try clear c2b1
            try clear p2
            try clear c3
            try clear c3b0
            try clear p2
            obtain ⟨x7_2, x8_2, rfl, rfl, HA, HK2, ⟨m2, rfl⟩⟩ := hrel
            cases gk with
            | zero => exact absurd HA.out (by simp [vespersref03_Parse.l1])
            | succ k2 =>
              have H := HA.out
              clear HA
              simp only [vespersref03_Parse.l1] at H
              by_cases c4 : x8_2 < 16
              · rw [if_pos c4] at H
                have c4b0 : decide (x8_2 < 16) = true := decide_eq_true c4
                clear c4
                by_cases c5 : 0 ≤ x8_2
                · rw [if_pos c5] at H
                  have c5b0 : decide (0 ≤ x8_2) = true := decide_eq_true c5
                  clear c5
                  by_cases c7 : 0 ≤ x6_1
                  · rw [if_pos c7] at H
                    have c7b0 : decide (0 ≤ x6_1) = true := decide_eq_true c7
                    clear c7
                    by_cases c8 : x6_1 < (a0.size : Int)
                    · rw [if_pos c8] at H
                      have c8b0 : decide (x6_1 < (a0.size : Int)) = true := decide_eq_true c8
                      clear c8
                      by_cases c10 : (bt (⟨#[48, 49, 50, 51, 52, 53, 54, 55, 56, 57, 97, 98, 99, 100, 101, 102]⟩ : ByteArray) x8_2) = (bt a0 x6_1)
                      · rw [if_pos c10] at H
                        have c10b0 : ((bt (⟨#[48, 49, 50, 51, 52, 53, 54, 55, 56, 57, 97, 98, 99, 100, 101, 102]⟩ : ByteArray) x8_2) == (bt a0 x6_1)) = true := beq_iff_eq.mpr c10
                        have c10b1 : ((bt (⟨#[48, 49, 50, 51, 52, 53, 54, 55, 56, 57, 97, 98, 99, 100, 101, 102]⟩ : ByteArray) x8_2) != (bt a0 x6_1)) = false := bne_eq_false_iff_eq.mpr c10
                        clear c10
                        have H' := Aside0.mk H
                        clear H
                        have p6 : 0 ≤ (x8_2 : Int) := of_decide_eq_true (by first | (with_reducible assumption) | assumption)
                        have q6 : x8_2 < (16 : Int) := of_decide_eq_true (by first | (with_reducible assumption) | assumption)
                        have hx6 := bt_at (⟨#[48, 49, 50, 51, 52, 53, 54, 55, 56, 57, 97, 98, 99, 100, 101, 102]⟩ : ByteArray) x8_2
                        replace p6 := eq_true p6
                        replace q6 := eq_true q6
                        have p9 : 0 ≤ (x6_1 : Int) := of_decide_eq_true (by first | (with_reducible assumption) | assumption)
                        have q9 : x6_1 < (a0.size : Int) := of_decide_eq_true (by first | (with_reducible assumption) | assumption)
                        have hx9 := bt_at a0 x6_1
                        replace p9 := eq_true p9
                        replace q9 := eq_true q9
                        go_wp2
                        repeat (go_quiet (fail); try go_wp2)
                        go_roundg k2
                        case measure => have := HK1.out; have := HK2.out; omega
                        case rel => exact ⟨(x8_2), (wrap64 (x8_2 + 1)), (by first | rfl | (simp; done) | (simp [*]; done)), (by first | rfl | (simp; done) | (simp [*]; done)), H', ⟨by have := HK1.out; have := HK2.out; omega⟩, by repeat (first | exact Drawn0.refl _ | apply Drawn0.step)⟩
                      · rw [if_neg c10] at H
                        have c10b0 : ((bt (⟨#[48, 49, 50, 51, 52, 53, 54, 55, 56, 57, 97, 98, 99, 100, 101, 102]⟩ : ByteArray) x8_2) == (bt a0 x6_1)) = false := beq_eq_false_iff_ne.mpr c10
                        have c10b1 : ((bt (⟨#[48, 49, 50, 51, 52, 53, 54, 55, 56, 57, 97, 98, 99, 100, 101, 102]⟩ : ByteArray) x8_2) != (bt a0 x6_1)) = true := bne_iff_ne.mpr c10
                        have H' := Aside0.mk H
                        clear H
                        have p6 : 0 ≤ (x8_2 : Int) := of_decide_eq_true (by first | (with_reducible assumption) | assumption)
                        have q6 : x8_2 < (16 : Int) := of_decide_eq_true (by first | (with_reducible assumption) | assumption)
                        have hx6 := bt_at (⟨#[48, 49, 50, 51, 52, 53, 54, 55, 56, 57, 97, 98, 99, 100, 101, 102]⟩ : ByteArray) x8_2
                        replace p6 := eq_true p6
                        replace q6 := eq_true q6
                        have p9 : 0 ≤ (x6_1 : Int) := of_decide_eq_true (by first | (with_reducible assumption) | assumption)
                        have q9 : x6_1 < (a0.size : Int) := of_decide_eq_true (by first | (with_reducible assumption) | assumption)
                        have hx9 := bt_at a0 x6_1
                        replace p9 := eq_true p9
                        replace q9 := eq_true q9
                        go_wp2
                        repeat (go_quiet (fail); try go_wp2)
                        go_roundg k2
                        case measure => have := HK1.out; have := HK2.out; omega
                        case rel => exact ⟨(x7_2), (wrap64 (x8_2 + 1)), (by first | rfl | (simp; done) | (simp [*]; done)), (by first | rfl | (simp; done) | (simp [*]; done)), H', ⟨by have := HK1.out; have := HK2.out; omega⟩, by repeat (first | exact Drawn0.refl _ | apply Drawn0.step)⟩
                    · rw [if_neg c8] at H
                      exact absurd H (by simp)
                  · rw [if_neg c7] at H
                    exact absurd H (by simp)
                · rw [if_neg c5] at H
                  exact absurd H (by simp)
              · rw [if_neg c4] at H
                have c4b0 : decide (x8_2 < 16) = false := decide_eq_false c4
                clear c4
                by_cases c11 : x7_2 ≤ x5_1
                · rw [if_pos c11] at H
                  have c11b0 : decide (x7_2 ≤ x5_1) = true := decide_eq_true c11
                  clear c11
                  simp only [Option.some.injEq, Prod.mk.injEq] at H
                  obtain ⟨rfl, rfl⟩ := H
                  go_wp2
                  repeat (go_quiet (fail); try go_wp2)
                  go_ret2
                  exact ⟨by first | rfl | (simp; done) | (simp [*]; done), by repeat (first | exact Drawn0.refl _ | apply Drawn0.step)⟩
                · rw [if_neg c11] at H
                  have c11b0 : decide (x7_2 ≤ x5_1) = false := decide_eq_false c11
                  clear c11
                  replace H := Option.bind_eq_some_iff.mp H
                  obtain ⟨t124, A120, H⟩ := H
                  replace H : (vespersref03_Parse.l0 k2 a0 t124 x7_2 (wrap64 (x6_1 + 1))) = some (r1, r2) := H
                  have A12 := Aside0.mk A120
                  clear A120
                  have H' := Aside0.mk H
                  clear H
                  go_wp2_with (first | (go_at_call 17; (with_reducible refine (vespersref03_With.calls k2 x4_1 x7_2 t124 _ A12.out).mono ?_); rintro e w' ⟨rfl, ⟨nd, rfl⟩⟩; (try first | exact ⟨rfl, _, World.drewN_drewN _ _ _⟩ | exact ⟨rfl, _, Eq.trans (World.drewN_drewN _ _ _) (congrArg (World.drewN _) (Nat.add_assoc _ _ _))⟩)))
                  repeat (go_quiet (first | (go_at_call 17; (with_reducible refine (vespersref03_With.calls k2 x4_1 x7_2 t124 _ A12.out).mono ?_); rintro e w' ⟨rfl, ⟨nd, rfl⟩⟩; (try first | exact ⟨rfl, _, World.drewN_drewN _ _ _⟩ | exact ⟨rfl, _, Eq.trans (World.drewN_drewN _ _ _) (congrArg (World.drewN _) (Nat.add_assoc _ _ _))⟩))); try go_wp2_with (first | (go_at_call 17; (with_reducible refine (vespersref03_With.calls k2 x4_1 x7_2 t124 _ A12.out).mono ?_); rintro e w' ⟨rfl, ⟨nd, rfl⟩⟩; (try first | exact ⟨rfl, _, World.drewN_drewN _ _ _⟩ | exact ⟨rfl, _, Eq.trans (World.drewN_drewN _ _ _) (congrArg (World.drewN _) (Nat.add_assoc _ _ _))⟩))))
                  go_roundg k2
                  case measure => have := HK1.out; have := HK2.out; omega
                  case rel => exact ⟨(t124), (x7_2), (wrap64 (x6_1 + 1)), (by first | rfl | (simp; done) | (simp [*]; done)), (by first | rfl | (simp; done) | (simp [*]; done)), (by first | rfl | (simp; done) | (simp [*]; done)), H', ⟨by have := HK1.out; have := HK2.out; omega⟩, by repeat (first | exact Drawn0.refl _ | apply Drawn0.step)⟩
        · rw [if_neg c3] at H
          have c3b0 : decide (x6_1 < (a0.size : Int)) = false := decide_eq_false c3
          clear c3
          by_cases c13 : x5_1 < 0
          · rw [if_pos c13] at H
            have c13b0 : decide (x5_1 < 0) = true := decide_eq_true c13
            clear c13
            simp only [Option.some.injEq, Prod.mk.injEq] at H
            obtain ⟨rfl, rfl⟩ := H
            go_wp2
            repeat (go_quiet (fail); try go_wp2)
            go_ret2
            exact ⟨by first | rfl | (simp; done) | (simp [*]; done), by repeat (first | exact Drawn0.refl _ | apply Drawn0.step)⟩
          · rw [if_neg c13] at H
            have c13b0 : decide (x5_1 < 0) = false := decide_eq_false c13
            clear c13
            simp only [Option.some.injEq, Prod.mk.injEq] at H
            obtain ⟨rfl, rfl⟩ := H
            go_wp2
            repeat (go_quiet (fail); try go_wp2)
            go_ret2
            exact ⟨by first | rfl | (simp; done) | (simp [*]; done), by repeat (first | exact Drawn0.refl _ | apply Drawn0.step)⟩

-- BY HAND: function 13 (vespersref03_List)

end Go.Proofs.Ytfjjeadoaoedoaa.PC
