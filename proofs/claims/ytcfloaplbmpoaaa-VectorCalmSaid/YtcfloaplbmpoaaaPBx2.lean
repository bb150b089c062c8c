/- Written by a program of this session (wip/jprint.py, over the printer of the kit): functions that a law comes to, as plain Lean functions, and walks; Lean checks it. -/
import Derived.Test.YtcfloaplbmpoaaaPBx0
namespace Go.Proofs.Ytcfloaplbmpoaaa.PB
open Go.RowKit Go.Proofs.Ytcfloaplbmpoaaa.Hand Go.Proofs.Ytcfloaplbmpoaaa.PA Go.Proofs.YtcfloaplbmpoaaaW.PrintWords Go.Proofs.YtcfloaplbmpoaaaW.PrintLast Go.Proofs.YtcfloaplbmpoaaaW.PrintMore
attribute [local go_sem] max2_int min2_int max_two min_two max_three min_three max_four min_four   -- for this text's walks alone
set_option linter.unusedVariables false
set_option linter.unusedSimpArgs false

-- BY HAND: function 8 (vector_Looks)

-- BY HAND: function 10 (vector_Check)

-- BY HAND: function 12 (vector_Result)

-- BY HAND: function 14 (vector_Step)

-- BY HAND: function 16 (vector_Sent)

-- BY HAND: function 18 (vector_Quiet)

-- BY HAND: function 20 (vector_Joined)

/-! ### vesperslaw18_some: function 22 -/
def vesperslaw18_some.f (a0 : Int) : Option (Int × Int × Int × Int) := some (1, 15, a0, 0)
set_option maxHeartbeats 8000000 in
set_option maxRecDepth 100000 in
theorem vesperslaw18_some.calls (a0 : Int) (r1 : Int) (r2 : Int) (r3 : Int) (r4 : Int) (w : World) (h : vesperslaw18_some.f a0 = some (r1, r2, r3, r4)) :
    Calls Try.prog 22 #[.int .i64 a0] w fun e w' => e = .returned (.agg #[.int .i64 r1, .int .u16 r2, .int .i64 r3, .int .i64 r4]) ∧ Below w.heap.size w w' := by
  have hu25 := Try.underlying25
  have HB := Aside0.mk (Below.refl w.heap.size w)
  have H : (some (1, 15, a0, 0)) = some (r1, r2, r3, r4) := h
  clear h
  simp only [Option.some.injEq, Prod.mk.injEq] at H
  obtain ⟨rfl, rfl, rfl, rfl⟩ := H
  go_enter Try.func22, Try.ntmps22
  go_wp2_with (first | ((with_reducible refine gate_dst (N := 2) rfl ?_); refine box_event ?hg (N := 2) ?hd (cs := #[.int .i64 0, .int .u16 0, .int .i64 0, .int .i64 0]) (t := 25) ?hr ?_; (case hd => rfl); (case hg => rfl); (case hr => first | (go_simp; done) | (go_simp; rfl)); intro gb101 hg w2 hbox hb; have n0_ := Aside0.mk (below_step (by repeat (first | (with_reducible first | exact HB.out | apply below_alloc | apply pw_below_drewN | apply below_drew1) | exact HB.out)) hb); have n1_ := Aside0.mk (hbox); have n2_ := Aside0.mk ((by rw [hg]; exact (below_size (by repeat (first | (with_reducible first | exact HB.out | apply below_alloc | apply pw_below_drewN | apply below_drew1) | exact HB.out))) : w.heap.size ≤ gb101)); have n3_ := Aside0.mk ((by rw [hg]; exact (below_size (by repeat (first | (with_reducible first | exact HB.out | apply below_alloc | apply pw_below_drewN | apply below_drew1) | exact HB.out))) : w.heap.size ≤ gb101)); clear HB; have HB := n0_; have BK101 := n1_; have GW101 := n2_; have GE101 := n3_; clear n0_ n1_ n2_ n3_; clear hb hbox hg; have hcz3_0 : w2.cell? ⟨gb101, 0, none⟩ = some (.int .i64 0) := (blk_cell BK101.out 0).trans rfl; have hcz3_1 : w2.cell? ⟨gb101, 1, none⟩ = some (.int .u16 0) := (blk_cell BK101.out 1).trans rfl; have hcz3_2 : w2.cell? ⟨gb101, 2, none⟩ = some (.int .i64 0) := (blk_cell BK101.out 2).trans rfl; have hcz3_3 : w2.cell? ⟨gb101, 3, none⟩ = some (.int .i64 0) := (blk_cell BK101.out 3).trans rfl; have hfz3_0 := blk_frozen BK101.out 0; have hfz3_1 := blk_frozen BK101.out 1; have hfz3_2 := blk_frozen BK101.out 2; have hfz3_3 := blk_frozen BK101.out 3))
  refine bodyPost_ret (results_cell_row rfl _ _ gb101 25 #[.int .i64 1, .int .u16 15, .int .i64 a0, .int .i64 0] (0, 0) _ rfl (by (with_reducible repeat (first | refine blk_drewN ?_ _ | refine blk_drew ?_ | refine blk_alloc ?_ _)); refine blk_put (cs := #[.int .i64 1, .int .u16 15, .int .i64 a0, .int .i64 0]) ?_ 3 _ rfl; (with_reducible repeat (first | refine blk_drewN ?_ _ | refine blk_drew ?_ | refine blk_alloc ?_ _)); refine blk_put (cs := #[.int .i64 1, .int .u16 15, .int .i64 0, .int .i64 0]) ?_ 2 _ rfl; (with_reducible repeat (first | refine blk_drewN ?_ _ | refine blk_drew ?_ | refine blk_alloc ?_ _)); refine blk_put (cs := #[.int .i64 1, .int .u16 0, .int .i64 0, .int .i64 0]) ?_ 1 _ rfl; (with_reducible repeat (first | refine blk_drewN ?_ _ | refine blk_drew ?_ | refine blk_alloc ?_ _)); refine blk_put (cs := #[.int .i64 0, .int .u16 0, .int .i64 0, .int .i64 0]) ?_ 0 _ rfl; (with_reducible repeat (first | refine blk_drewN ?_ _ | refine blk_drew ?_ | refine blk_alloc ?_ _)); exact BK101.out) Try.underlying25 rfl (by kernel_rfl)) rfl ?_
  exact ⟨by first | rfl | (simp [errW_none, errW_some] <;> rfl) | (simp [*, errW_none, errW_some] <;> rfl), by repeat (first | (with_reducible first | exact HB.out | apply below_alloc | apply pw_below_drewN | apply below_drew1 | refine below_set ?_ GE101.out) | exact HB.out)⟩

/-! ### vesperslaw18_alive: function 23 -/
def vesperslaw18_alive.f  : Option (Bool) := (vesperslaw18_some.f 0).bind fun bt102 => ((vector_Looks.f bt102.1 bt102.2.1 bt102.2.2.1 bt102.2.2.2 2).bind fun bt106 => ((vesperslaw18_some.f 1).bind fun bt110 => ((vector_Looks.f bt110.1 bt110.2.1 bt110.2.2.1 bt110.2.2.2 2).bind fun bt114 => (if bt106.2 = 0 then (if (bt106.1.length : Int) = 1 then (if 0 < (bt106.1.length : Int) then (if (rd bt106.1 0) = 15 then (if bt114.2 = 0 then (if (bt114.1.length : Int) = 2 then (if 0 < (bt114.1.length : Int) then (if (rd bt114.1 0) = 15 then (if 1 < (bt114.1.length : Int) then (some ((rd bt114.1 1) == 13)) else (none)) else (none)) else (none)) else (none)) else (none)) else (none)) else (none)) else (none)) else (none)))))
set_option maxHeartbeats 8000000 in
set_option maxRecDepth 100000 in
theorem vesperslaw18_alive.calls  (r : Bool) (w : World) (h : vesperslaw18_alive.f  = some r) :
    Calls Try.prog 23 #[] w fun e w' => e = .returned (.bool r) ∧ Below w.heap.size w w' := by
  have HB := Aside0.mk (Below.refl w.heap.size w)
  have H : ((vesperslaw18_some.f 0).bind fun bt102 => ((vector_Looks.f bt102.1 bt102.2.1 bt102.2.2.1 bt102.2.2.2 2).bind fun bt106 => ((vesperslaw18_some.f 1).bind fun bt110 => ((vector_Looks.f bt110.1 bt110.2.1 bt110.2.2.1 bt110.2.2.2 2).bind fun bt114 => (if bt106.2 = 0 then (if (bt106.1.length : Int) = 1 then (if 0 < (bt106.1.length : Int) then (if (rd bt106.1 0) = 15 then (if bt114.2 = 0 then (if (bt114.1.length : Int) = 2 then (if 0 < (bt114.1.length : Int) then (if (rd bt114.1 0) = 15 then (if 1 < (bt114.1.length : Int) then (some ((rd bt114.1 1) == 13)) else (none)) else (none)) else (none)) else (none)) else (none)) else (none)) else (none)) else (none)) else (none)))))) = some r := h
  clear h
  replace H := Option.bind_eq_some_iff.mp H
  obtain ⟨⟨t102, t103, t104, t105⟩, A10, H⟩ := H
  replace H : ((vector_Looks.f t102 t103 t104 t105 2).bind fun bt106 => ((vesperslaw18_some.f 1).bind fun bt110 => ((vector_Looks.f bt110.1 bt110.2.1 bt110.2.2.1 bt110.2.2.2 2).bind fun bt114 => (if bt106.2 = 0 then (if (bt106.1.length : Int) = 1 then (if 0 < (bt106.1.length : Int) then (if (rd bt106.1 0) = 15 then (if bt114.2 = 0 then (if (bt114.1.length : Int) = 2 then (if 0 < (bt114.1.length : Int) then (if (rd bt114.1 0) = 15 then (if 1 < (bt114.1.length : Int) then (some ((rd bt114.1 1) == 13)) else (none)) else (none)) else (none)) else (none)) else (none)) else (none)) else (none)) else (none)) else (none))))) = some r := H
  have A1 := Aside0.mk A10
  clear A10
  replace H := Option.bind_eq_some_iff.mp H
  obtain ⟨⟨t106, t109⟩, A20, H⟩ := H
  replace H : ((vesperslaw18_some.f 1).bind fun bt110 => ((vector_Looks.f bt110.1 bt110.2.1 bt110.2.2.1 bt110.2.2.2 2).bind fun bt114 => (if t109 = 0 then (if (t106.length : Int) = 1 then (if 0 < (t106.length : Int) then (if (rd t106 0) = 15 then (if bt114.2 = 0 then (if (bt114.1.length : Int) = 2 then (if 0 < (bt114.1.length : Int) then (if (rd bt114.1 0) = 15 then (if 1 < (bt114.1.length : Int) then (some ((rd bt114.1 1) == 13)) else (none)) else (none)) else (none)) else (none)) else (none)) else (none)) else (none)) else (none)) else (none)))) = some r := H
  have A2 := Aside0.mk A20
  clear A20
  replace H := Option.bind_eq_some_iff.mp H
  obtain ⟨⟨t110, t111, t112, t113⟩, A30, H⟩ := H
  replace H : ((vector_Looks.f t110 t111 t112 t113 2).bind fun bt114 => (if t109 = 0 then (if (t106.length : Int) = 1 then (if 0 < (t106.length : Int) then (if (rd t106 0) = 15 then (if bt114.2 = 0 then (if (bt114.1.length : Int) = 2 then (if 0 < (bt114.1.length : Int) then (if (rd bt114.1 0) = 15 then (if 1 < (bt114.1.length : Int) then (some ((rd bt114.1 1) == 13)) else (none)) else (none)) else (none)) else (none)) else (none)) else (none)) else (none)) else (none)) else (none))) = some r := H
  have A3 := Aside0.mk A30
  clear A30
  replace H := Option.bind_eq_some_iff.mp H
  obtain ⟨⟨t114, t117⟩, A40, H⟩ := H
  replace H : (if t109 = 0 then (if (t106.length : Int) = 1 then (if 0 < (t106.length : Int) then (if (rd t106 0) = 15 then (if t117 = 0 then (if (t114.length : Int) = 2 then (if 0 < (t114.length : Int) then (if (rd t114 0) = 15 then (if 1 < (t114.length : Int) then (some ((rd t114 1) == 13)) else (none)) else (none)) else (none)) else (none)) else (none)) else (none)) else (none)) else (none)) else (none)) = some r := H
  have A4 := Aside0.mk A40
  clear A40
  by_cases c5 : t109 = 0
  · rw [if_pos c5] at H
    have c5b0 : (t109 == 0) = true := beq_iff_eq.mpr c5
    have c5b1 : (t109 != 0) = false := bne_eq_false_iff_eq.mpr c5
    clear c5
    by_cases c6 : (t106.length : Int) = 1
    · rw [if_pos c6] at H
      have c6b0 : ((t106.length : Int) == 1) = true := beq_iff_eq.mpr c6
      have c6b1 : ((t106.length : Int) != 1) = false := bne_eq_false_iff_eq.mpr c6
      clear c6
      by_cases c7 : 0 < (t106.length : Int)
      · rw [if_pos c7] at H
        have c7b0 : decide (0 < (t106.length : Int)) = true := decide_eq_true c7
        have c7b1 : decide (0 < t106.length) = true := decide_eq_true (by omega)
        clear c7
        by_cases c8 : (rd t106 0) = 15
        · rw [if_pos c8] at H
          have c8b0 : ((rd t106 0) == 15) = true := beq_iff_eq.mpr c8
          have c8b1 : ((rd t106 0) != 15) = false := bne_eq_false_iff_eq.mpr c8
          clear c8
          by_cases c9 : t117 = 0
          · rw [if_pos c9] at H
            have c9b0 : (t117 == 0) = true := beq_iff_eq.mpr c9
            have c9b1 : (t117 != 0) = false := bne_eq_false_iff_eq.mpr c9
            clear c9
            by_cases c10 : (t114.length : Int) = 2
            · rw [if_pos c10] at H
              have c10b0 : ((t114.length : Int) == 2) = true := beq_iff_eq.mpr c10
              have c10b1 : ((t114.length : Int) != 2) = false := bne_eq_false_iff_eq.mpr c10
              clear c10
              by_cases c11 : 0 < (t114.length : Int)
              · rw [if_pos c11] at H
                have c11b0 : decide (0 < (t114.length : Int)) = true := decide_eq_true c11
                have c11b1 : decide (0 < t114.length) = true := decide_eq_true (by omega)
                clear c11
                by_cases c12 : (rd t114 0) = 15
                · rw [if_pos c12] at H
                  have c12b0 : ((rd t114 0) == 15) = true := beq_iff_eq.mpr c12
                  have c12b1 : ((rd t114 0) != 15) = false := bne_eq_false_iff_eq.mpr c12
                  clear c12
                  by_cases c13 : 1 < (t114.length : Int)
                  · rw [if_pos c13] at H
                    have c13b0 : decide (1 < (t114.length : Int)) = true := decide_eq_true c13
                    have c13b1 : decide (1 < t114.length) = true := decide_eq_true (by omega)
                    clear c13
                    obtain rfl := Option.some.inj H
                    go_enter Try.func23, Try.ntmps23
                    go_wp2_with (first | ((with_reducible refine gate_callee (f := 22) rfl ?_); refine goesL_ (some 6) rfl rfl Try.func22 (by kernel_rfl) rfl #[.int .i64 0] rfl (by (try simp only [List.map_toArray, List.map_cons, List.map_nil]); first | done | rfl | (simp only [List.length_drop, List.length_take]; rfl)) ?_; (with_reducible refine (vesperslaw18_some.calls 0 t102 t103 t104 t105 _ A1.out).mono ?_); rintro e w14 ⟨rfl, hb⟩; refine ⟨_, rfl, ?_⟩; have n0_ := Aside0.mk (below_step (by repeat (first | (with_reducible first | exact HB.out | apply below_alloc | apply pw_below_drewN | apply below_drew1) | exact HB.out)) hb); clear HB; have HB := n0_; clear n0_; (try clear hb); (try clear hb2); (try clear hk); (try clear hi)) | ((with_reducible refine gate_callee (f := 8) rfl ?_); refine goesL_ (some 7) rfl rfl Try.func8 (by kernel_rfl) rfl #[.agg #[.int .i64 t102, .int .u16 t103, .int .i64 t104, .int .i64 t105], .int .i64 2] rfl (by (try simp only [List.map_toArray, List.map_cons, List.map_nil]); first | done | rfl | (simp only [List.length_drop, List.length_take]; rfl)) ?_; (with_reducible refine (vector_Looks.calls t102 t103 t104 t105 2 t106 t109 _ A2.out).mono ?_); rintro e w15 ⟨v107, rfl, ho0, hb⟩; refine ⟨_, rfl, ?_⟩; have n0_ := Aside0.mk (Kd.R_lower ho0 (below_size (by repeat (first | (with_reducible first | exact HB.out | apply below_alloc | apply pw_below_drewN | apply below_drew1) | exact HB.out)))); have n1_ := Aside0.mk (below_step (by repeat (first | (with_reducible first | exact HB.out | apply below_alloc | apply pw_below_drewN | apply below_drew1) | exact HB.out)) hb); clear HB; have HO108 := n0_; have HB := n1_; clear n0_ n1_; (try clear hb); (try clear hb2); (try clear hk); (try clear hi); (try clear ho0)) | ((with_reducible refine gate_callee (f := 22) rfl ?_); refine goesL_ (some 11) rfl rfl Try.func22 (by kernel_rfl) rfl #[.int .i64 1] rfl (by (try simp only [List.map_toArray, List.map_cons, List.map_nil]); first | done | rfl | (simp only [List.length_drop, List.length_take]; rfl)) ?_; (with_reducible refine (vesperslaw18_some.calls 1 t110 t111 t112 t113 _ A3.out).mono ?_); rintro e w16 ⟨rfl, hb⟩; refine ⟨_, rfl, ?_⟩; have n0_ := Aside0.mk (Kd.R_below (by (with_reducible repeat (first | apply Kd.R_alloc | apply Kd.R_drewN | apply Kd.R_drew)); exact HO108.out) hb); have n1_ := Aside0.mk (below_step (by repeat (first | (with_reducible first | exact HB.out | apply below_alloc | apply pw_below_drewN | apply below_drew1) | exact HB.out)) hb); clear HO108; clear HB; have HO108 := n0_; have HB := n1_; clear n0_ n1_; (try clear hb); (try clear hb2); (try clear hk); (try clear hi)) | ((with_reducible refine gate_callee (f := 8) rfl ?_); refine goesL_ (some 12) rfl rfl Try.func8 (by kernel_rfl) rfl #[.agg #[.int .i64 t110, .int .u16 t111, .int .i64 t112, .int .i64 t113], .int .i64 2] rfl (by (try simp only [List.map_toArray, List.map_cons, List.map_nil]); first | done | rfl | (simp only [List.length_drop, List.length_take]; rfl)) ?_; (with_reducible refine (vector_Looks.calls t110 t111 t112 t113 2 t114 t117 _ A4.out).mono ?_); rintro e w17 ⟨v115, rfl, ho0, hb⟩; refine ⟨_, rfl, ?_⟩; have n0_ := Aside0.mk (Kd.R_elder' (by (with_reducible repeat (first | apply Kd.R_alloc | apply Kd.R_drewN | apply Kd.R_drew)); exact HO108.out) (Kd.R_base ho0) hb); have n1_ := Aside0.mk (Kd.R_lower (Kd.R_new' ho0 (Kd.R_lt (by (with_reducible repeat (first | apply Kd.R_alloc | apply Kd.R_drewN | apply Kd.R_drew)); exact HO108.out))) (below_size (by repeat (first | (with_reducible first | exact HB.out | apply below_alloc | apply pw_below_drewN | apply below_drew1) | exact HB.out)))); have n2_ := Aside0.mk (below_step (by repeat (first | (with_reducible first | exact HB.out | apply below_alloc | apply pw_below_drewN | apply below_drew1) | exact HB.out)) hb); clear HO108; clear HB; have HO108 := n0_; have HO116 := n1_; have HB := n2_; clear n0_ n1_ n2_; (try clear hb); (try clear hb2); (try clear hk); (try clear hi); (try clear ho0); obtain ⟨Ao18, co18, eo18⟩ := Kd.R_slice HO108.out; subst eo18; have p118 : 0 ≤ (0 : Int) := (by omega); have q118 : 0 < (t106.length : Int) := of_decide_eq_true (by first | (with_reducible assumption) | assumption); obtain ⟨ad118, e118, hx118_0⟩ := Kd.at_int (Kd.R_reads' HO108.out).2.2 0 p118 q118; cases e118; have qi118 : (0 < t106.length) = True := eq_true (by omega); (try rw [show ((0 : Int)).toNat = 0 from rfl] at hx118_0); (try rw [Addr.add_zero'] at hx118_0); replace p118 := eq_true p118; replace q118 := eq_true q118; obtain ⟨Ao19, co19, eo19⟩ := Kd.R_slice HO116.out; subst eo19; have p119 : 0 ≤ (0 : Int) := (by omega); have q119 : 0 < (t114.length : Int) := of_decide_eq_true (by first | (with_reducible assumption) | assumption); obtain ⟨ad119, e119, hx119_0⟩ := Kd.at_int (Kd.R_reads' HO116.out).2.2 0 p119 q119; cases e119; have qi119 : (0 < t114.length) = True := eq_true (by omega); (try rw [show ((0 : Int)).toNat = 0 from rfl] at hx119_0); (try rw [Addr.add_zero'] at hx119_0); replace p119 := eq_true p119; replace q119 := eq_true q119; have p120 : 0 ≤ (1 : Int) := (by omega); have q120 : 1 < (t114.length : Int) := of_decide_eq_true (by first | (with_reducible assumption) | assumption); obtain ⟨ad120, e120, hx120_0⟩ := Kd.at_int (Kd.R_reads' HO116.out).2.2 1 p120 q120; obtain rfl : ad119 = ad120 := (by injection e120); (try simp only [show (1 : Int).toNat = 1 from rfl, Nat.reduceMul, Nat.reduceEqDiff, Go.Addr.add, ↓reduceIte] at hx120_0); have qi120 : (1 < t114.length) = True := eq_true (by omega); (try rw [show ((1 : Int)).toNat = 1 from rfl] at hx120_0); replace p120 := eq_true p120; replace q120 := eq_true q120))
                    go_ret
                    exact ⟨by first | rfl | (simp [errW_none, errW_some] <;> rfl) | (simp [*, errW_none, errW_some] <;> rfl), by repeat (first | (with_reducible first | exact HB.out | apply below_alloc | apply pw_below_drewN | apply below_drew1) | exact HB.out)⟩
                  · rw [if_neg c13] at H
                    exact absurd H (by simp)
                · rw [if_neg c12] at H
                  exact absurd H (by simp)
              · rw [if_neg c11] at H
                exact absurd H (by simp)
            · rw [if_neg c10] at H
              exact absurd H (by simp)
          · rw [if_neg c9] at H
            exact absurd H (by simp)
        · rw [if_neg c8] at H
          exact absurd H (by simp)
      · rw [if_neg c7] at H
        exact absurd H (by simp)
    · rw [if_neg c6] at H
      exact absurd H (by simp)
  · rw [if_neg c5] at H
    exact absurd H (by simp)

end Go.Proofs.Ytcfloaplbmpoaaa.PB
