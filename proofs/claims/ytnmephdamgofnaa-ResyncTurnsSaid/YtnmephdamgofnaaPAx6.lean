/- Written by a program of this session (wip/jprint.py, over the printer of the kit): functions that a law comes to, as plain Lean functions, and walks; Lean checks it. -/
import Derived.Test.YtnmephdamgofnaaPAx0
namespace Go.Proofs.Ytnmephdamgofnaa.PA
open Go.RowKit Go.Proofs.YtnmephdamgofnaaW.PrintWords Go.Proofs.YtnmephdamgofnaaW.PrintLast Go.Proofs.YtnmephdamgofnaaW.PrintMore
attribute [local go_sem] max2_int min2_int max_two min_two max_three min_three max_four min_four   -- for this text's walks alone
set_option linter.unusedVariables false
set_option linter.unusedSimpArgs false

/-! ### vespersref07_numbers: function 34 -/
def vespersref07_numbers.f (Qd : Int) (a0_1 : Int) (Qe : Int) (a0_3 : Int) (a0_4 : Int) (a0_5 : Int) (Qf : Int) (Qg : Int) (Qc : Int) (a0_9 : Int) (a0_10 : Int) (a0_11 : Int) (a0_12 : Int) (a0_13 : Int) (a0_14 : Int) (a0_15 : Int) : Option (Int × Int × Int):=if Qc = 0 then (none) else (some (wrap64 ((wrap64 (Qg - Qf)) + 6),wrap64 (2 * (wrap64 ((wrap64 (Int.tdiv (wrap64 (2 * (wrap64 (Qd * Qe)))) Qc)) + 4))),wrap64 (2 * (wrap64 ((wrap64 ((wrap64 (Qg - Qf)) + 6)) + (wrap64 (2 * (wrap64 ((wrap64 (Int.tdiv (wrap64 (2 * (wrap64 (Qd * Qe)))) Qc)) + 4)))))))))
set_option maxHeartbeats 8000000 in
set_option maxRecDepth 100000 in
theorem vespersref07_numbers.calls (Qd : Int) (a0_1 : Int) (Qe : Int) (a0_3 : Int) (a0_4 : Int) (a0_5 : Int) (Qf : Int) (Qg : Int) (Qc : Int) (a0_9 : Int) (a0_10 : Int) (a0_11 : Int) (a0_12 : Int) (a0_13 : Int) (a0_14 : Int) (a0_15 : Int) (r1 : Int) (r2 : Int) (r3 : Int) (w : World) (h : vespersref07_numbers.f Qd a0_1 Qe a0_3 a0_4 a0_5 Qf Qg Qc a0_9 a0_10 a0_11 a0_12 a0_13 a0_14 a0_15 = some (r1,r2,r3)) :
  Calls Try.prog 34 #[.agg #[.int .i64 Qd,.int .i64 a0_1,.int .i64 Qe,.int .i64 a0_3,.int .i64 a0_4,.int .i64 a0_5,.int .i64 Qf,.int .i64 Qg,.int .i64 Qc,.int .i64 a0_9,.int .i64 a0_10,.int .i64 a0_11,.int .i64 a0_12,.int .i64 a0_13,.int .i64 a0_14,.int .i64 a0_15]] w fun e w'=>e = .returned (.tuple #[.int .i64 r1,.int .i64 r2,.int .i64 r3])∧Below w.heap.size w w':=by
 have hu23:=Try.underlying23
 have HB:=Aside0.mk (Below.refl w.heap.size w)
 have H : (if Qc = 0 then (none) else (some (wrap64 ((wrap64 (Qg - Qf)) + 6),wrap64 (2 * (wrap64 ((wrap64 (Int.tdiv (wrap64 (2 * (wrap64 (Qd * Qe)))) Qc)) + 4))),wrap64 (2 * (wrap64 ((wrap64 ((wrap64 (Qg - Qf)) + 6)) + (wrap64 (2 * (wrap64 ((wrap64 (Int.tdiv (wrap64 (2 * (wrap64 (Qd * Qe)))) Qc)) + 4)))))))))) = some (r1,r2,r3):=h
 clear h
 by_cases c2 : Qc = 0
 ·rw [if_pos c2] at H
  exact absurd H (by simp)
 ·rw [if_neg c2] at H
  have c2b0 : (Qc == 0) = false:=beq_eq_false_iff_ne.mpr c2
  have c2b1 : (Qc != 0) = true:=bne_iff_ne.mpr c2
  simp only [Option.some.injEq,Prod.mk.injEq] at H
  obtain ⟨rfl,rfl,rfl⟩:=H
  go_enter Try.func34,Try.ntmps34
  go_wp2_with (first|((with_reducible refine gate_dst (N:=1) rfl ?_);refine box_event ?hg (N:=1) ?hd (cs:=#[.int .i64 Qd,.int .i64 a0_1,.int .i64 Qe,.int .i64 a0_3,.int .i64 a0_4,.int .i64 a0_5,.int .i64 Qf,.int .i64 Qg,.int .i64 Qc,.int .i64 a0_9,.int .i64 a0_10,.int .i64 a0_11,.int .i64 a0_12,.int .i64 a0_13,.int .i64 a0_14,.int .i64 a0_15]) (t:=23) ?hr ?_;(case hd=>rfl);(case hg=>rfl);(case hr=>first|(go_simp;done)|(go_simp;rfl));intro Qb hg w3 hbox hb;have n0_:=Aside0.mk (below_step (by repeat (first|(with_reducible first|exact HB.out|apply below_alloc|apply pw_below_drewN|apply below_drew1)|exact HB.out)) hb);have n1_:=Aside0.mk (hbox);have n2_:=Aside0.mk ((by rw [hg];exact (below_size (by repeat (first|(with_reducible first|exact HB.out|apply below_alloc|apply pw_below_drewN|apply below_drew1)|exact HB.out))) : w.heap.size ≤ Qb));have n3_:=Aside0.mk ((by rw [hg];exact (below_size (by repeat (first|(with_reducible first|exact HB.out|apply below_alloc|apply pw_below_drewN|apply below_drew1)|exact HB.out))) : w.heap.size ≤ Qb));clear HB;have HB:=n0_;have Qa:=n1_;have GW167:=n2_;have GE167:=n3_;clear n0_ n1_ n2_ n3_;clear hb hbox hg;have hcz4_0 : w3.cell? ⟨Qb,0,none⟩ = some (.int .i64 Qd):=(blk_cell Qa.out 0).trans rfl;have hcz4_1 : w3.cell? ⟨Qb,1,none⟩ = some (.int .i64 a0_1):=(blk_cell Qa.out 1).trans rfl;have hcz4_2 : w3.cell? ⟨Qb,2,none⟩ = some (.int .i64 Qe):=(blk_cell Qa.out 2).trans rfl;have hcz4_3 : w3.cell? ⟨Qb,3,none⟩ = some (.int .i64 a0_3):=(blk_cell Qa.out 3).trans rfl;have hcz4_4 : w3.cell? ⟨Qb,4,none⟩ = some (.int .i64 a0_4):=(blk_cell Qa.out 4).trans rfl;have hcz4_5 : w3.cell? ⟨Qb,5,none⟩ = some (.int .i64 a0_5):=(blk_cell Qa.out 5).trans rfl;have hcz4_6 : w3.cell? ⟨Qb,6,none⟩ = some (.int .i64 Qf):=(blk_cell Qa.out 6).trans rfl;have hcz4_7 : w3.cell? ⟨Qb,7,none⟩ = some (.int .i64 Qg):=(blk_cell Qa.out 7).trans rfl;have hcz4_8 : w3.cell? ⟨Qb,8,none⟩ = some (.int .i64 Qc):=(blk_cell Qa.out 8).trans rfl;have hcz4_9 : w3.cell? ⟨Qb,9,none⟩ = some (.int .i64 a0_9):=(blk_cell Qa.out 9).trans rfl;have hcz4_10 : w3.cell? ⟨Qb,10,none⟩ = some (.int .i64 a0_10):=(blk_cell Qa.out 10).trans rfl;have hcz4_11 : w3.cell? ⟨Qb,11,none⟩ = some (.int .i64 a0_11):=(blk_cell Qa.out 11).trans rfl;have hcz4_12 : w3.cell? ⟨Qb,12,none⟩ = some (.int .i64 a0_12):=(blk_cell Qa.out 12).trans rfl;have hcz4_13 : w3.cell? ⟨Qb,13,none⟩ = some (.int .i64 a0_13):=(blk_cell Qa.out 13).trans rfl;have hcz4_14 : w3.cell? ⟨Qb,14,none⟩ = some (.int .i64 a0_14):=(blk_cell Qa.out 14).trans rfl;have hcz4_15 : w3.cell? ⟨Qb,15,none⟩ = some (.int .i64 a0_15):=(blk_cell Qa.out 15).trans rfl;have hfz4_0:=blk_frozen Qa.out 0;have hfz4_1:=blk_frozen Qa.out 1;have hfz4_2:=blk_frozen Qa.out 2;have hfz4_3:=blk_frozen Qa.out 3;have hfz4_4:=blk_frozen Qa.out 4;have hfz4_5:=blk_frozen Qa.out 5;have hfz4_6:=blk_frozen Qa.out 6;have hfz4_7:=blk_frozen Qa.out 7;have hfz4_8:=blk_frozen Qa.out 8;have hfz4_9:=blk_frozen Qa.out 9;have hfz4_10:=blk_frozen Qa.out 10;have hfz4_11:=blk_frozen Qa.out 11;have hfz4_12:=blk_frozen Qa.out 12;have hfz4_13:=blk_frozen Qa.out 13;have hfz4_14:=blk_frozen Qa.out 14;have hfz4_15:=blk_frozen Qa.out 15))
  go_ret3
  exact ⟨by first|rfl|(simp [errW_none,errW_some] <;> rfl)|(simp [*,errW_none,errW_some] <;> rfl),by repeat (first|(with_reducible first|exact HB.out|apply below_alloc|apply pw_below_drewN|apply below_drew1|refine below_set ?_ GE167.out)|exact HB.out)⟩

end Go.Proofs.Ytnmephdamgofnaa.PA
