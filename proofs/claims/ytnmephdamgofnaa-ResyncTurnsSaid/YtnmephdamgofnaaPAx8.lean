/- Written by a program of this session (wip/jprint.py, over the printer of the kit): functions that a law comes to, as plain Lean functions, and walks; Lean checks it. -/
import Derived.Test.YtnmephdamgofnaaPAx0
import Derived.Test.YtnmephdamgofnaaPAx7
namespace Go.Proofs.Ytnmephdamgofnaa.PA
open Go.RowKit Go.Proofs.YtnmephdamgofnaaW.PrintWords Go.Proofs.YtnmephdamgofnaaW.PrintLast Go.Proofs.YtnmephdamgofnaaW.PrintMore
attribute [local go_sem] max2_int min2_int max_two min_two max_three min_three max_four min_four   -- for this text's walks alone
set_option linter.unusedVariables false
set_option linter.unusedSimpArgs false

/-! ### vespersref07_Check: function 13 -/
def vespersref07_Check.f (k : Nat) (Qn : Int) (Qo : Int) (Qp : Int) (Qq : Int) (Qr : Int) (Qs : Int) (Qt : Int) (Qu : Int) (Qv : Int) (Qw : Int) (Qh : Int) (Qi : Int) (Qj : Int) (Qk : Int) (Ql : Int) (Qm : Int) : Option (Int):=(vespersref07_Fails.f k Qn Qo Qp Qq Qr Qs Qt Qu Qv Qw Qh Qi Qj Qk Ql Qm).bind fun Qz=>(if Qz > 0 then (some 70) else (some 0))
theorem vespersref07_Check.mono : ∀ a0 a1 a2 a3 a4 a5 a6 a7 a8 a9 a10 a11 a12 a13 a14 a15 k,LeO (vespersref07_Check.f k a0 a1 a2 a3 a4 a5 a6 a7 a8 a9 a10 a11 a12 a13 a14 a15) (vespersref07_Check.f (k + 1) a0 a1 a2 a3 a4 a5 a6 a7 a8 a9 a10 a11 a12 a13 a14 a15):=by
 intro a0 a1 a2 a3 a4 a5 a6 a7 a8 a9 a10 a11 a12 a13 a14 a15 k
 unfold vespersref07_Check.f
 repeat' first
   | (with_reducible exact vespersref07_Fails.mono _ _ _ _ _ _ _ _ _ _ _ _ _ _ _ _ _)
   | (with_reducible exact LeO.refl _)
   | (with_reducible exact LeO.none _)
   | (with_reducible refine LeO.ite ?_ ?_)
   | (with_reducible refine LeO.bind ?_ (fun _=>?_))
   | exact vespersref07_Fails.mono _ _ _ _ _ _ _ _ _ _ _ _ _ _ _ _ _
   | exact LeO.none _
   | refine LeO.ite ?_ ?_
   | refine LeO.bind ?_ (fun _=>?_)
set_option maxHeartbeats 8000000 in
set_option maxRecDepth 100000 in
theorem vespersref07_Check.calls (k : Nat) (Qn : Int) (Qo : Int) (Qp : Int) (Qq : Int) (Qr : Int) (Qs : Int) (Qt : Int) (Qu : Int) (Qv : Int) (Qw : Int) (Qh : Int) (Qi : Int) (Qj : Int) (Qk : Int) (Ql : Int) (Qm : Int) (r : Int) (w : World) (h : vespersref07_Check.f k Qn Qo Qp Qq Qr Qs Qt Qu Qv Qw Qh Qi Qj Qk Ql Qm = some r) :
  Calls Try.prog 13 #[.agg #[.int .i64 Qn,.int .i64 Qo,.int .i64 Qp,.int .i64 Qq,.int .i64 Qr,.int .i64 Qs,.int .i64 Qt,.int .i64 Qu,.int .i64 Qv,.int .i64 Qw,.int .i64 Qh,.int .i64 Qi,.int .i64 Qj,.int .i64 Qk,.int .i64 Ql,.int .i64 Qm]] w fun e w'=>e = .returned (.int .i64 r)∧Below w.heap.size w w':=by
 have hu23:=Try.underlying23
 have HB:=Aside0.mk (Below.refl w.heap.size w)
 have H : ((vespersref07_Fails.f k Qn Qo Qp Qq Qr Qs Qt Qu Qv Qw Qh Qi Qj Qk Ql Qm).bind fun Qz=>(if Qz > 0 then (some 70) else (some 0))) = some r:=h
 clear h
 replace H:=Option.bind_eq_some_iff.mp H
 obtain ⟨Qz,A20,H⟩:=H
 replace H : (if Qz > 0 then (some 70) else (some 0)) = some r:=H
 have A2:=Aside0.mk A20
 clear A20
 by_cases c3 : Qz > 0
 ·rw [if_pos c3] at H
  have c3b0 : decide (0 < Qz) = true:=decide_eq_true c3
  clear c3
  obtain rfl:=Option.some.inj H
  go_enter Try.func13,Try.ntmps13
  go_wp2_with (first|((with_reducible refine gate_dst (N:=1) rfl ?_);refine box_event ?hg (N:=1) ?hd (cs:=#[.int .i64 Qn,.int .i64 Qo,.int .i64 Qp,.int .i64 Qq,.int .i64 Qr,.int .i64 Qs,.int .i64 Qt,.int .i64 Qu,.int .i64 Qv,.int .i64 Qw,.int .i64 Qh,.int .i64 Qi,.int .i64 Qj,.int .i64 Qk,.int .i64 Ql,.int .i64 Qm]) (t:=23) ?hr ?_;(case hd=>rfl);(case hg=>rfl);(case hr=>first|(go_simp;done)|(go_simp;rfl));intro Qb hg w4 hbox hb;have n0_:=Aside0.mk (below_step (by repeat (first|(with_reducible first|exact HB.out|apply below_alloc|apply pw_below_drewN|apply below_drew1)|exact HB.out)) hb);have n1_:=Aside0.mk (hbox);have n2_:=Aside0.mk ((by rw [hg];exact (below_size (by repeat (first|(with_reducible first|exact HB.out|apply below_alloc|apply pw_below_drewN|apply below_drew1)|exact HB.out))) : w.heap.size ≤ Qb));have n3_:=Aside0.mk ((by rw [hg];exact (below_size (by repeat (first|(with_reducible first|exact HB.out|apply below_alloc|apply pw_below_drewN|apply below_drew1)|exact HB.out))) : w.heap.size ≤ Qb));clear HB;have HB:=n0_;have Qa:=n1_;have GW173:=n2_;have GE173:=n3_;clear n0_ n1_ n2_ n3_;clear hb hbox hg;have hcz5_0 : w4.cell? ⟨Qb,0,none⟩ = some (.int .i64 Qn):=(blk_cell Qa.out 0).trans rfl;have hcz5_1 : w4.cell? ⟨Qb,1,none⟩ = some (.int .i64 Qo):=(blk_cell Qa.out 1).trans rfl;have hcz5_2 : w4.cell? ⟨Qb,2,none⟩ = some (.int .i64 Qp):=(blk_cell Qa.out 2).trans rfl;have hcz5_3 : w4.cell? ⟨Qb,3,none⟩ = some (.int .i64 Qq):=(blk_cell Qa.out 3).trans rfl;have hcz5_4 : w4.cell? ⟨Qb,4,none⟩ = some (.int .i64 Qr):=(blk_cell Qa.out 4).trans rfl;have hcz5_5 : w4.cell? ⟨Qb,5,none⟩ = some (.int .i64 Qs):=(blk_cell Qa.out 5).trans rfl;have hcz5_6 : w4.cell? ⟨Qb,6,none⟩ = some (.int .i64 Qt):=(blk_cell Qa.out 6).trans rfl;have hcz5_7 : w4.cell? ⟨Qb,7,none⟩ = some (.int .i64 Qu):=(blk_cell Qa.out 7).trans rfl;have hcz5_8 : w4.cell? ⟨Qb,8,none⟩ = some (.int .i64 Qv):=(blk_cell Qa.out 8).trans rfl;have hcz5_9 : w4.cell? ⟨Qb,9,none⟩ = some (.int .i64 Qw):=(blk_cell Qa.out 9).trans rfl;have hcz5_10 : w4.cell? ⟨Qb,10,none⟩ = some (.int .i64 Qh):=(blk_cell Qa.out 10).trans rfl;have hcz5_11 : w4.cell? ⟨Qb,11,none⟩ = some (.int .i64 Qi):=(blk_cell Qa.out 11).trans rfl;have hcz5_12 : w4.cell? ⟨Qb,12,none⟩ = some (.int .i64 Qj):=(blk_cell Qa.out 12).trans rfl;have hcz5_13 : w4.cell? ⟨Qb,13,none⟩ = some (.int .i64 Qk):=(blk_cell Qa.out 13).trans rfl;have hcz5_14 : w4.cell? ⟨Qb,14,none⟩ = some (.int .i64 Ql):=(blk_cell Qa.out 14).trans rfl;have hcz5_15 : w4.cell? ⟨Qb,15,none⟩ = some (.int .i64 Qm):=(blk_cell Qa.out 15).trans rfl;have hfz5_0:=blk_frozen Qa.out 0;have hfz5_1:=blk_frozen Qa.out 1;have hfz5_2:=blk_frozen Qa.out 2;have hfz5_3:=blk_frozen Qa.out 3;have hfz5_4:=blk_frozen Qa.out 4;have hfz5_5:=blk_frozen Qa.out 5;have hfz5_6:=blk_frozen Qa.out 6;have hfz5_7:=blk_frozen Qa.out 7;have hfz5_8:=blk_frozen Qa.out 8;have hfz5_9:=blk_frozen Qa.out 9;have hfz5_10:=blk_frozen Qa.out 10;have hfz5_11:=blk_frozen Qa.out 11;have hfz5_12:=blk_frozen Qa.out 12;have hfz5_13:=blk_frozen Qa.out 13;have hfz5_14:=blk_frozen Qa.out 14;have hfz5_15:=blk_frozen Qa.out 15)|((with_reducible refine gate_callee (f:=25) rfl ?_);refine goesL_ (some 4) rfl rfl Try.func25 (by kernel_rfl) rfl #[.agg #[.int .i64 Qn,.int .i64 Qo,.int .i64 Qp,.int .i64 Qq,.int .i64 Qr,.int .i64 Qs,.int .i64 Qt,.int .i64 Qu,.int .i64 Qv,.int .i64 Qw,.int .i64 Qh,.int .i64 Qi,.int .i64 Qj,.int .i64 Qk,.int .i64 Ql,.int .i64 Qm]] rfl (by (try simp only [List.map_toArray,List.map_cons,List.map_nil]);first|done|rfl|(simp only [List.length_drop,List.length_take];rfl)) ?_;(with_reducible refine (vespersref07_Fails.calls k Qn Qo Qp Qq Qr Qs Qt Qu Qv Qw Qh Qi Qj Qk Ql Qm Qz _ A2.out).mono ?_);rintro e w6 ⟨rfl,hb⟩;refine ⟨_,rfl,?_⟩;have n0_:=Aside0.mk (blk_below (g:=Qb) (o:=.cells #[.int .i64 Qn,.int .i64 Qo,.int .i64 Qp,.int .i64 Qq,.int .i64 Qr,.int .i64 Qs,.int .i64 Qt,.int .i64 Qu,.int .i64 Qv,.int .i64 Qw,.int .i64 Qh,.int .i64 Qi,.int .i64 Qj,.int .i64 Qk,.int .i64 Ql,.int .i64 Qm] 23 (0,0)) (by (with_reducible repeat (first|refine blk_drewN ?_ _|refine blk_drew ?_|refine blk_alloc ?_ _));exact Qa.out) hb);have n1_:=Aside0.mk (below_step (by repeat (first|(with_reducible first|exact HB.out|apply below_alloc|apply pw_below_drewN|apply below_drew1|refine below_set ?_ GE173.out)|exact HB.out)) hb);clear Qa;clear HB;have Qa:=n0_;have HB:=n1_;clear n0_ n1_;(try clear hb);(try clear hb2);(try clear hk);(try clear hi)))
  go_ret
  exact ⟨by first|rfl|(simp [errW_none,errW_some] <;> rfl)|(simp [*,errW_none,errW_some] <;> rfl),by repeat (first|(with_reducible first|exact HB.out|apply below_alloc|apply pw_below_drewN|apply below_drew1|refine below_set ?_ GE173.out)|exact HB.out)⟩
 ·rw [if_neg c3] at H
  have c3b0 : decide (0 < Qz) = false:=decide_eq_false c3
  clear c3
  obtain rfl:=Option.some.inj H
  go_enter Try.func13,Try.ntmps13
  go_wp2_with (first|((with_reducible refine gate_dst (N:=1) rfl ?_);refine box_event ?hg (N:=1) ?hd (cs:=#[.int .i64 Qn,.int .i64 Qo,.int .i64 Qp,.int .i64 Qq,.int .i64 Qr,.int .i64 Qs,.int .i64 Qt,.int .i64 Qu,.int .i64 Qv,.int .i64 Qw,.int .i64 Qh,.int .i64 Qi,.int .i64 Qj,.int .i64 Qk,.int .i64 Ql,.int .i64 Qm]) (t:=23) ?hr ?_;(case hd=>rfl);(case hg=>rfl);(case hr=>first|(go_simp;done)|(go_simp;rfl));intro Qb hg w7 hbox hb;have n0_:=Aside0.mk (below_step (by repeat (first|(with_reducible first|exact HB.out|apply below_alloc|apply pw_below_drewN|apply below_drew1)|exact HB.out)) hb);have n1_:=Aside0.mk (hbox);have n2_:=Aside0.mk ((by rw [hg];exact (below_size (by repeat (first|(with_reducible first|exact HB.out|apply below_alloc|apply pw_below_drewN|apply below_drew1)|exact HB.out))) : w.heap.size ≤ Qb));have n3_:=Aside0.mk ((by rw [hg];exact (below_size (by repeat (first|(with_reducible first|exact HB.out|apply below_alloc|apply pw_below_drewN|apply below_drew1)|exact HB.out))) : w.heap.size ≤ Qb));clear HB;have HB:=n0_;have Qa:=n1_;have GW173:=n2_;have GE173:=n3_;clear n0_ n1_ n2_ n3_;clear hb hbox hg;have hcz8_0 : w7.cell? ⟨Qb,0,none⟩ = some (.int .i64 Qn):=(blk_cell Qa.out 0).trans rfl;have hcz8_1 : w7.cell? ⟨Qb,1,none⟩ = some (.int .i64 Qo):=(blk_cell Qa.out 1).trans rfl;have hcz8_2 : w7.cell? ⟨Qb,2,none⟩ = some (.int .i64 Qp):=(blk_cell Qa.out 2).trans rfl;have hcz8_3 : w7.cell? ⟨Qb,3,none⟩ = some (.int .i64 Qq):=(blk_cell Qa.out 3).trans rfl;have hcz8_4 : w7.cell? ⟨Qb,4,none⟩ = some (.int .i64 Qr):=(blk_cell Qa.out 4).trans rfl;have hcz8_5 : w7.cell? ⟨Qb,5,none⟩ = some (.int .i64 Qs):=(blk_cell Qa.out 5).trans rfl;have hcz8_6 : w7.cell? ⟨Qb,6,none⟩ = some (.int .i64 Qt):=(blk_cell Qa.out 6).trans rfl;have hcz8_7 : w7.cell? ⟨Qb,7,none⟩ = some (.int .i64 Qu):=(blk_cell Qa.out 7).trans rfl;have hcz8_8 : w7.cell? ⟨Qb,8,none⟩ = some (.int .i64 Qv):=(blk_cell Qa.out 8).trans rfl;have hcz8_9 : w7.cell? ⟨Qb,9,none⟩ = some (.int .i64 Qw):=(blk_cell Qa.out 9).trans rfl;have hcz8_10 : w7.cell? ⟨Qb,10,none⟩ = some (.int .i64 Qh):=(blk_cell Qa.out 10).trans rfl;have hcz8_11 : w7.cell? ⟨Qb,11,none⟩ = some (.int .i64 Qi):=(blk_cell Qa.out 11).trans rfl;have hcz8_12 : w7.cell? ⟨Qb,12,none⟩ = some (.int .i64 Qj):=(blk_cell Qa.out 12).trans rfl;have hcz8_13 : w7.cell? ⟨Qb,13,none⟩ = some (.int .i64 Qk):=(blk_cell Qa.out 13).trans rfl;have hcz8_14 : w7.cell? ⟨Qb,14,none⟩ = some (.int .i64 Ql):=(blk_cell Qa.out 14).trans rfl;have hcz8_15 : w7.cell? ⟨Qb,15,none⟩ = some (.int .i64 Qm):=(blk_cell Qa.out 15).trans rfl;have hfz8_0:=blk_frozen Qa.out 0;have hfz8_1:=blk_frozen Qa.out 1;have hfz8_2:=blk_frozen Qa.out 2;have hfz8_3:=blk_frozen Qa.out 3;have hfz8_4:=blk_frozen Qa.out 4;have hfz8_5:=blk_frozen Qa.out 5;have hfz8_6:=blk_frozen Qa.out 6;have hfz8_7:=blk_frozen Qa.out 7;have hfz8_8:=blk_frozen Qa.out 8;have hfz8_9:=blk_frozen Qa.out 9;have hfz8_10:=blk_frozen Qa.out 10;have hfz8_11:=blk_frozen Qa.out 11;have hfz8_12:=blk_frozen Qa.out 12;have hfz8_13:=blk_frozen Qa.out 13;have hfz8_14:=blk_frozen Qa.out 14;have hfz8_15:=blk_frozen Qa.out 15)|((with_reducible refine gate_callee (f:=25) rfl ?_);refine goesL_ (some 4) rfl rfl Try.func25 (by kernel_rfl) rfl #[.agg #[.int .i64 Qn,.int .i64 Qo,.int .i64 Qp,.int .i64 Qq,.int .i64 Qr,.int .i64 Qs,.int .i64 Qt,.int .i64 Qu,.int .i64 Qv,.int .i64 Qw,.int .i64 Qh,.int .i64 Qi,.int .i64 Qj,.int .i64 Qk,.int .i64 Ql,.int .i64 Qm]] rfl (by (try simp only [List.map_toArray,List.map_cons,List.map_nil]);first|done|rfl|(simp only [List.length_drop,List.length_take];rfl)) ?_;(with_reducible refine (vespersref07_Fails.calls k Qn Qo Qp Qq Qr Qs Qt Qu Qv Qw Qh Qi Qj Qk Ql Qm Qz _ A2.out).mono ?_);rintro e w9 ⟨rfl,hb⟩;refine ⟨_,rfl,?_⟩;have n0_:=Aside0.mk (blk_below (g:=Qb) (o:=.cells #[.int .i64 Qn,.int .i64 Qo,.int .i64 Qp,.int .i64 Qq,.int .i64 Qr,.int .i64 Qs,.int .i64 Qt,.int .i64 Qu,.int .i64 Qv,.int .i64 Qw,.int .i64 Qh,.int .i64 Qi,.int .i64 Qj,.int .i64 Qk,.int .i64 Ql,.int .i64 Qm] 23 (0,0)) (by (with_reducible repeat (first|refine blk_drewN ?_ _|refine blk_drew ?_|refine blk_alloc ?_ _));exact Qa.out) hb);have n1_:=Aside0.mk (below_step (by repeat (first|(with_reducible first|exact HB.out|apply below_alloc|apply pw_below_drewN|apply below_drew1|refine below_set ?_ GE173.out)|exact HB.out)) hb);clear Qa;clear HB;have Qa:=n0_;have HB:=n1_;clear n0_ n1_;(try clear hb);(try clear hb2);(try clear hk);(try clear hi)))
  go_ret
  exact ⟨by first|rfl|(simp [errW_none,errW_some] <;> rfl)|(simp [*,errW_none,errW_some] <;> rfl),by repeat (first|(with_reducible first|exact HB.out|apply below_alloc|apply pw_below_drewN|apply below_drew1|refine below_set ?_ GE173.out)|exact HB.out)⟩
/-! ### vespersref14_Check: function 30 -/
mutual
def vespersref14_Check.j0 : Nat→List Int→Bool→Option (Int)
 | 0,_,_=>none
 | k + 1,x0,x26=>if x26 = true then (some 140) else (vespersref14_Check.l0 k x0 0)
def vespersref14_Check.l0 : Nat→List Int→Int→Option (Int)
 | 0,_,_=>none
 | k + 1,x0,x5=>if x5 < (x0.length : Int) then (if 0 ≤ x5 then (if (rd x0 x5) < (-4294967296) then (some 140) else (if (rd x0 x5) > 4294967296 then (some 140) else (vespersref14_Check.l0 k x0 (wrap64 (x5 + 1))))) else (none)) else (some 0)
end
def vespersref14_Check.f (k : Nat) (l0 : List Int) (a1 : Int) : Option (Int):=if a1 < 0 then (vespersref14_Check.j0 k l0 true) else (if (l0.length : Int) < 1 then (vespersref14_Check.j0 k l0 true) else (if a1 > (l0.length : Int) then (vespersref14_Check.j0 k l0 true) else (vespersref14_Check.j0 k l0 (decide ((wrap64 ((wrap64 (2 * a1)) + 1)) > (l0.length : Int))))))
theorem vespersref14_Check.mono_l : ∀ k,(∀ y0 y1,LeO (vespersref14_Check.j0 k y0 y1) (vespersref14_Check.j0 (k + 1) y0 y1))∧(∀ y0 y1,LeO (vespersref14_Check.l0 k y0 y1) (vespersref14_Check.l0 (k + 1) y0 y1))
 | 0=>⟨fun _ _ r h=>by simp [vespersref14_Check.j0] at h,fun _ _ r h=>by simp [vespersref14_Check.l0] at h⟩
 | k + 1=>by
  obtain ⟨ih0,ih1⟩:=vespersref14_Check.mono_l k
  refine ⟨?_,?_⟩
  ·intro y0 y1
   unfold vespersref14_Check.j0
   repeat' first
   | (with_reducible exact ih0 _ _)
   | (with_reducible exact ih1 _ _)
   | (with_reducible exact LeO.refl _)
   | (with_reducible exact LeO.none _)
   | (with_reducible refine LeO.ite ?_ ?_)
   | (with_reducible refine LeO.bind ?_ (fun _=>?_))
   | exact ih0 _ _
   | exact ih1 _ _
   | exact LeO.none _
   | refine LeO.ite ?_ ?_
   | refine LeO.bind ?_ (fun _=>?_)
  ·intro y0 y1
   unfold vespersref14_Check.l0
   repeat' first
   | (with_reducible exact ih0 _ _)
   | (with_reducible exact ih1 _ _)
   | (with_reducible exact LeO.refl _)
   | (with_reducible exact LeO.none _)
   | (with_reducible refine LeO.ite ?_ ?_)
   | (with_reducible refine LeO.bind ?_ (fun _=>?_))
   | exact ih0 _ _
   | exact ih1 _ _
   | exact LeO.none _
   | refine LeO.ite ?_ ?_
   | refine LeO.bind ?_ (fun _=>?_)
theorem vespersref14_Check.mono : ∀ a0 a1 k,LeO (vespersref14_Check.f k a0 a1) (vespersref14_Check.f (k + 1) a0 a1):=by
 intro a0 a1 k
 obtain ⟨ih0,ih1⟩:=vespersref14_Check.mono_l k
 unfold vespersref14_Check.f
 repeat' first
   | (with_reducible exact ih0 _ _)
   | (with_reducible exact ih1 _ _)
   | (with_reducible exact LeO.refl _)
   | (with_reducible exact LeO.none _)
   | (with_reducible refine LeO.ite ?_ ?_)
   | (with_reducible refine LeO.bind ?_ (fun _=>?_))
   | exact ih0 _ _
   | exact ih1 _ _
   | exact LeO.none _
   | refine LeO.ite ?_ ?_
   | refine LeO.bind ?_ (fun _=>?_)
set_option maxHeartbeats 8000000 in
set_option maxRecDepth 100000 in
theorem vespersref14_Check.calls (k : Nat) (A0 : Option Addr) (c0 : Nat) (l0 : List Int) (a1 : Int) (r : Int) (w : World) (hr0 : Kd.C (Kd.int .i64) w A0 l0.length l0) (hc0 : l0.length ≤ c0) (h : vespersref14_Check.f k l0 a1 = some r) :
  Calls Try.prog 30 #[.slice A0 l0.length c0,.int .i64 a1] w fun e w'=>e = .returned (.int .i64 r)∧Drawn0 w w':=by
 have HR0:=Aside0.mk hr0
 have HC0:=Aside0.mk hc0
 clear hr0 hc0
 have H : (if a1 < 0 then (vespersref14_Check.j0 k l0 true) else (if (l0.length : Int) < 1 then (vespersref14_Check.j0 k l0 true) else (if a1 > (l0.length : Int) then (vespersref14_Check.j0 k l0 true) else (vespersref14_Check.j0 k l0 (decide ((wrap64 ((wrap64 (2 * a1)) + 1)) > (l0.length : Int))))))) = some r:=h
 clear h
 have HC3:=Aside0.mk H
 clear H
 go_enter Try.func30,Try.ntmps30
 go_upto_region 1 with (fail)
 go_cut [26] (fun v26 wc=>∃ (kq : Nat) (x26_2 : Bool),v26 = .bool x26_2∧Aside0 (vespersref14_Check.j0 kq l0 x26_2 = some r)∧Aside0 (kq ≤ k)∧Drawn0 w wc)
 case first =>
  have H:=HC3.out
  clear HC3
  by_cases c4 : a1 < 0
  ·rw [if_pos c4] at H
   have c4b0 : decide (a1 < 0) = true:=decide_eq_true c4
   clear c4
   (first|rw [c4b0]|(simp only [i64_w,i32_w];rw [c4b0])|skip)
   have H':=Aside0.mk H
   clear H
   go_wp2
   go_meet
   case rel=>exact ⟨_,(true),(by first|rfl|(simp;done)|(simp [*];done)),H',⟨by first|omega|exact Nat.le_refl _⟩,by repeat (first|exact Drawn0.refl _|apply Drawn0.step)⟩
  ·rw [if_neg c4] at H
   have c4b0 : decide (a1 < 0) = false:=decide_eq_false c4
   clear c4
   (first|rw [c4b0]|(simp only [i64_w,i32_w];rw [c4b0])|skip)
   by_cases c5 : (l0.length : Int) < 1
   ·rw [if_pos c5] at H
    have c5b0 : decide ((l0.length : Int) < 1) = true:=decide_eq_true c5
    have c5b1 : decide (l0.length < 1) = true:=decide_eq_true (by omega)
    clear c5
    have H':=Aside0.mk H
    clear H
    go_wp2
    go_meet
    case rel=>exact ⟨_,(true),(by first|rfl|(simp;done)|(simp [*];done)),H',⟨by first|omega|exact Nat.le_refl _⟩,by repeat (first|exact Drawn0.refl _|apply Drawn0.step)⟩
   ·rw [if_neg c5] at H
    have c5b0 : decide ((l0.length : Int) < 1) = false:=decide_eq_false c5
    have c5b1 : decide (l0.length < 1) = false:=decide_eq_false (by omega)
    clear c5
    by_cases c6 : a1 > (l0.length : Int)
    ·rw [if_pos c6] at H
     have c6b0 : decide ((l0.length : Int) < a1) = true:=decide_eq_true c6
     clear c6
     have H':=Aside0.mk H
     clear H
     go_wp2
     go_meet
     case rel=>exact ⟨_,(true),(by first|rfl|(simp;done)|(simp [*];done)),H',⟨by first|omega|exact Nat.le_refl _⟩,by repeat (first|exact Drawn0.refl _|apply Drawn0.step)⟩
    ·rw [if_neg c6] at H
     have c6b0 : decide ((l0.length : Int) < a1) = false:=decide_eq_false c6
     clear c6
     have H':=Aside0.mk H
     clear H
     go_wp2
     go_meet
     case rel=>exact ⟨_,(decide ((wrap64 ((wrap64 (2 * a1)) + 1)) > (l0.length : Int))),(by first|rfl|(simp;done)|(simp [*];done)),H',⟨by first|omega|exact Nat.le_refl _⟩,by repeat (first|exact Drawn0.refl _|apply Drawn0.step)⟩
 case rest =>
  clear HC3
  try clear p2
  try clear c3
  try clear c4
  try clear c4b0
  try clear c5
  try clear c5b0
  try clear c5b1
  try clear c6
  try clear c6b0
  try clear p6
  obtain ⟨kq,x26_2,rfl,HA,HJ2,⟨mc2,rfl⟩⟩:=hcut
  cases kq with
  | zero=>exact absurd HA.out (by simp [vespersref14_Check.j0])
  | succ kj2 =>
   have H:=HA.out
   clear HA
   simp only [vespersref14_Check.j0] at H
   by_cases c7 : x26_2 = true
   ·subst c7
    have H1 : (some 140) = some r:=by rw [if_pos rfl] at H;exact H
    clear H
    have H:=H1
    clear H1
    obtain rfl:=Option.some.inj H
    go_wp2
    go_ret
    exact ⟨by first|rfl|(simp;done)|(simp [*];done),by repeat (first|exact Drawn0.refl _|apply Drawn0.step)⟩
   ·replace c7:=Bool.eq_false_iff.mpr c7
    subst c7
    have H1 : (vespersref14_Check.l0 kj2 l0 0) = some r:=by rw [if_neg (show ¬ (false = true) by decide)] at H;exact H
    clear H
    have H:=H1
    clear H1
    have H':=Aside0.mk H
    clear H
    go_wp2
    go_loopg [5] kj2 (fun kq v5 w'=>∃ (Qg : Int),v5 = .int .i64 Qg∧Aside0 (vespersref14_Check.l0 kq l0 Qg = some r)∧Aside0 (kq ≤ kj2)∧Drawn0 w w')
    case atStart=>exact ⟨(0),(by first|rfl|(simp;done)|(simp [*];done)),H',⟨Nat.le_refl _⟩,by repeat (first|exact Drawn0.refl _|apply Drawn0.step)⟩
    case round =>
     clear H'
     try clear c2
     try clear p2
     try clear c3
     try clear c4
     try clear c4b0
     try clear c5
     try clear c5b0
     try clear c5b1
     try clear c6
     try clear c6b0
     try clear p6
     try clear c7
     try clear p2
     try clear p6
     obtain ⟨Qg,rfl,HA,HK2,⟨m2,rfl⟩⟩:=hrel
     cases gk with
     | zero=>exact absurd HA.out (by simp [vespersref14_Check.l0])
     | succ k2 =>
      have H:=HA.out
      clear HA
      simp only [vespersref14_Check.l0] at H
      by_cases c8 : Qg < (l0.length : Int)
      ·rw [if_pos c8] at H
       have c8b0 : decide (Qg < (l0.length : Int)) = true:=decide_eq_true c8
       clear c8
       by_cases c9 : 0 ≤ Qg
       ·rw [if_pos c9] at H
        have c9b0 : decide (0 ≤ Qg) = true:=decide_eq_true c9
        clear c9
        by_cases c10 : (rd l0 Qg) < (-4294967296)
        ·rw [if_pos c10] at H
         have c10b0 : decide ((rd l0 Qg) < (-4294967296)) = true:=decide_eq_true c10
         clear c10
         obtain rfl:=Option.some.inj H
         have p176 : 0 ≤ (Qg : Int):=of_decide_eq_true (by first|(with_reducible assumption)|assumption)
         have q176 : Qg < (l0.length : Int):=of_decide_eq_true (by first|(with_reducible assumption)|assumption)
         obtain ⟨ad176,e176,hx176_0⟩:=Kd.at_int HR0.out Qg p176 q176
         cases e176
         replace p176:=eq_true p176
         replace q176:=eq_true q176
         go_wp2
         go_ret
         exact ⟨by first|rfl|(simp;done)|(simp [*];done),by repeat (first|exact Drawn0.refl _|apply Drawn0.step)⟩
        ·rw [if_neg c10] at H
         have c10b0 : decide ((rd l0 Qg) < (-4294967296)) = false:=decide_eq_false c10
         clear c10
         by_cases c11 : (rd l0 Qg) > 4294967296
         ·rw [if_pos c11] at H
          have c11b0 : decide (4294967296 < (rd l0 Qg)) = true:=decide_eq_true c11
          clear c11
          obtain rfl:=Option.some.inj H
          have p176 : 0 ≤ (Qg : Int):=of_decide_eq_true (by first|(with_reducible assumption)|assumption)
          have q176 : Qg < (l0.length : Int):=of_decide_eq_true (by first|(with_reducible assumption)|assumption)
          obtain ⟨ad176,e176,hx176_0⟩:=Kd.at_int HR0.out Qg p176 q176
          cases e176
          replace p176:=eq_true p176
          replace q176:=eq_true q176
          have p177 : 0 ≤ (Qg : Int):=of_decide_eq_true (by first|(with_reducible assumption)|assumption)
          have q177 : Qg < (l0.length : Int):=of_decide_eq_true (by first|(with_reducible assumption)|assumption)
          obtain ⟨ad177,e177,hx177_0⟩:=Kd.at_int HR0.out Qg p177 q177
          obtain rfl : ad176 = ad177:=(by injection e177)
          replace p177:=eq_true p177
          replace q177:=eq_true q177
          go_wp2
          go_ret
          exact ⟨by first|rfl|(simp;done)|(simp [*];done),by repeat (first|exact Drawn0.refl _|apply Drawn0.step)⟩
         ·rw [if_neg c11] at H
          have c11b0 : decide (4294967296 < (rd l0 Qg)) = false:=decide_eq_false c11
          clear c11
          have H':=Aside0.mk H
          clear H
          have p176 : 0 ≤ (Qg : Int):=of_decide_eq_true (by first|(with_reducible assumption)|assumption)
          have q176 : Qg < (l0.length : Int):=of_decide_eq_true (by first|(with_reducible assumption)|assumption)
          obtain ⟨ad176,e176,hx176_0⟩:=Kd.at_int HR0.out Qg p176 q176
          cases e176
          replace p176:=eq_true p176
          replace q176:=eq_true q176
          have p177 : 0 ≤ (Qg : Int):=of_decide_eq_true (by first|(with_reducible assumption)|assumption)
          have q177 : Qg < (l0.length : Int):=of_decide_eq_true (by first|(with_reducible assumption)|assumption)
          obtain ⟨ad177,e177,hx177_0⟩:=Kd.at_int HR0.out Qg p177 q177
          obtain rfl : ad176 = ad177:=(by injection e177)
          replace p177:=eq_true p177
          replace q177:=eq_true q177
          go_wp2
          go_roundg k2
          case measure=>have:=HJ2.out;have:=HK2.out;omega
          case rel=>exact ⟨(wrap64 (Qg + 1)),(by first|rfl|(simp;done)|(simp [*];done)),H',⟨by have:=HJ2.out;have:=HK2.out;omega⟩,by repeat (first|exact Drawn0.refl _|apply Drawn0.step)⟩
       ·rw [if_neg c9] at H
        exact absurd H (by simp)
      ·rw [if_neg c8] at H
       have c8b0 : decide (Qg < (l0.length : Int)) = false:=decide_eq_false c8
       clear c8
       obtain rfl:=Option.some.inj H
       go_wp2
       go_ret
       exact ⟨by first|rfl|(simp;done)|(simp [*];done),by repeat (first|exact Drawn0.refl _|apply Drawn0.step)⟩
/-! ### vespersref14_At: function 31 -/
mutual
def vespersref14_At.l0 : Nat→List Int→Int→Int→Option (Int)
 | 0,_,_,_=>none
 | k + 1,x0,x1,x5=>if x5 < (x0.length : Int) then (vespersref14_At.l1 k x0 x1 x5 0 0) else (some 0)
def vespersref14_At.l1 : Nat→List Int→Int→Int→Int→Int→Option (Int)
 | 0,_,_,_,_,_=>none
 | k + 1,x0,x1,x5,x6,x7=>if x7 < (x0.length : Int) then (if 0 ≤ x7 then (if 0 ≤ x5 then (if x5 < (x0.length : Int) then (if (rd x0 x7) < (rd x0 x5) then (vespersref14_At.l1 k x0 x1 x5 (wrap64 (x6 + 1)) (wrap64 (x7 + 1))) else (if (rd x0 x7) = (rd x0 x5) then (if x7 < x5 then (vespersref14_At.l1 k x0 x1 x5 (wrap64 (x6 + 1)) (wrap64 (x7 + 1))) else (vespersref14_At.l1 k x0 x1 x5 x6 (wrap64 (x7 + 1)))) else (vespersref14_At.l1 k x0 x1 x5 x6 (wrap64 (x7 + 1))))) else (none)) else (none)) else (none)) else (if x6 = x1 then (if 0 ≤ x5 then (if x5 < (x0.length : Int) then (some (rd x0 x5)) else (none)) else (none)) else (vespersref14_At.l0 k x0 x1 (wrap64 (x5 + 1))))
end
def vespersref14_At.f (k : Nat) (l0 : List Int) (a1 : Int) : Option (Int):=vespersref14_At.l0 k l0 a1 0
theorem vespersref14_At.mono_l : ∀ k,(∀ y0 y1 y2,LeO (vespersref14_At.l0 k y0 y1 y2) (vespersref14_At.l0 (k + 1) y0 y1 y2))∧(∀ y0 y1 y2 y3 y4,LeO (vespersref14_At.l1 k y0 y1 y2 y3 y4) (vespersref14_At.l1 (k + 1) y0 y1 y2 y3 y4))
 | 0=>⟨fun _ _ _ r h=>by simp [vespersref14_At.l0] at h,fun _ _ _ _ _ r h=>by simp [vespersref14_At.l1] at h⟩
 | k + 1=>by
  obtain ⟨ih0,ih1⟩:=vespersref14_At.mono_l k
  refine ⟨?_,?_⟩
  ·intro y0 y1 y2
   unfold vespersref14_At.l0
   repeat' first
   | (with_reducible exact ih0 _ _ _)
   | (with_reducible exact ih1 _ _ _ _ _)
   | (with_reducible exact LeO.refl _)
   | (with_reducible exact LeO.none _)
   | (with_reducible refine LeO.ite ?_ ?_)
   | (with_reducible refine LeO.bind ?_ (fun _=>?_))
   | exact ih0 _ _ _
   | exact ih1 _ _ _ _ _
   | exact LeO.none _
   | refine LeO.ite ?_ ?_
   | refine LeO.bind ?_ (fun _=>?_)
  ·intro y0 y1 y2 y3 y4
   unfold vespersref14_At.l1
   repeat' first
   | (with_reducible exact ih0 _ _ _)
   | (with_reducible exact ih1 _ _ _ _ _)
   | (with_reducible exact LeO.refl _)
   | (with_reducible exact LeO.none _)
   | (with_reducible refine LeO.ite ?_ ?_)
   | (with_reducible refine LeO.bind ?_ (fun _=>?_))
   | exact ih0 _ _ _
   | exact ih1 _ _ _ _ _
   | exact LeO.none _
   | refine LeO.ite ?_ ?_
   | refine LeO.bind ?_ (fun _=>?_)
theorem vespersref14_At.mono : ∀ a0 a1 k,LeO (vespersref14_At.f k a0 a1) (vespersref14_At.f (k + 1) a0 a1):=by
 intro a0 a1 k
 obtain ⟨ih0,ih1⟩:=vespersref14_At.mono_l k
 unfold vespersref14_At.f
 repeat' first
   | (with_reducible exact ih0 _ _ _)
   | (with_reducible exact ih1 _ _ _ _ _)
   | (with_reducible exact LeO.refl _)
   | (with_reducible exact LeO.none _)
   | (with_reducible refine LeO.ite ?_ ?_)
   | (with_reducible refine LeO.bind ?_ (fun _=>?_))
   | exact ih0 _ _ _
   | exact ih1 _ _ _ _ _
   | exact LeO.none _
   | refine LeO.ite ?_ ?_
   | refine LeO.bind ?_ (fun _=>?_)
set_option maxHeartbeats 8000000 in
set_option maxRecDepth 100000 in
theorem vespersref14_At.calls (k : Nat) (A0 : Option Addr) (c0 : Nat) (l0 : List Int) (a1 : Int) (r : Int) (w : World) (hr0 : Kd.C (Kd.int .i64) w A0 l0.length l0) (hc0 : l0.length ≤ c0) (h : vespersref14_At.f k l0 a1 = some r) :
  Calls Try.prog 31 #[.slice A0 l0.length c0,.int .i64 a1] w fun e w'=>e = .returned (.int .i64 r)∧Drawn0 w w':=by
 have HR0:=Aside0.mk hr0
 have HC0:=Aside0.mk hc0
 clear hr0 hc0
 have H : (vespersref14_At.l0 k l0 a1 0) = some r:=h
 clear h
 have H':=Aside0.mk H
 clear H
 go_enter Try.func31,Try.ntmps31
 go_wp2
 repeat (go_quiet (fail);try go_wp2)
 go_loopg [5] k (fun kq v5 w'=>∃ (Qc : Int),v5 = .int .i64 Qc∧Aside0 (vespersref14_At.l0 kq l0 a1 Qc = some r)∧Aside0 (kq ≤ k)∧Drawn0 w w')
 case atStart=>exact ⟨(0),(by first|rfl|(simp;done)|(simp [*];done)),H',⟨Nat.le_refl _⟩,by repeat (first|exact Drawn0.refl _|apply Drawn0.step)⟩
 case round =>
  clear H'
  try clear p2
  obtain ⟨Qc,rfl,HA,HK1,⟨m1,rfl⟩⟩:=hrel
  cases gk with
  | zero=>exact absurd HA.out (by simp [vespersref14_At.l0])
  | succ k1 =>
   have H:=HA.out
   clear HA
   simp only [vespersref14_At.l0] at H
   by_cases c3 : Qc < (l0.length : Int)
   ·rw [if_pos c3] at H
    have c3b0 : decide (Qc < (l0.length : Int)) = true:=decide_eq_true c3
    clear c3
    have H':=Aside0.mk H
    clear H
    go_wp2
    repeat (go_quiet (fail);try go_wp2)
    go_loopg [6,7] k1 (fun kq v6 v7 w'=>∃ (Qy : Int) (Qd : Int),v6 = .int .i64 Qy∧v7 = .int .i64 Qd∧Aside0 (vespersref14_At.l1 kq l0 a1 Qc Qy Qd = some r)∧Aside0 (kq ≤ k1)∧Drawn0 w w')
    case atStart=>exact ⟨(0),(0),(by first|rfl|(simp;done)|(simp [*];done)),(by first|rfl|(simp;done)|(simp [*];done)),H',⟨Nat.le_refl _⟩,by repeat (first|exact Drawn0.refl _|apply Drawn0.step)⟩
    case round =>
     clear H'
     try clear p2
     try clear c3
     try clear c3b0
     try clear p2
     obtain ⟨Qy,Qd,rfl,rfl,HA,HK2,⟨m2,rfl⟩⟩:=hrel
     cases gk with
     | zero=>exact absurd HA.out (by simp [vespersref14_At.l1])
     | succ k2 =>
      have H:=HA.out
      clear HA
      simp only [vespersref14_At.l1] at H
      by_cases c4 : Qd < (l0.length : Int)
      ·rw [if_pos c4] at H
       have c4b0 : decide (Qd < (l0.length : Int)) = true:=decide_eq_true c4
       clear c4
       by_cases c5 : 0 ≤ Qd
       ·rw [if_pos c5] at H
        have c5b0 : decide (0 ≤ Qd) = true:=decide_eq_true c5
        clear c5
        by_cases c6 : 0 ≤ Qc
        ·rw [if_pos c6] at H
         have c6b0 : decide (0 ≤ Qc) = true:=decide_eq_true c6
         clear c6
         by_cases c7 : Qc < (l0.length : Int)
         ·rw [if_pos c7] at H
          have c7b0 : decide (Qc < (l0.length : Int)) = true:=decide_eq_true c7
          clear c7
          by_cases c8 : (rd l0 Qd) < (rd l0 Qc)
          ·rw [if_pos c8] at H
           have c8b0 : decide ((rd l0 Qd) < (rd l0 Qc)) = true:=decide_eq_true c8
           clear c8
           have H':=Aside0.mk H
           clear H
           have p178 : 0 ≤ (Qd : Int):=of_decide_eq_true (by first|(with_reducible assumption)|assumption)
           have q178 : Qd < (l0.length : Int):=of_decide_eq_true (by first|(with_reducible assumption)|assumption)
           obtain ⟨ad178,e178,hx178_0⟩:=Kd.at_int HR0.out Qd p178 q178
           cases e178
           replace p178:=eq_true p178
           replace q178:=eq_true q178
           have p179 : 0 ≤ (Qc : Int):=of_decide_eq_true (by first|(with_reducible assumption)|assumption)
           have q179 : Qc < (l0.length : Int):=of_decide_eq_true (by first|(with_reducible assumption)|assumption)
           obtain ⟨ad179,e179,hx179_0⟩:=Kd.at_int HR0.out Qc p179 q179
           obtain rfl : ad178 = ad179:=(by injection e179)
           replace p179:=eq_true p179
           replace q179:=eq_true q179
           go_wp2
           repeat (go_quiet (fail);try go_wp2)
           go_roundg k2
           case measure=>have:=HK1.out;have:=HK2.out;omega
           case rel=>exact ⟨(wrap64 (Qy + 1)),(wrap64 (Qd + 1)),(by first|rfl|(simp;done)|(simp [*];done)),(by first|rfl|(simp;done)|(simp [*];done)),H',⟨by have:=HK1.out;have:=HK2.out;omega⟩,by repeat (first|exact Drawn0.refl _|apply Drawn0.step)⟩
          ·rw [if_neg c8] at H
           have c8b0 : decide ((rd l0 Qd) < (rd l0 Qc)) = false:=decide_eq_false c8
           clear c8
           by_cases c9 : (rd l0 Qd) = (rd l0 Qc)
           ·rw [if_pos c9] at H
            have c9b0 : ((rd l0 Qd) == (rd l0 Qc)) = true:=beq_iff_eq.mpr c9
            have c9b1 : ((rd l0 Qd) != (rd l0 Qc)) = false:=bne_eq_false_iff_eq.mpr c9
            clear c9
            by_cases c10 : Qd < Qc
            ·rw [if_pos c10] at H
             have c10b0 : decide (Qd < Qc) = true:=decide_eq_true c10
             clear c10
             have H':=Aside0.mk H
             clear H
             have p178 : 0 ≤ (Qd : Int):=of_decide_eq_true (by first|(with_reducible assumption)|assumption)
             have q178 : Qd < (l0.length : Int):=of_decide_eq_true (by first|(with_reducible assumption)|assumption)
             obtain ⟨ad178,e178,hx178_0⟩:=Kd.at_int HR0.out Qd p178 q178
             cases e178
             replace p178:=eq_true p178
             replace q178:=eq_true q178
             have p179 : 0 ≤ (Qc : Int):=of_decide_eq_true (by first|(with_reducible assumption)|assumption)
             have q179 : Qc < (l0.length : Int):=of_decide_eq_true (by first|(with_reducible assumption)|assumption)
             obtain ⟨ad179,e179,hx179_0⟩:=Kd.at_int HR0.out Qc p179 q179
             obtain rfl : ad178 = ad179:=(by injection e179)
             replace p179:=eq_true p179
             replace q179:=eq_true q179
             have p180 : 0 ≤ (Qd : Int):=of_decide_eq_true (by first|(with_reducible assumption)|assumption)
             have q180 : Qd < (l0.length : Int):=of_decide_eq_true (by first|(with_reducible assumption)|assumption)
             obtain ⟨ad180,e180,hx180_0⟩:=Kd.at_int HR0.out Qd p180 q180
             obtain rfl : ad178 = ad180:=(by injection e180)
             replace p180:=eq_true p180
             replace q180:=eq_true q180
             have p181 : 0 ≤ (Qc : Int):=of_decide_eq_true (by first|(with_reducible assumption)|assumption)
             have q181 : Qc < (l0.length : Int):=of_decide_eq_true (by first|(with_reducible assumption)|assumption)
             obtain ⟨ad181,e181,hx181_0⟩:=Kd.at_int HR0.out Qc p181 q181
             obtain rfl : ad178 = ad181:=(by injection e181)
             replace p181:=eq_true p181
             replace q181:=eq_true q181
             go_wp2
             repeat (go_quiet (fail);try go_wp2)
             go_roundg k2
             case measure=>have:=HK1.out;have:=HK2.out;omega
             case rel=>exact ⟨(wrap64 (Qy + 1)),(wrap64 (Qd + 1)),(by first|rfl|(simp;done)|(simp [*];done)),(by first|rfl|(simp;done)|(simp [*];done)),H',⟨by have:=HK1.out;have:=HK2.out;omega⟩,by repeat (first|exact Drawn0.refl _|apply Drawn0.step)⟩
            ·rw [if_neg c10] at H
             have c10b0 : decide (Qd < Qc) = false:=decide_eq_false c10
             clear c10
             have H':=Aside0.mk H
             clear H
             have p178 : 0 ≤ (Qd : Int):=of_decide_eq_true (by first|(with_reducible assumption)|assumption)
             have q178 : Qd < (l0.length : Int):=of_decide_eq_true (by first|(with_reducible assumption)|assumption)
             obtain ⟨ad178,e178,hx178_0⟩:=Kd.at_int HR0.out Qd p178 q178
             cases e178
             replace p178:=eq_true p178
             replace q178:=eq_true q178
             have p179 : 0 ≤ (Qc : Int):=of_decide_eq_true (by first|(with_reducible assumption)|assumption)
             have q179 : Qc < (l0.length : Int):=of_decide_eq_true (by first|(with_reducible assumption)|assumption)
             obtain ⟨ad179,e179,hx179_0⟩:=Kd.at_int HR0.out Qc p179 q179
             obtain rfl : ad178 = ad179:=(by injection e179)
             replace p179:=eq_true p179
             replace q179:=eq_true q179
             have p180 : 0 ≤ (Qd : Int):=of_decide_eq_true (by first|(with_reducible assumption)|assumption)
             have q180 : Qd < (l0.length : Int):=of_decide_eq_true (by first|(with_reducible assumption)|assumption)
             obtain ⟨ad180,e180,hx180_0⟩:=Kd.at_int HR0.out Qd p180 q180
             obtain rfl : ad178 = ad180:=(by injection e180)
             replace p180:=eq_true p180
             replace q180:=eq_true q180
             have p181 : 0 ≤ (Qc : Int):=of_decide_eq_true (by first|(with_reducible assumption)|assumption)
             have q181 : Qc < (l0.length : Int):=of_decide_eq_true (by first|(with_reducible assumption)|assumption)
             obtain ⟨ad181,e181,hx181_0⟩:=Kd.at_int HR0.out Qc p181 q181
             obtain rfl : ad178 = ad181:=(by injection e181)
             replace p181:=eq_true p181
             replace q181:=eq_true q181
             go_wp2
             repeat (go_quiet (fail);try go_wp2)
             go_roundg k2
             case measure=>have:=HK1.out;have:=HK2.out;omega
             case rel=>exact ⟨(Qy),(wrap64 (Qd + 1)),(by first|rfl|(simp;done)|(simp [*];done)),(by first|rfl|(simp;done)|(simp [*];done)),H',⟨by have:=HK1.out;have:=HK2.out;omega⟩,by repeat (first|exact Drawn0.refl _|apply Drawn0.step)⟩
           ·rw [if_neg c9] at H
            have c9b0 : ((rd l0 Qd) == (rd l0 Qc)) = false:=beq_eq_false_iff_ne.mpr c9
            have c9b1 : ((rd l0 Qd) != (rd l0 Qc)) = true:=bne_iff_ne.mpr c9
            have H':=Aside0.mk H
            clear H
            have p178 : 0 ≤ (Qd : Int):=of_decide_eq_true (by first|(with_reducible assumption)|assumption)
            have q178 : Qd < (l0.length : Int):=of_decide_eq_true (by first|(with_reducible assumption)|assumption)
            obtain ⟨ad178,e178,hx178_0⟩:=Kd.at_int HR0.out Qd p178 q178
            cases e178
            replace p178:=eq_true p178
            replace q178:=eq_true q178
            have p179 : 0 ≤ (Qc : Int):=of_decide_eq_true (by first|(with_reducible assumption)|assumption)
            have q179 : Qc < (l0.length : Int):=of_decide_eq_true (by first|(with_reducible assumption)|assumption)
            obtain ⟨ad179,e179,hx179_0⟩:=Kd.at_int HR0.out Qc p179 q179
            obtain rfl : ad178 = ad179:=(by injection e179)
            replace p179:=eq_true p179
            replace q179:=eq_true q179
            have p180 : 0 ≤ (Qd : Int):=of_decide_eq_true (by first|(with_reducible assumption)|assumption)
            have q180 : Qd < (l0.length : Int):=of_decide_eq_true (by first|(with_reducible assumption)|assumption)
            obtain ⟨ad180,e180,hx180_0⟩:=Kd.at_int HR0.out Qd p180 q180
            obtain rfl : ad178 = ad180:=(by injection e180)
            replace p180:=eq_true p180
            replace q180:=eq_true q180
            have p181 : 0 ≤ (Qc : Int):=of_decide_eq_true (by first|(with_reducible assumption)|assumption)
            have q181 : Qc < (l0.length : Int):=of_decide_eq_true (by first|(with_reducible assumption)|assumption)
            obtain ⟨ad181,e181,hx181_0⟩:=Kd.at_int HR0.out Qc p181 q181
            obtain rfl : ad178 = ad181:=(by injection e181)
            replace p181:=eq_true p181
            replace q181:=eq_true q181
            go_wp2
            repeat (go_quiet (fail);try go_wp2)
            go_roundg k2
            case measure=>have:=HK1.out;have:=HK2.out;omega
            case rel=>exact ⟨(Qy),(wrap64 (Qd + 1)),(by first|rfl|(simp;done)|(simp [*];done)),(by first|rfl|(simp;done)|(simp [*];done)),H',⟨by have:=HK1.out;have:=HK2.out;omega⟩,by repeat (first|exact Drawn0.refl _|apply Drawn0.step)⟩
         ·rw [if_neg c7] at H
          exact absurd H (by simp)
        ·rw [if_neg c6] at H
         exact absurd H (by simp)
       ·rw [if_neg c5] at H
        exact absurd H (by simp)
      ·rw [if_neg c4] at H
       have c4b0 : decide (Qd < (l0.length : Int)) = false:=decide_eq_false c4
       clear c4
       by_cases c11 : Qy = a1
       ·rw [if_pos c11] at H
        have c11b0 : (Qy == a1) = true:=beq_iff_eq.mpr c11
        have c11b1 : (Qy != a1) = false:=bne_eq_false_iff_eq.mpr c11
        clear c11
        by_cases c12 : 0 ≤ Qc
        ·rw [if_pos c12] at H
         have c12b0 : decide (0 ≤ Qc) = true:=decide_eq_true c12
         clear c12
         by_cases c13 : Qc < (l0.length : Int)
         ·rw [if_pos c13] at H
          have c13b0 : decide (Qc < (l0.length : Int)) = true:=decide_eq_true c13
          clear c13
          obtain rfl:=Option.some.inj H
          have p182 : 0 ≤ (Qc : Int):=of_decide_eq_true (by first|(with_reducible assumption)|assumption)
          have q182 : Qc < (l0.length : Int):=of_decide_eq_true (by first|(with_reducible assumption)|assumption)
          obtain ⟨ad182,e182,hx182_0⟩:=Kd.at_int HR0.out Qc p182 q182
          cases e182
          replace p182:=eq_true p182
          replace q182:=eq_true q182
          go_wp2
          repeat (go_quiet (fail);try go_wp2)
          go_ret
          exact ⟨by first|rfl|(simp;done)|(simp [*];done),by repeat (first|exact Drawn0.refl _|apply Drawn0.step)⟩
         ·rw [if_neg c13] at H
          exact absurd H (by simp)
        ·rw [if_neg c12] at H
         exact absurd H (by simp)
       ·rw [if_neg c11] at H
        have c11b0 : (Qy == a1) = false:=beq_eq_false_iff_ne.mpr c11
        have c11b1 : (Qy != a1) = true:=bne_iff_ne.mpr c11
        have H':=Aside0.mk H
        clear H
        go_wp2
        repeat (go_quiet (fail);try go_wp2)
        go_roundg k2
        case measure=>have:=HK1.out;have:=HK2.out;omega
        case rel=>exact ⟨(wrap64 (Qc + 1)),(by first|rfl|(simp;done)|(simp [*];done)),H',⟨by have:=HK1.out;have:=HK2.out;omega⟩,by repeat (first|exact Drawn0.refl _|apply Drawn0.step)⟩
   ·rw [if_neg c3] at H
    have c3b0 : decide (Qc < (l0.length : Int)) = false:=decide_eq_false c3
    clear c3
    obtain rfl:=Option.some.inj H
    go_wp2
    repeat (go_quiet (fail);try go_wp2)
    go_ret
    exact ⟨by first|rfl|(simp;done)|(simp [*];done),by repeat (first|exact Drawn0.refl _|apply Drawn0.step)⟩
/-! ### vespersref14_Of: function 21 -/
def vespersref14_Of.f (k : Nat) (l0 : List Int) (a1 : Int) : Option (Int × Int):=(vespersref14_Check.f k l0 a1).bind fun Qx=>(if Qx = 0 then ((vespersref14_At.f k l0 a1).bind fun Qf=>((vespersref14_At.f k l0 (wrap64 ((wrap64 ((l0.length : Int) - 1)) - a1))).bind fun Qe=>(if (wrap64 (2 * (wrap64 (Int.tdiv (wrap64 (Qf + Qe)) 2)))) > (wrap64 (Qf + Qe)) then (some (wrap64 ((wrap64 (Int.tdiv (wrap64 (Qf + Qe)) 2)) - 1),0)) else (some (wrap64 (Int.tdiv (wrap64 (Qf + Qe)) 2),0))))) else (some (0,140)))
theorem vespersref14_Of.mono : ∀ a0 a1 k,LeO (vespersref14_Of.f k a0 a1) (vespersref14_Of.f (k + 1) a0 a1):=by
 intro a0 a1 k
 unfold vespersref14_Of.f
 repeat' first
   | (with_reducible exact vespersref14_At.mono _ _ _)
   | (with_reducible exact vespersref14_Check.mono _ _ _)
   | (with_reducible exact LeO.refl _)
   | (with_reducible exact LeO.none _)
   | (with_reducible refine LeO.ite ?_ ?_)
   | (with_reducible refine LeO.bind ?_ (fun _=>?_))
   | exact vespersref14_At.mono _ _ _
   | exact vespersref14_Check.mono _ _ _
   | exact LeO.none _
   | refine LeO.ite ?_ ?_
   | refine LeO.bind ?_ (fun _=>?_)
set_option maxHeartbeats 8000000 in
set_option maxRecDepth 100000 in
theorem vespersref14_Of.calls (k : Nat) (A0 : Option Addr) (c0 : Nat) (l0 : List Int) (a1 : Int) (r1 : Int) (r2 : Int) (w : World) (hr0 : Kd.C (Kd.int .i64) w A0 l0.length l0) (hc0 : l0.length ≤ c0) (h : vespersref14_Of.f k l0 a1 = some (r1,r2)) :
  Calls Try.prog 21 #[.slice A0 l0.length c0,.int .i64 a1] w fun e w'=>e = .returned (.tuple #[.int .i64 r1,.int .i64 r2])∧Drawn0 w w':=by
 have HR0:=Aside0.mk hr0
 have HC0:=Aside0.mk hc0
 clear hr0 hc0
 have H : ((vespersref14_Check.f k l0 a1).bind fun Qx=>(if Qx = 0 then ((vespersref14_At.f k l0 a1).bind fun Qf=>((vespersref14_At.f k l0 (wrap64 ((wrap64 ((l0.length : Int) - 1)) - a1))).bind fun Qe=>(if (wrap64 (2 * (wrap64 (Int.tdiv (wrap64 (Qf + Qe)) 2)))) > (wrap64 (Qf + Qe)) then (some (wrap64 ((wrap64 (Int.tdiv (wrap64 (Qf + Qe)) 2)) - 1),0)) else (some (wrap64 (Int.tdiv (wrap64 (Qf + Qe)) 2),0))))) else (some (0,140)))) = some (r1,r2):=h
 clear h
 replace H:=Option.bind_eq_some_iff.mp H
 obtain ⟨Qx,A30,H⟩:=H
 replace H : (if Qx = 0 then ((vespersref14_At.f k l0 a1).bind fun Qf=>((vespersref14_At.f k l0 (wrap64 ((wrap64 ((l0.length : Int) - 1)) - a1))).bind fun Qe=>(if (wrap64 (2 * (wrap64 (Int.tdiv (wrap64 (Qf + Qe)) 2)))) > (wrap64 (Qf + Qe)) then (some (wrap64 ((wrap64 (Int.tdiv (wrap64 (Qf + Qe)) 2)) - 1),0)) else (some (wrap64 (Int.tdiv (wrap64 (Qf + Qe)) 2),0))))) else (some (0,140))) = some (r1,r2):=H
 have A3:=Aside0.mk A30
 clear A30
 by_cases c4 : Qx = 0
 ·rw [if_pos c4] at H
  have c4b0 : (Qx == 0) = true:=beq_iff_eq.mpr c4
  have c4b1 : (Qx != 0) = false:=bne_eq_false_iff_eq.mpr c4
  clear c4
  replace H:=Option.bind_eq_some_iff.mp H
  obtain ⟨Qf,A50,H⟩:=H
  replace H : ((vespersref14_At.f k l0 (wrap64 ((wrap64 ((l0.length : Int) - 1)) - a1))).bind fun Qe=>(if (wrap64 (2 * (wrap64 (Int.tdiv (wrap64 (Qf + Qe)) 2)))) > (wrap64 (Qf + Qe)) then (some (wrap64 ((wrap64 (Int.tdiv (wrap64 (Qf + Qe)) 2)) - 1),0)) else (some (wrap64 (Int.tdiv (wrap64 (Qf + Qe)) 2),0)))) = some (r1,r2):=H
  have A5:=Aside0.mk A50
  clear A50
  replace H:=Option.bind_eq_some_iff.mp H
  obtain ⟨Qe,A60,H⟩:=H
  replace H : (if (wrap64 (2 * (wrap64 (Int.tdiv (wrap64 (Qf + Qe)) 2)))) > (wrap64 (Qf + Qe)) then (some (wrap64 ((wrap64 (Int.tdiv (wrap64 (Qf + Qe)) 2)) - 1),0)) else (some (wrap64 (Int.tdiv (wrap64 (Qf + Qe)) 2),0))) = some (r1,r2):=H
  have A6:=Aside0.mk A60
  clear A60
  by_cases c7 : (wrap64 (2 * (wrap64 (Int.tdiv (wrap64 (Qf + Qe)) 2)))) > (wrap64 (Qf + Qe))
  ·rw [if_pos c7] at H
   have c7b0 : decide ((wrap64 (Qf + Qe)) < (wrap64 (2 * (wrap64 (Int.tdiv (wrap64 (Qf + Qe)) 2))))) = true:=decide_eq_true c7
   clear c7
   simp only [Option.some.injEq,Prod.mk.injEq] at H
   obtain ⟨rfl,rfl⟩:=H
   go_enter Try.func21,Try.ntmps21
   go_wp2_with (first|((with_reducible refine gate_callee (f:=30) rfl ?_);refine goesL_ (some 10) rfl rfl Try.func30 (by kernel_rfl) rfl #[.slice A0 l0.length c0,.int .i64 a1] rfl (by (try simp only [List.map_toArray,List.map_cons,List.map_nil]);first|done|rfl|(simp only [List.length_drop,List.length_take];rfl)) ?_;(with_reducible refine (vespersref14_Check.calls k _ _ l0 a1 Qx _ ?side1 ?side2 A3.out).mono ?_);(case side1=>repeat (first|exact HR0.out|(with_reducible refine Kd.C_alloc ?_ _)|(with_reducible refine Kd.C_drewN ?_ _)|(with_reducible refine Kd.C_drew ?_)));(case side2=>exact HC0.out);rintro e w' ⟨rfl,⟨nd,rfl⟩⟩;refine ⟨_,rfl,?_⟩)|((with_reducible refine gate_callee (f:=31) rfl ?_);refine goesL_ (some 14) rfl rfl Try.func31 (by kernel_rfl) rfl #[.slice A0 l0.length c0,.int .i64 a1] rfl (by (try simp only [List.map_toArray,List.map_cons,List.map_nil]);first|done|rfl|(simp only [List.length_drop,List.length_take];rfl)) ?_;(with_reducible refine (vespersref14_At.calls k _ _ l0 a1 Qf _ ?side1 ?side2 A5.out).mono ?_);(case side1=>repeat (first|exact HR0.out|(with_reducible refine Kd.C_alloc ?_ _)|(with_reducible refine Kd.C_drewN ?_ _)|(with_reducible refine Kd.C_drew ?_)));(case side2=>exact HC0.out);rintro e w' ⟨rfl,⟨nd,rfl⟩⟩;refine ⟨_,rfl,?_⟩)|((with_reducible refine gate_callee (f:=31) rfl ?_);refine goesL_ (some 21) rfl rfl Try.func31 (by kernel_rfl) rfl #[.slice A0 l0.length c0,.int .i64 (wrap64 ((wrap64 ((l0.length : Int) - 1)) - a1))] rfl (by (try simp only [List.map_toArray,List.map_cons,List.map_nil]);first|done|rfl|(simp only [List.length_drop,List.length_take];rfl)) ?_;(with_reducible refine (vespersref14_At.calls k _ _ l0 (wrap64 ((wrap64 ((l0.length : Int) - 1)) - a1)) Qe _ ?side1 ?side2 A6.out).mono ?_);(case side1=>repeat (first|exact HR0.out|(with_reducible refine Kd.C_alloc ?_ _)|(with_reducible refine Kd.C_drewN ?_ _)|(with_reducible refine Kd.C_drew ?_)));(case side2=>exact HC0.out);rintro e w' ⟨rfl,⟨nd,rfl⟩⟩;refine ⟨_,rfl,?_⟩))
   go_ret2
   exact ⟨by first|rfl|(simp;done)|(simp [*];done),by repeat (first|exact Drawn0.refl _|apply Drawn0.step)⟩
  ·rw [if_neg c7] at H
   have c7b0 : decide ((wrap64 (Qf + Qe)) < (wrap64 (2 * (wrap64 (Int.tdiv (wrap64 (Qf + Qe)) 2))))) = false:=decide_eq_false c7
   clear c7
   simp only [Option.some.injEq,Prod.mk.injEq] at H
   obtain ⟨rfl,rfl⟩:=H
   go_enter Try.func21,Try.ntmps21
   go_wp2_with (first|((with_reducible refine gate_callee (f:=30) rfl ?_);refine goesL_ (some 10) rfl rfl Try.func30 (by kernel_rfl) rfl #[.slice A0 l0.length c0,.int .i64 a1] rfl (by (try simp only [List.map_toArray,List.map_cons,List.map_nil]);first|done|rfl|(simp only [List.length_drop,List.length_take];rfl)) ?_;(with_reducible refine (vespersref14_Check.calls k _ _ l0 a1 Qx _ ?side1 ?side2 A3.out).mono ?_);(case side1=>repeat (first|exact HR0.out|(with_reducible refine Kd.C_alloc ?_ _)|(with_reducible refine Kd.C_drewN ?_ _)|(with_reducible refine Kd.C_drew ?_)));(case side2=>exact HC0.out);rintro e w' ⟨rfl,⟨nd,rfl⟩⟩;refine ⟨_,rfl,?_⟩)|((with_reducible refine gate_callee (f:=31) rfl ?_);refine goesL_ (some 14) rfl rfl Try.func31 (by kernel_rfl) rfl #[.slice A0 l0.length c0,.int .i64 a1] rfl (by (try simp only [List.map_toArray,List.map_cons,List.map_nil]);first|done|rfl|(simp only [List.length_drop,List.length_take];rfl)) ?_;(with_reducible refine (vespersref14_At.calls k _ _ l0 a1 Qf _ ?side1 ?side2 A5.out).mono ?_);(case side1=>repeat (first|exact HR0.out|(with_reducible refine Kd.C_alloc ?_ _)|(with_reducible refine Kd.C_drewN ?_ _)|(with_reducible refine Kd.C_drew ?_)));(case side2=>exact HC0.out);rintro e w' ⟨rfl,⟨nd,rfl⟩⟩;refine ⟨_,rfl,?_⟩)|((with_reducible refine gate_callee (f:=31) rfl ?_);refine goesL_ (some 21) rfl rfl Try.func31 (by kernel_rfl) rfl #[.slice A0 l0.length c0,.int .i64 (wrap64 ((wrap64 ((l0.length : Int) - 1)) - a1))] rfl (by (try simp only [List.map_toArray,List.map_cons,List.map_nil]);first|done|rfl|(simp only [List.length_drop,List.length_take];rfl)) ?_;(with_reducible refine (vespersref14_At.calls k _ _ l0 (wrap64 ((wrap64 ((l0.length : Int) - 1)) - a1)) Qe _ ?side1 ?side2 A6.out).mono ?_);(case side1=>repeat (first|exact HR0.out|(with_reducible refine Kd.C_alloc ?_ _)|(with_reducible refine Kd.C_drewN ?_ _)|(with_reducible refine Kd.C_drew ?_)));(case side2=>exact HC0.out);rintro e w' ⟨rfl,⟨nd,rfl⟩⟩;refine ⟨_,rfl,?_⟩))
   go_ret2
   exact ⟨by first|rfl|(simp;done)|(simp [*];done),by repeat (first|exact Drawn0.refl _|apply Drawn0.step)⟩
 ·rw [if_neg c4] at H
  have c4b0 : (Qx == 0) = false:=beq_eq_false_iff_ne.mpr c4
  have c4b1 : (Qx != 0) = true:=bne_iff_ne.mpr c4
  simp only [Option.some.injEq,Prod.mk.injEq] at H
  obtain ⟨rfl,rfl⟩:=H
  go_enter Try.func21,Try.ntmps21
  go_wp2_with (first|((with_reducible refine gate_callee (f:=30) rfl ?_);refine goesL_ (some 10) rfl rfl Try.func30 (by kernel_rfl) rfl #[.slice A0 l0.length c0,.int .i64 a1] rfl (by (try simp only [List.map_toArray,List.map_cons,List.map_nil]);first|done|rfl|(simp only [List.length_drop,List.length_take];rfl)) ?_;(with_reducible refine (vespersref14_Check.calls k _ _ l0 a1 Qx _ ?side1 ?side2 A3.out).mono ?_);(case side1=>repeat (first|exact HR0.out|(with_reducible refine Kd.C_alloc ?_ _)|(with_reducible refine Kd.C_drewN ?_ _)|(with_reducible refine Kd.C_drew ?_)));(case side2=>exact HC0.out);rintro e w' ⟨rfl,⟨nd,rfl⟩⟩;refine ⟨_,rfl,?_⟩))
  go_ret2
  exact ⟨by first|rfl|(simp;done)|(simp [*];done),by repeat (first|exact Drawn0.refl _|apply Drawn0.step)⟩
end Go.Proofs.Ytnmephdamgofnaa.PA
