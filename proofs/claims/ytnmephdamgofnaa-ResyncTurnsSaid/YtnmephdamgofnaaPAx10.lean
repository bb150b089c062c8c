/- Written by a program of this session (wip/jprint.py, over the printer of the kit): functions that a law comes to, as plain Lean functions, and walks; Lean checks it. -/
import Derived.Test.YtnmephdamgofnaaPAx0
import Derived.Test.YtnmephdamgofnaaPAx9
namespace Go.Proofs.Ytnmephdamgofnaa.PA
open Go.RowKit Go.Proofs.YtnmephdamgofnaaW.PrintWords Go.Proofs.YtnmephdamgofnaaW.PrintLast Go.Proofs.YtnmephdamgofnaaW.PrintMore
attribute [local go_sem] max2_int min2_int max_two min_two max_three min_three max_four min_four   -- for this text's walks alone
set_option linter.unusedVariables false
set_option linter.unusedSimpArgs false

/-! ### vespersref15_Turn: function 10 -/
mutual
def vespersref15_Turn.j0 : Nat→Int→Int→Bool→Int→Int→Int→Bool→Option (Int × Int × Int × Bool × Int × Int)
 | 0,_,_,_,_,_,_,_=>none
 | k + 1,x9,x10,x26,QT,QU,QV,QY=>if x26 = true then (some (0,0,0,false,0,150)) else (if QY = true then (vespersref15_Turn.j1 k x9 true QT QU QV QY) else (vespersref15_Turn.j1 k x9 (x10 == 151) QT QU QV QY))
def vespersref15_Turn.j1 : Nat→Int→Bool→Int→Int→Int→Bool→Option (Int × Int × Int × Bool × Int × Int)
 | 0,_,_,_,_,_,_=>none
 | k + 1,x9,x33,QT,QU,QV,QY=>if x33 = true then (some (QT,QU,QV,true,0,151)) else (if x9 > 0 then (vespersref15_Turn.j2 k x9 true (wrap64 (QT + 1)) QU (wrap64 (QV + x9)) false) else (vespersref15_Turn.j2 k x9 (decide (x9 < 0)) (wrap64 (QT + 1)) QU (wrap64 (QV + x9)) false))
def vespersref15_Turn.j2 : Nat→Int→Bool→Int→Int→Int→Bool→Option (Int × Int × Int × Bool × Int × Int)
 | 0,_,_,_,_,_,_=>none
 | k + 1,x9,x56,QZ,Za,Zb,Zc=>if x56 = true then ((vespersref15_may.f QZ (wrap64 (Za + 1)) Zb Zc).bind fun t202=>(if t202 = true then (some (QZ,wrap64 (Za + 1),Zb,Zc,x9,0)) else (some (0,0,0,false,0,150)))) else ((vespersref15_may.f QZ Za Zb Zc).bind fun t203=>(if t203 = true then (some (QZ,Za,Zb,Zc,x9,0)) else (some (0,0,0,false,0,150))))
end
def vespersref15_Turn.f (k : Nat) (QB : Int) (QC : Int) (QD : Int) (QE : Int) (QF : Int) (QG : Int) (QH : Int) (QI : Int) (QJ : Int) (QK : Int) (Qo : Int) (Qp : Int) (Qq : Int) (Qr : Int) (Qs : Int) (Qt : Int) (Qd : Int) (Qe : Int) (Qf : Int) (Qu : Bool) (l2 : List Int) : Option (Int × Int × Int × Bool × Int × Int):=(vespersref15_Correction.f k QB QC QD QE QF QG QH QI QJ QK Qo Qp Qq Qr Qs Qt l2).bind fun QS=>((vespersref15_may.f Qd Qe Qf Qu).bind fun Zd=>(if QS.2 = 150 then (vespersref15_Turn.j0 k QS.1 QS.2 true Qd Qe Qf Qu) else (vespersref15_Turn.j0 k QS.1 QS.2 (!Zd) Qd Qe Qf Qu)))
theorem vespersref15_Turn.mono_l : ∀ k,(∀ y0 y1 y2 y3 y4 y5 y6,LeO (vespersref15_Turn.j0 k y0 y1 y2 y3 y4 y5 y6) (vespersref15_Turn.j0 (k + 1) y0 y1 y2 y3 y4 y5 y6))∧(∀ y0 y1 y2 y3 y4 y5,LeO (vespersref15_Turn.j1 k y0 y1 y2 y3 y4 y5) (vespersref15_Turn.j1 (k + 1) y0 y1 y2 y3 y4 y5))∧(∀ y0 y1 y2 y3 y4 y5,LeO (vespersref15_Turn.j2 k y0 y1 y2 y3 y4 y5) (vespersref15_Turn.j2 (k + 1) y0 y1 y2 y3 y4 y5))
 | 0=>⟨fun _ _ _ _ _ _ _ r h=>by simp [vespersref15_Turn.j0] at h,fun _ _ _ _ _ _ r h=>by simp [vespersref15_Turn.j1] at h,fun _ _ _ _ _ _ r h=>by simp [vespersref15_Turn.j2] at h⟩
 | k + 1=>by
  obtain ⟨ih0,ih1,ih2⟩:=vespersref15_Turn.mono_l k
  refine ⟨?_,?_,?_⟩
  ·intro y0 y1 y2 y3 y4 y5 y6
   unfold vespersref15_Turn.j0
   repeat' first
   | (with_reducible exact ih0 _ _ _ _ _ _ _)
   | (with_reducible exact ih1 _ _ _ _ _ _)
   | (with_reducible exact ih2 _ _ _ _ _ _)
   | (with_reducible exact vespersref15_Correction.mono _ _ _ _ _ _ _ _ _ _ _ _ _ _ _ _ _ _)
   | (with_reducible exact LeO.refl _)
   | (with_reducible exact LeO.none _)
   | (with_reducible refine LeO.ite ?_ ?_)
   | (with_reducible refine LeO.bind ?_ (fun _=>?_))
   | exact ih0 _ _ _ _ _ _ _
   | exact ih1 _ _ _ _ _ _
   | exact ih2 _ _ _ _ _ _
   | exact vespersref15_Correction.mono _ _ _ _ _ _ _ _ _ _ _ _ _ _ _ _ _ _
   | exact LeO.none _
   | refine LeO.ite ?_ ?_
   | refine LeO.bind ?_ (fun _=>?_)
  ·intro y0 y1 y2 y3 y4 y5
   unfold vespersref15_Turn.j1
   repeat' first
   | (with_reducible exact ih0 _ _ _ _ _ _ _)
   | (with_reducible exact ih1 _ _ _ _ _ _)
   | (with_reducible exact ih2 _ _ _ _ _ _)
   | (with_reducible exact vespersref15_Correction.mono _ _ _ _ _ _ _ _ _ _ _ _ _ _ _ _ _ _)
   | (with_reducible exact LeO.refl _)
   | (with_reducible exact LeO.none _)
   | (with_reducible refine LeO.ite ?_ ?_)
   | (with_reducible refine LeO.bind ?_ (fun _=>?_))
   | exact ih0 _ _ _ _ _ _ _
   | exact ih1 _ _ _ _ _ _
   | exact ih2 _ _ _ _ _ _
   | exact vespersref15_Correction.mono _ _ _ _ _ _ _ _ _ _ _ _ _ _ _ _ _ _
   | exact LeO.none _
   | refine LeO.ite ?_ ?_
   | refine LeO.bind ?_ (fun _=>?_)
  ·intro y0 y1 y2 y3 y4 y5
   unfold vespersref15_Turn.j2
   repeat' first
   | (with_reducible exact ih0 _ _ _ _ _ _ _)
   | (with_reducible exact ih1 _ _ _ _ _ _)
   | (with_reducible exact ih2 _ _ _ _ _ _)
   | (with_reducible exact vespersref15_Correction.mono _ _ _ _ _ _ _ _ _ _ _ _ _ _ _ _ _ _)
   | (with_reducible exact LeO.refl _)
   | (with_reducible exact LeO.none _)
   | (with_reducible refine LeO.ite ?_ ?_)
   | (with_reducible refine LeO.bind ?_ (fun _=>?_))
   | exact ih0 _ _ _ _ _ _ _
   | exact ih1 _ _ _ _ _ _
   | exact ih2 _ _ _ _ _ _
   | exact vespersref15_Correction.mono _ _ _ _ _ _ _ _ _ _ _ _ _ _ _ _ _ _
   | exact LeO.none _
   | refine LeO.ite ?_ ?_
   | refine LeO.bind ?_ (fun _=>?_)
theorem vespersref15_Turn.mono : ∀ a0 a1 a2 a3 a4 a5 a6 a7 a8 a9 a10 a11 a12 a13 a14 a15 a16 a17 a18 a19 a20 k,LeO (vespersref15_Turn.f k a0 a1 a2 a3 a4 a5 a6 a7 a8 a9 a10 a11 a12 a13 a14 a15 a16 a17 a18 a19 a20) (vespersref15_Turn.f (k + 1) a0 a1 a2 a3 a4 a5 a6 a7 a8 a9 a10 a11 a12 a13 a14 a15 a16 a17 a18 a19 a20):=by
 intro a0 a1 a2 a3 a4 a5 a6 a7 a8 a9 a10 a11 a12 a13 a14 a15 a16 a17 a18 a19 a20 k
 obtain ⟨ih0,ih1,ih2⟩:=vespersref15_Turn.mono_l k
 unfold vespersref15_Turn.f
 repeat' first
   | (with_reducible exact ih0 _ _ _ _ _ _ _)
   | (with_reducible exact ih1 _ _ _ _ _ _)
   | (with_reducible exact ih2 _ _ _ _ _ _)
   | (with_reducible exact vespersref15_Correction.mono _ _ _ _ _ _ _ _ _ _ _ _ _ _ _ _ _ _)
   | (with_reducible exact LeO.refl _)
   | (with_reducible exact LeO.none _)
   | (with_reducible refine LeO.ite ?_ ?_)
   | (with_reducible refine LeO.bind ?_ (fun _=>?_))
   | exact ih0 _ _ _ _ _ _ _
   | exact ih1 _ _ _ _ _ _
   | exact ih2 _ _ _ _ _ _
   | exact vespersref15_Correction.mono _ _ _ _ _ _ _ _ _ _ _ _ _ _ _ _ _ _
   | exact LeO.none _
   | refine LeO.ite ?_ ?_
   | refine LeO.bind ?_ (fun _=>?_)
set_option maxHeartbeats 8000000 in
set_option maxRecDepth 100000 in
theorem vespersref15_Turn.calls (k : Nat) (QB : Int) (QC : Int) (QD : Int) (QE : Int) (QF : Int) (QG : Int) (QH : Int) (QI : Int) (QJ : Int) (QK : Int) (Qo : Int) (Qp : Int) (Qq : Int) (Qr : Int) (Qs : Int) (Qt : Int) (Qd : Int) (Qe : Int) (Qf : Int) (Qu : Bool) (A2 : Option Addr) (c2 : Nat) (l2 : List Int) (r1 : Int) (r2 : Int) (r3 : Int) (r4 : Bool) (r5 : Int) (r6 : Int) (w : World) (hr2 : Kd.C (Kd.int .i64) w A2 l2.length l2) (hc2 : l2.length ≤ c2) (h : vespersref15_Turn.f k QB QC QD QE QF QG QH QI QJ QK Qo Qp Qq Qr Qs Qt Qd Qe Qf Qu l2 = some (r1,r2,r3,r4,r5,r6)) :
  Calls Try.prog 10 #[.agg #[.int .i64 QB,.int .i64 QC,.int .i64 QD,.int .i64 QE,.int .i64 QF,.int .i64 QG,.int .i64 QH,.int .i64 QI,.int .i64 QJ,.int .i64 QK,.int .i64 Qo,.int .i64 Qp,.int .i64 Qq,.int .i64 Qr,.int .i64 Qs,.int .i64 Qt],.agg #[.int .i64 Qd,.int .i64 Qe,.int .i64 Qf,.bool Qu],.slice A2 l2.length c2] w fun e w'=>e = .returned (.tuple #[.agg #[.int .i64 r1,.int .i64 r2,.int .i64 r3,.bool r4],.int .i64 r5,.int .i64 r6])∧Below w.heap.size w w':=by
 have hu23:=Try.underlying23
 have hu25:=Try.underlying25
 have HR2:=Aside0.mk hr2
 have HC2:=Aside0.mk hc2
 clear hr2 hc2
 have HB:=Aside0.mk (Below.refl w.heap.size w)
 have H : ((vespersref15_Correction.f k QB QC QD QE QF QG QH QI QJ QK Qo Qp Qq Qr Qs Qt l2).bind fun QS=>((vespersref15_may.f Qd Qe Qf Qu).bind fun Zd=>(if QS.2 = 150 then (vespersref15_Turn.j0 k QS.1 QS.2 true Qd Qe Qf Qu) else (vespersref15_Turn.j0 k QS.1 QS.2 (!Zd) Qd Qe Qf Qu)))) = some (r1,r2,r3,r4,r5,r6):=h
 clear h
 replace H:=Option.bind_eq_some_iff.mp H
 obtain ⟨⟨Qj,QW⟩,A40,H⟩:=H
 replace H : ((vespersref15_may.f Qd Qe Qf Qu).bind fun Zd=>(if QW = 150 then (vespersref15_Turn.j0 k Qj QW true Qd Qe Qf Qu) else (vespersref15_Turn.j0 k Qj QW (!Zd) Qd Qe Qf Qu))) = some (r1,r2,r3,r4,r5,r6):=H
 have A4:=Aside0.mk A40
 clear A40
 replace H:=Option.bind_eq_some_iff.mp H
 obtain ⟨Zd,A50,H⟩:=H
 replace H : (if QW = 150 then (vespersref15_Turn.j0 k Qj QW true Qd Qe Qf Qu) else (vespersref15_Turn.j0 k Qj QW (!Zd) Qd Qe Qf Qu)) = some (r1,r2,r3,r4,r5,r6):=H
 have A5:=Aside0.mk A50
 clear A50
 have HC6:=Aside0.mk H
 clear H
 go_enter Try.func10,Try.ntmps10
 go_upto_region 3 with (first|((with_reducible refine gate_dst (N:=3) rfl ?_);refine box_event ?hg (N:=3) ?hd (cs:=#[.int .i64 QB,.int .i64 QC,.int .i64 QD,.int .i64 QE,.int .i64 QF,.int .i64 QG,.int .i64 QH,.int .i64 QI,.int .i64 QJ,.int .i64 QK,.int .i64 Qo,.int .i64 Qp,.int .i64 Qq,.int .i64 Qr,.int .i64 Qs,.int .i64 Qt]) (t:=23) ?hr ?_;(case hd=>rfl);(case hg=>rfl);(case hr=>first|(go_simp;done)|(go_simp;rfl));intro Qv hg w7 hbox hb;have n0_:=Aside0.mk (below_step (by repeat (first|(with_reducible first|exact HB.out|apply below_alloc|apply pw_below_drewN|apply below_drew1)|exact HB.out)) hb);have n1_:=Aside0.mk (hbox);have n2_:=Aside0.mk ((by rw [hg];exact (below_size (by repeat (first|(with_reducible first|exact HB.out|apply below_alloc|apply pw_below_drewN|apply below_drew1)|exact HB.out))) : w.heap.size ≤ Qv));have n3_:=Aside0.mk ((by rw [hg];exact (below_size (by repeat (first|(with_reducible first|exact HB.out|apply below_alloc|apply pw_below_drewN|apply below_drew1)|exact HB.out))) : w.heap.size ≤ Qv));clear HB;have HB:=n0_;have Qh:=n1_;have GW195:=n2_;have Qw:=n3_;clear n0_ n1_ n2_ n3_;clear hb hbox hg)|((with_reducible refine gate_dst (N:=4) rfl ?_);refine box_event ?hg (N:=4) ?hd (cs:=#[.int .i64 Qd,.int .i64 Qe,.int .i64 Qf,.bool Qu]) (t:=25) ?hr ?_;(case hd=>rfl);(case hg=>rfl);(case hr=>first|(go_simp;done)|(go_simp;rfl));intro Qi hg w8 hbox hb;have n0_:=Aside0.mk (blk_below (g:=Qv) (o:=.cells #[.int .i64 QB,.int .i64 QC,.int .i64 QD,.int .i64 QE,.int .i64 QF,.int .i64 QG,.int .i64 QH,.int .i64 QI,.int .i64 QJ,.int .i64 QK,.int .i64 Qo,.int .i64 Qp,.int .i64 Qq,.int .i64 Qr,.int .i64 Qs,.int .i64 Qt] 23 (0,0)) (by (with_reducible repeat (first|refine blk_drewN ?_ _|refine blk_drew ?_|refine blk_alloc ?_ _));exact Qh.out) hb);have n1_:=Aside0.mk (below_step (by repeat (first|(with_reducible first|exact HB.out|apply below_alloc|apply pw_below_drewN|apply below_drew1|refine below_set ?_ Qw.out)|exact HB.out)) hb);have n2_:=Aside0.mk (hbox);have n3_:=Aside0.mk ((by rw [hg];exact (below_size (by repeat (first|(with_reducible first|exact HB.out|apply below_alloc|apply pw_below_drewN|apply below_drew1|refine below_set ?_ Qw.out)|exact HB.out))) : w.heap.size ≤ Qi));have n4_:=Aside0.mk ((by rw [hg];exact (below_size (by repeat (first|(with_reducible first|exact HB.out|apply below_alloc|apply pw_below_drewN|apply below_drew1|refine below_set ?_ Qw.out)|exact HB.out))) : w.heap.size ≤ Qi));have n5_:=Aside0.mk ((by rw [hg];exact Nat.ne_of_lt (blk_lt (g:=Qv) (o:=.cells #[.int .i64 QB,.int .i64 QC,.int .i64 QD,.int .i64 QE,.int .i64 QF,.int .i64 QG,.int .i64 QH,.int .i64 QI,.int .i64 QJ,.int .i64 QK,.int .i64 Qo,.int .i64 Qp,.int .i64 Qq,.int .i64 Qr,.int .i64 Qs,.int .i64 Qt] 23 (0,0)) (by (with_reducible repeat (first|refine blk_drewN ?_ _|refine blk_drew ?_|refine blk_alloc ?_ _));exact Qh.out)) : Qv ≠ Qi));have n6_:=Aside0.mk ((by rw [hg];exact Nat.ne_of_gt (blk_lt (g:=Qv) (o:=.cells #[.int .i64 QB,.int .i64 QC,.int .i64 QD,.int .i64 QE,.int .i64 QF,.int .i64 QG,.int .i64 QH,.int .i64 QI,.int .i64 QJ,.int .i64 QK,.int .i64 Qo,.int .i64 Qp,.int .i64 Qq,.int .i64 Qr,.int .i64 Qs,.int .i64 Qt] 23 (0,0)) (by (with_reducible repeat (first|refine blk_drewN ?_ _|refine blk_drew ?_|refine blk_alloc ?_ _));exact Qh.out)) : Qi ≠ Qv));clear Qh;clear HB;have Qh:=n0_;have HB:=n1_;have Qb:=n2_;have GW196:=n3_;have Qz:=n4_;have QN:=n5_;have QO:=n6_;clear n0_ n1_ n2_ n3_ n4_ n5_ n6_;clear hb hbox hg)|((with_reducible refine gate_dst (N:=6) rfl ?_);refine box_event ?hg (N:=6) ?hd (cs:=#[.int .i64 0,.int .i64 0,.int .i64 0,.bool false]) (t:=25) ?hr ?_;(case hd=>rfl);(case hg=>rfl);(case hr=>first|(go_simp;done)|(go_simp;rfl));intro Qg hg w9 hbox hb;have n0_:=Aside0.mk (blk_below (g:=Qv) (o:=.cells #[.int .i64 QB,.int .i64 QC,.int .i64 QD,.int .i64 QE,.int .i64 QF,.int .i64 QG,.int .i64 QH,.int .i64 QI,.int .i64 QJ,.int .i64 QK,.int .i64 Qo,.int .i64 Qp,.int .i64 Qq,.int .i64 Qr,.int .i64 Qs,.int .i64 Qt] 23 (0,0)) (by (with_reducible repeat (first|refine blk_drewN ?_ _|refine blk_drew ?_|refine blk_alloc ?_ _));exact Qh.out) hb);have n1_:=Aside0.mk (blk_below (g:=Qi) (o:=.cells #[.int .i64 Qd,.int .i64 Qe,.int .i64 Qf,.bool Qu] 25 (0,0)) (by (with_reducible repeat (first|refine blk_drewN ?_ _|refine blk_drew ?_|refine blk_alloc ?_ _));exact Qb.out) hb);have n2_:=Aside0.mk (below_step (by repeat (first|(with_reducible first|exact HB.out|apply below_alloc|apply pw_below_drewN|apply below_drew1|refine below_set ?_ Qw.out|refine below_set ?_ Qz.out)|exact HB.out)) hb);have n3_:=Aside0.mk (hbox);have n4_:=Aside0.mk ((by rw [hg];exact (below_size (by repeat (first|(with_reducible first|exact HB.out|apply below_alloc|apply pw_below_drewN|apply below_drew1|refine below_set ?_ Qw.out|refine below_set ?_ Qz.out)|exact HB.out))) : w.heap.size ≤ Qg));have n5_:=Aside0.mk ((by rw [hg];exact (below_size (by repeat (first|(with_reducible first|exact HB.out|apply below_alloc|apply pw_below_drewN|apply below_drew1|refine below_set ?_ Qw.out|refine below_set ?_ Qz.out)|exact HB.out))) : w.heap.size ≤ Qg));have n6_:=Aside0.mk ((by rw [hg];exact Nat.ne_of_lt (blk_lt (g:=Qv) (o:=.cells #[.int .i64 QB,.int .i64 QC,.int .i64 QD,.int .i64 QE,.int .i64 QF,.int .i64 QG,.int .i64 QH,.int .i64 QI,.int .i64 QJ,.int .i64 QK,.int .i64 Qo,.int .i64 Qp,.int .i64 Qq,.int .i64 Qr,.int .i64 Qs,.int .i64 Qt] 23 (0,0)) (by (with_reducible repeat (first|refine blk_drewN ?_ _|refine blk_drew ?_|refine blk_alloc ?_ _));exact Qh.out)) : Qv ≠ Qg));have n7_:=Aside0.mk ((by rw [hg];exact Nat.ne_of_gt (blk_lt (g:=Qv) (o:=.cells #[.int .i64 QB,.int .i64 QC,.int .i64 QD,.int .i64 QE,.int .i64 QF,.int .i64 QG,.int .i64 QH,.int .i64 QI,.int .i64 QJ,.int .i64 QK,.int .i64 Qo,.int .i64 Qp,.int .i64 Qq,.int .i64 Qr,.int .i64 Qs,.int .i64 Qt] 23 (0,0)) (by (with_reducible repeat (first|refine blk_drewN ?_ _|refine blk_drew ?_|refine blk_alloc ?_ _));exact Qh.out)) : Qg ≠ Qv));have n8_:=Aside0.mk ((by rw [hg];exact Nat.ne_of_lt (blk_lt (g:=Qi) (o:=.cells #[.int .i64 Qd,.int .i64 Qe,.int .i64 Qf,.bool Qu] 25 (0,0)) (by (with_reducible repeat (first|refine blk_drewN ?_ _|refine blk_drew ?_|refine blk_alloc ?_ _));exact Qb.out)) : Qi ≠ Qg));have n9_:=Aside0.mk ((by rw [hg];exact Nat.ne_of_gt (blk_lt (g:=Qi) (o:=.cells #[.int .i64 Qd,.int .i64 Qe,.int .i64 Qf,.bool Qu] 25 (0,0)) (by (with_reducible repeat (first|refine blk_drewN ?_ _|refine blk_drew ?_|refine blk_alloc ?_ _));exact Qb.out)) : Qg ≠ Qi));clear Qh;clear Qb;clear HB;have Qh:=n0_;have Qb:=n1_;have HB:=n2_;have Qa:=n3_;have GW197:=n4_;have QA:=n5_;have QL:=n6_;have QM:=n7_;have Qx:=n8_;have Qy:=n9_;clear n0_ n1_ n2_ n3_ n4_ n5_ n6_ n7_ n8_ n9_;clear hb hbox hg;have hnb10:=QN.out;have hnc10:=QO.out;have hnb11:=QL.out;have hnc11:=QM.out;obtain ⟨hcz12_0,hcz12_1,hcz12_2,hcz12_3,hcz12_4,hcz12_5,hcz12_6,hcz12_7,hcz12_8,hcz12_9,hcz12_10,hcz12_11,hcz12_12,hcz12_13,hcz12_14,hcz12_15⟩:=bc16_ (w:=w9) (g:=Qv) (.int .i64 QB) (.int .i64 QC) (.int .i64 QD) (.int .i64 QE) (.int .i64 QF) (.int .i64 QG) (.int .i64 QH) (.int .i64 QI) (.int .i64 QJ) (.int .i64 QK) (.int .i64 Qo) (.int .i64 Qp) (.int .i64 Qq) (.int .i64 Qr) (.int .i64 Qs) (.int .i64 Qt) Qh.out;obtain ⟨hfz12_0,hfz12_1,hfz12_2,hfz12_3,hfz12_4,hfz12_5,hfz12_6,hfz12_7,hfz12_8,hfz12_9,hfz12_10,hfz12_11,hfz12_12,hfz12_13,hfz12_14,hfz12_15⟩:=bf16_ Qh.out)|((with_reducible refine gate_callee (f:=8) rfl ?_);refine goesL_ (some 16) rfl rfl Try.func8 (by kernel_rfl) rfl #[.agg #[.int .i64 QB,.int .i64 QC,.int .i64 QD,.int .i64 QE,.int .i64 QF,.int .i64 QG,.int .i64 QH,.int .i64 QI,.int .i64 QJ,.int .i64 QK,.int .i64 Qo,.int .i64 Qp,.int .i64 Qq,.int .i64 Qr,.int .i64 Qs,.int .i64 Qt],.slice A2 l2.length c2] rfl (by (try simp only [List.map_toArray,List.map_cons,List.map_nil]);first|done|rfl|(simp only [List.length_drop,List.length_take];rfl)) ?_;(with_reducible refine (vespersref15_Correction.calls k QB QC QD QE QF QG QH QI QJ QK Qo Qp Qq Qr Qs Qt _ _ l2 Qj QW _ ?side1 ?side2 A4.out).mono ?_);(case side1=>repeat (first|exact (Kd.C_below HR2.out HB.out)|(with_reducible refine Kd.C_alloc ?_ _)|(with_reducible refine Kd.C_drewN ?_ _)|(with_reducible refine Kd.C_drew ?_)));(case side2=>exact HC2.out);rintro e w13 ⟨rfl,hb⟩;refine ⟨_,rfl,?_⟩;have n0_:=Aside0.mk (blk_below (g:=Qv) (o:=.cells #[.int .i64 QB,.int .i64 QC,.int .i64 QD,.int .i64 QE,.int .i64 QF,.int .i64 QG,.int .i64 QH,.int .i64 QI,.int .i64 QJ,.int .i64 QK,.int .i64 Qo,.int .i64 Qp,.int .i64 Qq,.int .i64 Qr,.int .i64 Qs,.int .i64 Qt] 23 (0,0)) (by (with_reducible repeat (first|refine blk_drewN ?_ _|refine blk_drew ?_|refine blk_alloc ?_ _));exact Qh.out) hb);have n1_:=Aside0.mk (blk_below (g:=Qi) (o:=.cells #[.int .i64 Qd,.int .i64 Qe,.int .i64 Qf,.bool Qu] 25 (0,0)) (by (with_reducible repeat (first|refine blk_drewN ?_ _|refine blk_drew ?_|refine blk_alloc ?_ _));exact Qb.out) hb);have n2_:=Aside0.mk (blk_below (g:=Qg) (o:=.cells #[.int .i64 0,.int .i64 0,.int .i64 0,.bool false] 25 (0,0)) (by (with_reducible repeat (first|refine blk_drewN ?_ _|refine blk_drew ?_|refine blk_alloc ?_ _));exact Qa.out) hb);have n3_:=Aside0.mk (below_step (by repeat (first|(with_reducible first|exact HB.out|apply below_alloc|apply pw_below_drewN|apply below_drew1|refine below_set ?_ Qw.out|refine below_set ?_ Qz.out|refine below_set ?_ QA.out)|exact HB.out)) hb);clear Qh;clear Qb;clear Qa;clear HB;have Qh:=n0_;have Qb:=n1_;have Qa:=n2_;have HB:=n3_;clear n0_ n1_ n2_ n3_;(try clear hb);(try clear hb2);(try clear hk);(try clear hi);have hnb14:=Qx.out;have hnc14:=Qy.out;have hcz15_0 : w13.cell? ⟨Qi,0,none⟩ = some (.int .i64 Qd):=(blk_cell Qb.out 0).trans rfl;have hcz15_1 : w13.cell? ⟨Qi,1,none⟩ = some (.int .i64 Qe):=(blk_cell Qb.out 1).trans rfl;have hcz15_2 : w13.cell? ⟨Qi,2,none⟩ = some (.int .i64 Qf):=(blk_cell Qb.out 2).trans rfl;have hcz15_3 : w13.cell? ⟨Qi,3,none⟩ = some (.bool Qu):=(blk_cell Qb.out 3).trans rfl;have hfz15_0:=blk_frozen Qb.out 0;have hfz15_1:=blk_frozen Qb.out 1;have hfz15_2:=blk_frozen Qb.out 2;have hfz15_3:=blk_frozen Qb.out 3)|((with_reducible refine gate_callee (f:=23) rfl ?_);refine goesL_ (some 20) rfl rfl Try.func23 (by kernel_rfl) rfl #[.agg #[.int .i64 Qd,.int .i64 Qe,.int .i64 Qf,.bool Qu]] rfl (by (try simp only [List.map_toArray,List.map_cons,List.map_nil]);first|done|rfl|(simp only [List.length_drop,List.length_take];rfl)) ?_;(with_reducible refine (vespersref15_may.calls Qd Qe Qf Qu Zd _ A5.out).mono ?_);rintro e w16 ⟨rfl,hb⟩;refine ⟨_,rfl,?_⟩;have n0_:=Aside0.mk (blk_below (g:=Qv) (o:=.cells #[.int .i64 QB,.int .i64 QC,.int .i64 QD,.int .i64 QE,.int .i64 QF,.int .i64 QG,.int .i64 QH,.int .i64 QI,.int .i64 QJ,.int .i64 QK,.int .i64 Qo,.int .i64 Qp,.int .i64 Qq,.int .i64 Qr,.int .i64 Qs,.int .i64 Qt] 23 (0,0)) (by (with_reducible repeat (first|refine blk_drewN ?_ _|refine blk_drew ?_|refine blk_alloc ?_ _));exact Qh.out) hb);have n1_:=Aside0.mk (blk_below (g:=Qi) (o:=.cells #[.int .i64 Qd,.int .i64 Qe,.int .i64 Qf,.bool Qu] 25 (0,0)) (by (with_reducible repeat (first|refine blk_drewN ?_ _|refine blk_drew ?_|refine blk_alloc ?_ _));exact Qb.out) hb);have n2_:=Aside0.mk (blk_below (g:=Qg) (o:=.cells #[.int .i64 0,.int .i64 0,.int .i64 0,.bool false] 25 (0,0)) (by (with_reducible repeat (first|refine blk_drewN ?_ _|refine blk_drew ?_|refine blk_alloc ?_ _));exact Qa.out) hb);have n3_:=Aside0.mk (below_step (by repeat (first|(with_reducible first|exact HB.out|apply below_alloc|apply pw_below_drewN|apply below_drew1|refine below_set ?_ Qw.out|refine below_set ?_ Qz.out|refine below_set ?_ QA.out)|exact HB.out)) hb);clear Qh;clear Qb;clear Qa;clear HB;have Qh:=n0_;have Qb:=n1_;have Qa:=n2_;have HB:=n3_;clear n0_ n1_ n2_ n3_;(try clear hb);(try clear hb2);(try clear hk);(try clear hi)))
 (try simp only [Act.put,List.setIfInBounds_toArray,List.set_cons_zero,List.set_cons_succ])
 go_cut [26] (fun v26 wc=>∃ (kq : Nat) (x26_5 : Bool),v26 = .bool x26_5∧Aside0 (vespersref15_Turn.j0 kq Qj QW x26_5 Qd Qe Qf Qu = some (r1,r2,r3,r4,r5,r6))∧Aside0 (kq ≤ k)∧Aside0 (wc.heap[Qv]? = some (.cells #[.int .i64 QB,.int .i64 QC,.int .i64 QD,.int .i64 QE,.int .i64 QF,.int .i64 QG,.int .i64 QH,.int .i64 QI,.int .i64 QJ,.int .i64 QK,.int .i64 Qo,.int .i64 Qp,.int .i64 Qq,.int .i64 Qr,.int .i64 Qs,.int .i64 Qt] 23 (0,0)))∧Aside0 (wc.heap[Qi]? = some (.cells #[.int .i64 Qd,.int .i64 Qe,.int .i64 Qf,.bool Qu] 25 (0,0)))∧Aside0 (wc.heap[Qg]? = some (.cells #[.int .i64 0,.int .i64 0,.int .i64 0,.bool false] 25 (0,0)))∧Aside0 (Below w.heap.size w wc))
 case first =>
  have H:=HC6.out
  clear HC6
  by_cases c17 : QW = 150
  ·rw [if_pos c17] at H
   have c17b0 : (QW == 150) = true:=beq_iff_eq.mpr c17
   have c17b1 : (QW != 150) = false:=bne_eq_false_iff_eq.mpr c17
   clear c17
   (first|rw [c17b0]|(simp only [i64_w,i32_w];rw [c17b0])|skip)
   have H':=Aside0.mk H
   clear H
   go_wp2
   go_meet
   case rel=>exact ⟨_,(true),(by first|rfl|(simp;done)|(simp [*];done)),H',⟨by first|omega|exact Nat.le_refl _⟩,⟨by (with_reducible repeat (first|refine blk_drewN ?_ _|refine blk_drew ?_|refine blk_alloc ?_ _));exact Qh.out⟩,⟨by (with_reducible repeat (first|refine blk_drewN ?_ _|refine blk_drew ?_|refine blk_alloc ?_ _));exact Qb.out⟩,⟨by (with_reducible repeat (first|refine blk_drewN ?_ _|refine blk_drew ?_|refine blk_alloc ?_ _));exact Qa.out⟩,⟨by repeat (first|(with_reducible first|exact HB.out|apply below_alloc|apply pw_below_drewN|apply below_drew1|refine below_set ?_ Qw.out|refine below_set ?_ Qz.out|refine below_set ?_ QA.out)|exact HB.out)⟩⟩
  ·rw [if_neg c17] at H
   have c17b0 : (QW == 150) = false:=beq_eq_false_iff_ne.mpr c17
   have c17b1 : (QW != 150) = true:=bne_iff_ne.mpr c17
   (first|rw [c17b0]|(simp only [i64_w,i32_w];rw [c17b0])|skip)
   have H':=Aside0.mk H
   clear H
   go_wp2
   go_meet
   case rel=>exact ⟨_,(!Zd),(by first|rfl|(simp;done)|(simp [*];done)),H',⟨by first|omega|exact Nat.le_refl _⟩,⟨by (with_reducible repeat (first|refine blk_drewN ?_ _|refine blk_drew ?_|refine blk_alloc ?_ _));exact Qh.out⟩,⟨by (with_reducible repeat (first|refine blk_drewN ?_ _|refine blk_drew ?_|refine blk_alloc ?_ _));exact Qb.out⟩,⟨by (with_reducible repeat (first|refine blk_drewN ?_ _|refine blk_drew ?_|refine blk_alloc ?_ _));exact Qa.out⟩,⟨by repeat (first|(with_reducible first|exact HB.out|apply below_alloc|apply pw_below_drewN|apply below_drew1|refine below_set ?_ Qw.out|refine below_set ?_ Qz.out|refine below_set ?_ QA.out)|exact HB.out)⟩⟩
 case rest =>
  clear HC6
  try clear c1
  try clear c2
  try clear p2
  try clear c8
  try clear c10
  try clear c11
  try clear c14
  try clear c17
  try clear c17b0
  try clear c17b1
  try clear hcz12_0
  try clear hcz12_1
  try clear hcz12_10
  try clear hcz12_11
  try clear hcz12_12
  try clear hcz12_13
  try clear hcz12_14
  try clear hcz12_15
  try clear hcz12_2
  try clear hcz12_3
  try clear hcz12_4
  try clear hcz12_5
  try clear hcz12_6
  try clear hcz12_7
  try clear hcz12_8
  try clear hcz12_9
  try clear hcz15_0
  try clear hcz15_1
  try clear hcz15_2
  try clear hcz15_3
  try clear hfz12_0
  try clear hfz12_1
  try clear hfz12_10
  try clear hfz12_11
  try clear hfz12_12
  try clear hfz12_13
  try clear hfz12_14
  try clear hfz12_15
  try clear hfz12_2
  try clear hfz12_3
  try clear hfz12_4
  try clear hfz12_5
  try clear hfz12_6
  try clear hfz12_7
  try clear hfz12_8
  try clear hfz12_9
  try clear hfz15_0
  try clear hfz15_1
  try clear hfz15_2
  try clear hfz15_3
  obtain ⟨kq,x26_5,rfl,HA,HJ5,Qh,Qb,Qa,HB⟩:=hcut
  cases kq with
  | zero=>exact absurd HA.out (by simp [vespersref15_Turn.j0])
  | succ kj5 =>
   have H:=HA.out
   clear HA
   simp only [vespersref15_Turn.j0] at H
   by_cases c18 : x26_5 = true
   ·subst c18
    have H1 : (some (0,0,0,false,0,150)) = some (r1,r2,r3,r4,r5,r6):=by rw [if_pos rfl] at H;exact H
    clear H
    have H:=H1
    clear H1
    simp only [Option.some.injEq,Prod.mk.injEq] at H
    obtain ⟨rfl,rfl,rfl,rfl,rfl,rfl⟩:=H
    have hnb19:=QM.out
    have hnc19:=QL.out
    have hnb20:=Qy.out
    have hnc20:=Qx.out
    have hcz21_0 : wc.cell? ⟨Qg,0,none⟩ = some (.int .i64 0):=(blk_cell Qa.out 0).trans rfl
    have hcz21_1 : wc.cell? ⟨Qg,1,none⟩ = some (.int .i64 0):=(blk_cell Qa.out 1).trans rfl
    have hcz21_2 : wc.cell? ⟨Qg,2,none⟩ = some (.int .i64 0):=(blk_cell Qa.out 2).trans rfl
    have hcz21_3 : wc.cell? ⟨Qg,3,none⟩ = some (.bool false):=(blk_cell Qa.out 3).trans rfl
    have hfz21_0:=blk_frozen Qa.out 0
    have hfz21_1:=blk_frozen Qa.out 1
    have hfz21_2:=blk_frozen Qa.out 2
    have hfz21_3:=blk_frozen Qa.out 3
    go_wp2
    refine bodyPost_ret (results_ctt rfl _ _ Qg 25 #[.int .i64 0,.int .i64 0,.int .i64 0,.bool false] (0,0) _ rfl (by (with_reducible repeat (first|refine blk_drewN ?_ _|refine blk_drew ?_|refine blk_alloc ?_ _));refine blk_put (cs:=#[.int .i64 0,.int .i64 0,.int .i64 0,.bool false]) ?_ 3 _ rfl;(with_reducible repeat (first|refine blk_drewN ?_ _|refine blk_drew ?_|refine blk_alloc ?_ _));refine blk_put (cs:=#[.int .i64 0,.int .i64 0,.int .i64 0,.bool false]) ?_ 2 _ rfl;(with_reducible repeat (first|refine blk_drewN ?_ _|refine blk_drew ?_|refine blk_alloc ?_ _));refine blk_put (cs:=#[.int .i64 0,.int .i64 0,.int .i64 0,.bool false]) ?_ 1 _ rfl;(with_reducible repeat (first|refine blk_drewN ?_ _|refine blk_drew ?_|refine blk_alloc ?_ _));refine blk_put (cs:=#[.int .i64 0,.int .i64 0,.int .i64 0,.bool false]) ?_ 0 _ rfl;(with_reducible repeat (first|refine blk_drewN ?_ _|refine blk_drew ?_|refine blk_alloc ?_ _));exact Qa.out) Try.underlying25 rfl (by kernel_rfl)) rfl ?_
    exact ⟨by first|rfl|(simp [errW_none,errW_some] <;> rfl)|(simp [*,errW_none,errW_some] <;> rfl),by repeat (first|(with_reducible first|exact HB.out|apply below_alloc|apply pw_below_drewN|apply below_drew1|refine below_set ?_ Qw.out|refine below_set ?_ Qz.out|refine below_set ?_ QA.out)|exact HB.out)⟩
   ·replace c18:=Bool.eq_false_iff.mpr c18
    subst c18
    have H1 : (if Qu = true then (vespersref15_Turn.j1 kj5 Qj true Qd Qe Qf Qu) else (vespersref15_Turn.j1 kj5 Qj (QW == 151) Qd Qe Qf Qu)) = some (r1,r2,r3,r4,r5,r6):=by rw [if_neg (show ¬ (false = true) by decide)] at H;exact H
    clear H
    have H:=H1
    clear H1
    have HC22:=Aside0.mk H
    clear H
    go_upto_region 5 with (fail)
    go_cut [33] (fun v33 wc=>∃ (kq : Nat) (Ze : Bool),v33 = .bool Ze∧Aside0 (vespersref15_Turn.j1 kq Qj Ze Qd Qe Qf Qu = some (r1,r2,r3,r4,r5,r6))∧Aside0 (kq ≤ kj5)∧Aside0 (wc.heap[Qv]? = some (.cells #[.int .i64 QB,.int .i64 QC,.int .i64 QD,.int .i64 QE,.int .i64 QF,.int .i64 QG,.int .i64 QH,.int .i64 QI,.int .i64 QJ,.int .i64 QK,.int .i64 Qo,.int .i64 Qp,.int .i64 Qq,.int .i64 Qr,.int .i64 Qs,.int .i64 Qt] 23 (0,0)))∧Aside0 (wc.heap[Qi]? = some (.cells #[.int .i64 Qd,.int .i64 Qe,.int .i64 Qf,.bool Qu] 25 (0,0)))∧Aside0 (wc.heap[Qg]? = some (.cells #[.int .i64 0,.int .i64 0,.int .i64 0,.bool false] 25 (0,0)))∧Aside0 (Below w.heap.size w wc))
    case first =>
     have H:=HC22.out
     clear HC22
     by_cases c23 : Qu = true
     ·subst c23
      have H1 : (vespersref15_Turn.j1 kj5 Qj true Qd Qe Qf true) = some (r1,r2,r3,r4,r5,r6):=by rw [if_pos rfl] at H;exact H
      clear H
      have H:=H1
      clear H1
      have H':=Aside0.mk H
      clear H
      have hnb24:=QO.out
      have hnc24:=QN.out
      have hnb25:=Qx.out
      have hnc25:=Qy.out
      have hcz26_0 : wc.cell? ⟨Qi,0,none⟩ = some (.int .i64 Qd):=(blk_cell Qb.out 0).trans rfl
      have hcz26_1 : wc.cell? ⟨Qi,1,none⟩ = some (.int .i64 Qe):=(blk_cell Qb.out 1).trans rfl
      have hcz26_2 : wc.cell? ⟨Qi,2,none⟩ = some (.int .i64 Qf):=(blk_cell Qb.out 2).trans rfl
      have hcz26_3 : wc.cell? ⟨Qi,3,none⟩ = some (.bool true):=(blk_cell Qb.out 3).trans rfl
      have hfz26_0:=blk_frozen Qb.out 0
      have hfz26_1:=blk_frozen Qb.out 1
      have hfz26_2:=blk_frozen Qb.out 2
      have hfz26_3:=blk_frozen Qb.out 3
      go_wp2
      go_meet
      case rel=>exact ⟨_,(true),(by first|rfl|(simp;done)|(simp [*];done)),H',⟨by have:=HJ5.out;first|omega|exact Nat.le_refl _⟩,⟨by (with_reducible repeat (first|refine blk_drewN ?_ _|refine blk_drew ?_|refine blk_alloc ?_ _));exact Qh.out⟩,⟨by (with_reducible repeat (first|refine blk_drewN ?_ _|refine blk_drew ?_|refine blk_alloc ?_ _));exact Qb.out⟩,⟨by (with_reducible repeat (first|refine blk_drewN ?_ _|refine blk_drew ?_|refine blk_alloc ?_ _));exact Qa.out⟩,⟨by repeat (first|(with_reducible first|exact HB.out|apply below_alloc|apply pw_below_drewN|apply below_drew1|refine below_set ?_ Qw.out|refine below_set ?_ Qz.out|refine below_set ?_ QA.out)|exact HB.out)⟩⟩
     ·replace c23:=Bool.eq_false_iff.mpr c23
      subst c23
      have H1 : (vespersref15_Turn.j1 kj5 Qj (QW == 151) Qd Qe Qf false) = some (r1,r2,r3,r4,r5,r6):=by rw [if_neg (show ¬ (false = true) by decide)] at H;exact H
      clear H
      have H:=H1
      clear H1
      have H':=Aside0.mk H
      clear H
      have hnb27:=QO.out
      have hnc27:=QN.out
      have hnb28:=Qx.out
      have hnc28:=Qy.out
      have hcz29_0 : wc.cell? ⟨Qi,0,none⟩ = some (.int .i64 Qd):=(blk_cell Qb.out 0).trans rfl
      have hcz29_1 : wc.cell? ⟨Qi,1,none⟩ = some (.int .i64 Qe):=(blk_cell Qb.out 1).trans rfl
      have hcz29_2 : wc.cell? ⟨Qi,2,none⟩ = some (.int .i64 Qf):=(blk_cell Qb.out 2).trans rfl
      have hcz29_3 : wc.cell? ⟨Qi,3,none⟩ = some (.bool false):=(blk_cell Qb.out 3).trans rfl
      have hfz29_0:=blk_frozen Qb.out 0
      have hfz29_1:=blk_frozen Qb.out 1
      have hfz29_2:=blk_frozen Qb.out 2
      have hfz29_3:=blk_frozen Qb.out 3
      go_wp2
      go_meet
      case rel=>exact ⟨_,((QW == 151)),(by first|rfl|(simp;done)|(simp [*];done)),H',⟨by have:=HJ5.out;first|omega|exact Nat.le_refl _⟩,⟨by (with_reducible repeat (first|refine blk_drewN ?_ _|refine blk_drew ?_|refine blk_alloc ?_ _));exact Qh.out⟩,⟨by (with_reducible repeat (first|refine blk_drewN ?_ _|refine blk_drew ?_|refine blk_alloc ?_ _));exact Qb.out⟩,⟨by (with_reducible repeat (first|refine blk_drewN ?_ _|refine blk_drew ?_|refine blk_alloc ?_ _));exact Qa.out⟩,⟨by repeat (first|(with_reducible first|exact HB.out|apply below_alloc|apply pw_below_drewN|apply below_drew1|refine below_set ?_ Qw.out|refine below_set ?_ Qz.out|refine below_set ?_ QA.out)|exact HB.out)⟩⟩
    case rest =>
     clear HC22
     try clear c1
     try clear c2
     try clear p2
     try clear c8
     try clear c10
     try clear c11
     try clear c14
     try clear c17
     try clear c17b0
     try clear c17b1
     try clear c18
     try clear c19
     try clear c20
     try clear c23
     try clear c24
     try clear c25
     try clear c27
     try clear c28
     try clear hcz12_0
     try clear hcz12_1
     try clear hcz12_10
     try clear hcz12_11
     try clear hcz12_12
     try clear hcz12_13
     try clear hcz12_14
     try clear hcz12_15
     try clear hcz12_2
     try clear hcz12_3
     try clear hcz12_4
     try clear hcz12_5
     try clear hcz12_6
     try clear hcz12_7
     try clear hcz12_8
     try clear hcz12_9
     try clear hcz15_0
     try clear hcz15_1
     try clear hcz15_2
     try clear hcz15_3
     try clear hcz21_0
     try clear hcz21_1
     try clear hcz21_2
     try clear hcz21_3
     try clear hcz26_0
     try clear hcz26_1
     try clear hcz26_2
     try clear hcz26_3
     try clear hcz29_0
     try clear hcz29_1
     try clear hcz29_2
     try clear hcz29_3
     try clear hfz12_0
     try clear hfz12_1
     try clear hfz12_10
     try clear hfz12_11
     try clear hfz12_12
     try clear hfz12_13
     try clear hfz12_14
     try clear hfz12_15
     try clear hfz12_2
     try clear hfz12_3
     try clear hfz12_4
     try clear hfz12_5
     try clear hfz12_6
     try clear hfz12_7
     try clear hfz12_8
     try clear hfz12_9
     try clear hfz15_0
     try clear hfz15_1
     try clear hfz15_2
     try clear hfz15_3
     try clear hfz21_0
     try clear hfz21_1
     try clear hfz21_2
     try clear hfz21_3
     try clear hfz26_0
     try clear hfz26_1
     try clear hfz26_2
     try clear hfz26_3
     try clear hfz29_0
     try clear hfz29_1
     try clear hfz29_2
     try clear hfz29_3
     try clear p2
     obtain ⟨kq,Ze,rfl,HA,HJ21,Qh,Qb,Qa,HB⟩:=hcut
     cases kq with
     | zero=>exact absurd HA.out (by simp [vespersref15_Turn.j1])
     | succ kj21 =>
      have H:=HA.out
      clear HA
      simp only [vespersref15_Turn.j1] at H
      by_cases c30 : Ze = true
      ·subst c30
       have H1 : (some (Qd,Qe,Qf,true,0,151)) = some (r1,r2,r3,r4,r5,r6):=by rw [if_pos rfl] at H;exact H
       clear H
       have H:=H1
       clear H1
       simp only [Option.some.injEq,Prod.mk.injEq] at H
       obtain ⟨rfl,rfl,rfl,rfl,rfl,rfl⟩:=H
       have hnb31:=QO.out
       have hnc31:=QN.out
       have hnb32:=Qx.out
       have hnc32:=Qy.out
       have hcz33_0 : wc.cell? ⟨Qi,0,none⟩ = some (.int .i64 Qd):=(blk_cell Qb.out 0).trans rfl
       have hcz33_1 : wc.cell? ⟨Qi,1,none⟩ = some (.int .i64 Qe):=(blk_cell Qb.out 1).trans rfl
       have hcz33_2 : wc.cell? ⟨Qi,2,none⟩ = some (.int .i64 Qf):=(blk_cell Qb.out 2).trans rfl
       have hcz33_3 : wc.cell? ⟨Qi,3,none⟩ = some (.bool Qu):=(blk_cell Qb.out 3).trans rfl
       have hfz33_0:=blk_frozen Qb.out 0
       have hfz33_1:=blk_frozen Qb.out 1
       have hfz33_2:=blk_frozen Qb.out 2
       have hfz33_3:=blk_frozen Qb.out 3
       have hnb34:=QM.out
       have hnc34:=QL.out
       have hcz35_0 : wc.cell? ⟨Qg,0,none⟩ = some (.int .i64 0):=(blk_cell Qa.out 0).trans rfl
       have hcz35_1 : wc.cell? ⟨Qg,1,none⟩ = some (.int .i64 0):=(blk_cell Qa.out 1).trans rfl
       have hcz35_2 : wc.cell? ⟨Qg,2,none⟩ = some (.int .i64 0):=(blk_cell Qa.out 2).trans rfl
       have hcz35_3 : wc.cell? ⟨Qg,3,none⟩ = some (.bool false):=(blk_cell Qa.out 3).trans rfl
       have hfz35_0:=blk_frozen Qa.out 0
       have hfz35_1:=blk_frozen Qa.out 1
       have hfz35_2:=blk_frozen Qa.out 2
       have hfz35_3:=blk_frozen Qa.out 3
       go_wp2
       refine bodyPost_ret (results_ctt rfl _ _ Qg 25 #[.int .i64 Qd,.int .i64 Qe,.int .i64 Qf,.bool true] (0,0) _ rfl (by (with_reducible repeat (first|refine blk_drewN ?_ _|refine blk_drew ?_|refine blk_alloc ?_ _));refine blk_put (cs:=#[.int .i64 Qd,.int .i64 Qe,.int .i64 Qf,.bool false]) ?_ 3 _ rfl;(with_reducible repeat (first|refine blk_drewN ?_ _|refine blk_drew ?_|refine blk_alloc ?_ _));refine blk_put (cs:=#[.int .i64 Qd,.int .i64 Qe,.int .i64 0,.bool false]) ?_ 2 _ rfl;(with_reducible repeat (first|refine blk_drewN ?_ _|refine blk_drew ?_|refine blk_alloc ?_ _));refine blk_put (cs:=#[.int .i64 Qd,.int .i64 0,.int .i64 0,.bool false]) ?_ 1 _ rfl;(with_reducible repeat (first|refine blk_drewN ?_ _|refine blk_drew ?_|refine blk_alloc ?_ _));refine blk_put (cs:=#[.int .i64 0,.int .i64 0,.int .i64 0,.bool false]) ?_ 0 _ rfl;(with_reducible repeat (first|refine blk_drewN ?_ _|refine blk_drew ?_|refine blk_alloc ?_ _));exact Qa.out) Try.underlying25 rfl (by kernel_rfl)) rfl ?_
       exact ⟨by first|rfl|(simp [errW_none,errW_some] <;> rfl)|(simp [*,errW_none,errW_some] <;> rfl),by repeat (first|(with_reducible first|exact HB.out|apply below_alloc|apply pw_below_drewN|apply below_drew1|refine below_set ?_ Qw.out|refine below_set ?_ Qz.out|refine below_set ?_ QA.out)|exact HB.out)⟩
      ·replace c30:=Bool.eq_false_iff.mpr c30
       subst c30
       have H1 : (if Qj > 0 then (vespersref15_Turn.j2 kj21 Qj true (wrap64 (Qd + 1)) Qe (wrap64 (Qf + Qj)) false) else (vespersref15_Turn.j2 kj21 Qj (decide (Qj < 0)) (wrap64 (Qd + 1)) Qe (wrap64 (Qf + Qj)) false)) = some (r1,r2,r3,r4,r5,r6):=by rw [if_neg (show ¬ (false = true) by decide)] at H;exact H
       clear H
       have H:=H1
       clear H1
       have HC36:=Aside0.mk H
       clear H
       have hnb37:=QO.out
       have hnc37:=QN.out
       have hnb38:=Qx.out
       have hnc38:=Qy.out
       have hcz39_0 : wc.cell? ⟨Qi,0,none⟩ = some (.int .i64 Qd):=(blk_cell Qb.out 0).trans rfl
       have hcz39_1 : wc.cell? ⟨Qi,1,none⟩ = some (.int .i64 Qe):=(blk_cell Qb.out 1).trans rfl
       have hcz39_2 : wc.cell? ⟨Qi,2,none⟩ = some (.int .i64 Qf):=(blk_cell Qb.out 2).trans rfl
       have hcz39_3 : wc.cell? ⟨Qi,3,none⟩ = some (.bool Qu):=(blk_cell Qb.out 3).trans rfl
       have hfz39_0:=blk_frozen Qb.out 0
       have hfz39_1:=blk_frozen Qb.out 1
       have hfz39_2:=blk_frozen Qb.out 2
       have hfz39_3:=blk_frozen Qb.out 3
       go_upto_region 8 with (first|((with_reducible refine gate_dst (N:=12) rfl ?_);refine box_event ?hg (N:=12) ?hd (cs:=#[.int .i64 0,.int .i64 0,.int .i64 0,.bool false]) (t:=25) ?hr ?_;(case hd=>rfl);(case hg=>rfl);(case hr=>first|(go_simp;done)|(go_simp;rfl));intro Qk hg w40 hbox hb;have n0_:=Aside0.mk (blk_below (g:=Qv) (o:=.cells #[.int .i64 QB,.int .i64 QC,.int .i64 QD,.int .i64 QE,.int .i64 QF,.int .i64 QG,.int .i64 QH,.int .i64 QI,.int .i64 QJ,.int .i64 QK,.int .i64 Qo,.int .i64 Qp,.int .i64 Qq,.int .i64 Qr,.int .i64 Qs,.int .i64 Qt] 23 (0,0)) (by (with_reducible repeat (first|refine blk_drewN ?_ _|refine blk_drew ?_|refine blk_alloc ?_ _));exact Qh.out) hb);have n1_:=Aside0.mk (blk_below (g:=Qi) (o:=.cells #[.int .i64 Qd,.int .i64 Qe,.int .i64 Qf,.bool Qu] 25 (0,0)) (by (with_reducible repeat (first|refine blk_drewN ?_ _|refine blk_drew ?_|refine blk_alloc ?_ _));exact Qb.out) hb);have n2_:=Aside0.mk (blk_below (g:=Qg) (o:=.cells #[.int .i64 0,.int .i64 0,.int .i64 0,.bool false] 25 (0,0)) (by (with_reducible repeat (first|refine blk_drewN ?_ _|refine blk_drew ?_|refine blk_alloc ?_ _));exact Qa.out) hb);have n3_:=Aside0.mk (below_step (by repeat (first|(with_reducible first|exact HB.out|apply below_alloc|apply pw_below_drewN|apply below_drew1|refine below_set ?_ Qw.out|refine below_set ?_ Qz.out|refine below_set ?_ QA.out)|exact HB.out)) hb);have n4_:=Aside0.mk (hbox);have n5_:=Aside0.mk ((by rw [hg];exact (below_size (by repeat (first|(with_reducible first|exact HB.out|apply below_alloc|apply pw_below_drewN|apply below_drew1|refine below_set ?_ Qw.out|refine below_set ?_ Qz.out|refine below_set ?_ QA.out)|exact HB.out))) : w.heap.size ≤ Qk));have n6_:=Aside0.mk ((by rw [hg];exact (below_size (by repeat (first|(with_reducible first|exact HB.out|apply below_alloc|apply pw_below_drewN|apply below_drew1|refine below_set ?_ Qw.out|refine below_set ?_ Qz.out|refine below_set ?_ QA.out)|exact HB.out))) : w.heap.size ≤ Qk));have n7_:=Aside0.mk ((by rw [hg];exact Nat.ne_of_lt (blk_lt (g:=Qv) (o:=.cells #[.int .i64 QB,.int .i64 QC,.int .i64 QD,.int .i64 QE,.int .i64 QF,.int .i64 QG,.int .i64 QH,.int .i64 QI,.int .i64 QJ,.int .i64 QK,.int .i64 Qo,.int .i64 Qp,.int .i64 Qq,.int .i64 Qr,.int .i64 Qs,.int .i64 Qt] 23 (0,0)) (by (with_reducible repeat (first|refine blk_drewN ?_ _|refine blk_drew ?_|refine blk_alloc ?_ _));exact Qh.out)) : Qv ≠ Qk));have n8_:=Aside0.mk ((by rw [hg];exact Nat.ne_of_gt (blk_lt (g:=Qv) (o:=.cells #[.int .i64 QB,.int .i64 QC,.int .i64 QD,.int .i64 QE,.int .i64 QF,.int .i64 QG,.int .i64 QH,.int .i64 QI,.int .i64 QJ,.int .i64 QK,.int .i64 Qo,.int .i64 Qp,.int .i64 Qq,.int .i64 Qr,.int .i64 Qs,.int .i64 Qt] 23 (0,0)) (by (with_reducible repeat (first|refine blk_drewN ?_ _|refine blk_drew ?_|refine blk_alloc ?_ _));exact Qh.out)) : Qk ≠ Qv));have n9_:=Aside0.mk ((by rw [hg];exact Nat.ne_of_lt (blk_lt (g:=Qi) (o:=.cells #[.int .i64 Qd,.int .i64 Qe,.int .i64 Qf,.bool Qu] 25 (0,0)) (by (with_reducible repeat (first|refine blk_drewN ?_ _|refine blk_drew ?_|refine blk_alloc ?_ _));exact Qb.out)) : Qi ≠ Qk));have n10_:=Aside0.mk ((by rw [hg];exact Nat.ne_of_gt (blk_lt (g:=Qi) (o:=.cells #[.int .i64 Qd,.int .i64 Qe,.int .i64 Qf,.bool Qu] 25 (0,0)) (by (with_reducible repeat (first|refine blk_drewN ?_ _|refine blk_drew ?_|refine blk_alloc ?_ _));exact Qb.out)) : Qk ≠ Qi));have n11_:=Aside0.mk ((by rw [hg];exact Nat.ne_of_lt (blk_lt (g:=Qg) (o:=.cells #[.int .i64 0,.int .i64 0,.int .i64 0,.bool false] 25 (0,0)) (by (with_reducible repeat (first|refine blk_drewN ?_ _|refine blk_drew ?_|refine blk_alloc ?_ _));exact Qa.out)) : Qg ≠ Qk));have n12_:=Aside0.mk ((by rw [hg];exact Nat.ne_of_gt (blk_lt (g:=Qg) (o:=.cells #[.int .i64 0,.int .i64 0,.int .i64 0,.bool false] 25 (0,0)) (by (with_reducible repeat (first|refine blk_drewN ?_ _|refine blk_drew ?_|refine blk_alloc ?_ _));exact Qa.out)) : Qk ≠ Qg));clear Qh;clear Qb;clear Qa;clear HB;have Qh:=n0_;have Qb:=n1_;have Qa:=n2_;have HB:=n3_;have Qc:=n4_;have GW201:=n5_;have QX:=n6_;have Ql:=n7_;have QP:=n8_;have Qm:=n9_;have QQ:=n10_;have Qn:=n11_;have QR:=n12_;clear n0_ n1_ n2_ n3_ n4_ n5_ n6_ n7_ n8_ n9_ n10_ n11_ n12_;clear hb hbox hg;have hnb41:=QP.out;have hnc41:=Ql.out;have hnb42:=QQ.out;have hnc42:=Qm.out;have hnb43:=QR.out;have hnc43:=Qn.out;have hcz44_0 : w40.cell? ⟨Qk,0,none⟩ = some (.int .i64 0):=(blk_cell Qc.out 0).trans rfl;have hcz44_1 : w40.cell? ⟨Qk,1,none⟩ = some (.int .i64 0):=(blk_cell Qc.out 1).trans rfl;have hcz44_2 : w40.cell? ⟨Qk,2,none⟩ = some (.int .i64 0):=(blk_cell Qc.out 2).trans rfl;have hcz44_3 : w40.cell? ⟨Qk,3,none⟩ = some (.bool false):=(blk_cell Qc.out 3).trans rfl;have hfz44_0:=blk_frozen Qc.out 0;have hfz44_1:=blk_frozen Qc.out 1;have hfz44_2:=blk_frozen Qc.out 2;have hfz44_3:=blk_frozen Qc.out 3))
       (try simp only [Act.put,List.setIfInBounds_toArray,List.set_cons_zero,List.set_cons_succ])
       go_cut [56] (fun v56 wc=>∃ (kq : Nat) (Zf : Bool),v56 = .bool Zf∧Aside0 (vespersref15_Turn.j2 kq Qj Zf (wrap64 (Qd + 1)) Qe (wrap64 (Qf + Qj)) false = some (r1,r2,r3,r4,r5,r6))∧Aside0 (kq ≤ kj21)∧Aside0 (wc.heap[Qv]? = some (.cells #[.int .i64 QB,.int .i64 QC,.int .i64 QD,.int .i64 QE,.int .i64 QF,.int .i64 QG,.int .i64 QH,.int .i64 QI,.int .i64 QJ,.int .i64 QK,.int .i64 Qo,.int .i64 Qp,.int .i64 Qq,.int .i64 Qr,.int .i64 Qs,.int .i64 Qt] 23 (0,0)))∧Aside0 (wc.heap[Qi]? = some (.cells #[.int .i64 Qd,.int .i64 Qe,.int .i64 Qf,.bool Qu] 25 (0,0)))∧Aside0 (wc.heap[Qg]? = some (.cells #[.int .i64 0,.int .i64 0,.int .i64 0,.bool false] 25 (0,0)))∧Aside0 (wc.heap[Qk]? = some (.cells #[.int .i64 (wrap64 (Qd + 1)),.int .i64 Qe,.int .i64 (wrap64 (Qf + Qj)),.bool false] 25 (0,0)))∧Aside0 (Below w.heap.size w wc))
       case first =>
        have H:=HC36.out
        clear HC36
        by_cases c45 : Qj > 0
        ·rw [if_pos c45] at H
         have c45b0 : decide (0 < Qj) = true:=decide_eq_true c45
         clear c45
         (first|rw [c45b0]|(simp only [i64_w,i32_w];rw [c45b0])|skip)
         have H':=Aside0.mk H
         clear H
         go_wp2
         go_meet
         case rel=>exact ⟨_,(true),(by first|rfl|(simp;done)|(simp [*];done)),H',⟨by have:=HJ5.out;have:=HJ21.out;first|omega|exact Nat.le_refl _⟩,⟨by (with_reducible repeat (first|refine blk_drewN ?_ _|refine blk_drew ?_|refine blk_alloc ?_ _));refine blk_far ?_ Ql.out _;(with_reducible repeat (first|refine blk_drewN ?_ _|refine blk_drew ?_|refine blk_alloc ?_ _));refine blk_far ?_ Ql.out _;(with_reducible repeat (first|refine blk_drewN ?_ _|refine blk_drew ?_|refine blk_alloc ?_ _));refine blk_far ?_ Ql.out _;(with_reducible repeat (first|refine blk_drewN ?_ _|refine blk_drew ?_|refine blk_alloc ?_ _));refine blk_far ?_ Ql.out _;(with_reducible repeat (first|refine blk_drewN ?_ _|refine blk_drew ?_|refine blk_alloc ?_ _));exact Qh.out⟩,⟨by (with_reducible repeat (first|refine blk_drewN ?_ _|refine blk_drew ?_|refine blk_alloc ?_ _));refine blk_far ?_ Qm.out _;(with_reducible repeat (first|refine blk_drewN ?_ _|refine blk_drew ?_|refine blk_alloc ?_ _));refine blk_far ?_ Qm.out _;(with_reducible repeat (first|refine blk_drewN ?_ _|refine blk_drew ?_|refine blk_alloc ?_ _));refine blk_far ?_ Qm.out _;(with_reducible repeat (first|refine blk_drewN ?_ _|refine blk_drew ?_|refine blk_alloc ?_ _));refine blk_far ?_ Qm.out _;(with_reducible repeat (first|refine blk_drewN ?_ _|refine blk_drew ?_|refine blk_alloc ?_ _));exact Qb.out⟩,⟨by (with_reducible repeat (first|refine blk_drewN ?_ _|refine blk_drew ?_|refine blk_alloc ?_ _));refine blk_far ?_ Qn.out _;(with_reducible repeat (first|refine blk_drewN ?_ _|refine blk_drew ?_|refine blk_alloc ?_ _));refine blk_far ?_ Qn.out _;(with_reducible repeat (first|refine blk_drewN ?_ _|refine blk_drew ?_|refine blk_alloc ?_ _));refine blk_far ?_ Qn.out _;(with_reducible repeat (first|refine blk_drewN ?_ _|refine blk_drew ?_|refine blk_alloc ?_ _));refine blk_far ?_ Qn.out _;(with_reducible repeat (first|refine blk_drewN ?_ _|refine blk_drew ?_|refine blk_alloc ?_ _));exact Qa.out⟩,⟨by (with_reducible repeat (first|refine blk_drewN ?_ _|refine blk_drew ?_|refine blk_alloc ?_ _));refine blk_put (cs:=#[.int .i64 (wrap64 (Qd + 1)),.int .i64 Qe,.int .i64 (wrap64 (Qf + Qj)),.bool false]) ?_ 3 _ rfl;(with_reducible repeat (first|refine blk_drewN ?_ _|refine blk_drew ?_|refine blk_alloc ?_ _));refine blk_put (cs:=#[.int .i64 (wrap64 (Qd + 1)),.int .i64 Qe,.int .i64 0,.bool false]) ?_ 2 _ rfl;(with_reducible repeat (first|refine blk_drewN ?_ _|refine blk_drew ?_|refine blk_alloc ?_ _));refine blk_put (cs:=#[.int .i64 (wrap64 (Qd + 1)),.int .i64 0,.int .i64 0,.bool false]) ?_ 1 _ rfl;(with_reducible repeat (first|refine blk_drewN ?_ _|refine blk_drew ?_|refine blk_alloc ?_ _));refine blk_put (cs:=#[.int .i64 0,.int .i64 0,.int .i64 0,.bool false]) ?_ 0 _ rfl;(with_reducible repeat (first|refine blk_drewN ?_ _|refine blk_drew ?_|refine blk_alloc ?_ _));exact Qc.out⟩,⟨by repeat (first|(with_reducible first|exact HB.out|apply below_alloc|apply pw_below_drewN|apply below_drew1|refine below_set ?_ Qw.out|refine below_set ?_ Qz.out|refine below_set ?_ QA.out|refine below_set ?_ QX.out)|exact HB.out)⟩⟩
        ·rw [if_neg c45] at H
         have c45b0 : decide (0 < Qj) = false:=decide_eq_false c45
         clear c45
         (first|rw [c45b0]|(simp only [i64_w,i32_w];rw [c45b0])|skip)
         have H':=Aside0.mk H
         clear H
         go_wp2
         go_meet
         case rel=>exact ⟨_,(decide (Qj < 0)),(by first|rfl|(simp;done)|(simp [*];done)),H',⟨by have:=HJ5.out;have:=HJ21.out;first|omega|exact Nat.le_refl _⟩,⟨by (with_reducible repeat (first|refine blk_drewN ?_ _|refine blk_drew ?_|refine blk_alloc ?_ _));refine blk_far ?_ Ql.out _;(with_reducible repeat (first|refine blk_drewN ?_ _|refine blk_drew ?_|refine blk_alloc ?_ _));refine blk_far ?_ Ql.out _;(with_reducible repeat (first|refine blk_drewN ?_ _|refine blk_drew ?_|refine blk_alloc ?_ _));refine blk_far ?_ Ql.out _;(with_reducible repeat (first|refine blk_drewN ?_ _|refine blk_drew ?_|refine blk_alloc ?_ _));refine blk_far ?_ Ql.out _;(with_reducible repeat (first|refine blk_drewN ?_ _|refine blk_drew ?_|refine blk_alloc ?_ _));exact Qh.out⟩,⟨by (with_reducible repeat (first|refine blk_drewN ?_ _|refine blk_drew ?_|refine blk_alloc ?_ _));refine blk_far ?_ Qm.out _;(with_reducible repeat (first|refine blk_drewN ?_ _|refine blk_drew ?_|refine blk_alloc ?_ _));refine blk_far ?_ Qm.out _;(with_reducible repeat (first|refine blk_drewN ?_ _|refine blk_drew ?_|refine blk_alloc ?_ _));refine blk_far ?_ Qm.out _;(with_reducible repeat (first|refine blk_drewN ?_ _|refine blk_drew ?_|refine blk_alloc ?_ _));refine blk_far ?_ Qm.out _;(with_reducible repeat (first|refine blk_drewN ?_ _|refine blk_drew ?_|refine blk_alloc ?_ _));exact Qb.out⟩,⟨by (with_reducible repeat (first|refine blk_drewN ?_ _|refine blk_drew ?_|refine blk_alloc ?_ _));refine blk_far ?_ Qn.out _;(with_reducible repeat (first|refine blk_drewN ?_ _|refine blk_drew ?_|refine blk_alloc ?_ _));refine blk_far ?_ Qn.out _;(with_reducible repeat (first|refine blk_drewN ?_ _|refine blk_drew ?_|refine blk_alloc ?_ _));refine blk_far ?_ Qn.out _;(with_reducible repeat (first|refine blk_drewN ?_ _|refine blk_drew ?_|refine blk_alloc ?_ _));refine blk_far ?_ Qn.out _;(with_reducible repeat (first|refine blk_drewN ?_ _|refine blk_drew ?_|refine blk_alloc ?_ _));exact Qa.out⟩,⟨by (with_reducible repeat (first|refine blk_drewN ?_ _|refine blk_drew ?_|refine blk_alloc ?_ _));refine blk_put (cs:=#[.int .i64 (wrap64 (Qd + 1)),.int .i64 Qe,.int .i64 (wrap64 (Qf + Qj)),.bool false]) ?_ 3 _ rfl;(with_reducible repeat (first|refine blk_drewN ?_ _|refine blk_drew ?_|refine blk_alloc ?_ _));refine blk_put (cs:=#[.int .i64 (wrap64 (Qd + 1)),.int .i64 Qe,.int .i64 0,.bool false]) ?_ 2 _ rfl;(with_reducible repeat (first|refine blk_drewN ?_ _|refine blk_drew ?_|refine blk_alloc ?_ _));refine blk_put (cs:=#[.int .i64 (wrap64 (Qd + 1)),.int .i64 0,.int .i64 0,.bool false]) ?_ 1 _ rfl;(with_reducible repeat (first|refine blk_drewN ?_ _|refine blk_drew ?_|refine blk_alloc ?_ _));refine blk_put (cs:=#[.int .i64 0,.int .i64 0,.int .i64 0,.bool false]) ?_ 0 _ rfl;(with_reducible repeat (first|refine blk_drewN ?_ _|refine blk_drew ?_|refine blk_alloc ?_ _));exact Qc.out⟩,⟨by repeat (first|(with_reducible first|exact HB.out|apply below_alloc|apply pw_below_drewN|apply below_drew1|refine below_set ?_ Qw.out|refine below_set ?_ Qz.out|refine below_set ?_ QA.out|refine below_set ?_ QX.out)|exact HB.out)⟩⟩
       case rest =>
        clear HC36
        try clear c1
        try clear c2
        try clear p2
        try clear c3
        try clear c4
        try clear p6
        try clear c8
        try clear c10
        try clear c11
        try clear c14
        try clear c17
        try clear c17b0
        try clear c17b1
        try clear c18
        try clear c19
        try clear c20
        try clear c23
        try clear c24
        try clear c25
        try clear c27
        try clear c28
        try clear c30
        try clear c31
        try clear c32
        try clear c34
        try clear c37
        try clear c38
        try clear c41
        try clear c42
        try clear c43
        try clear c45
        try clear c45b0
        try clear hcz12_0
        try clear hcz12_1
        try clear hcz12_10
        try clear hcz12_11
        try clear hcz12_12
        try clear hcz12_13
        try clear hcz12_14
        try clear hcz12_15
        try clear hcz12_2
        try clear hcz12_3
        try clear hcz12_4
        try clear hcz12_5
        try clear hcz12_6
        try clear hcz12_7
        try clear hcz12_8
        try clear hcz12_9
        try clear hcz15_0
        try clear hcz15_1
        try clear hcz15_2
        try clear hcz15_3
        try clear hcz21_0
        try clear hcz21_1
        try clear hcz21_2
        try clear hcz21_3
        try clear hcz26_0
        try clear hcz26_1
        try clear hcz26_2
        try clear hcz26_3
        try clear hcz29_0
        try clear hcz29_1
        try clear hcz29_2
        try clear hcz29_3
        try clear hcz33_0
        try clear hcz33_1
        try clear hcz33_2
        try clear hcz33_3
        try clear hcz35_0
        try clear hcz35_1
        try clear hcz35_2
        try clear hcz35_3
        try clear hcz39_0
        try clear hcz39_1
        try clear hcz39_2
        try clear hcz39_3
        try clear hcz44_0
        try clear hcz44_1
        try clear hcz44_2
        try clear hcz44_3
        try clear hfz12_0
        try clear hfz12_1
        try clear hfz12_10
        try clear hfz12_11
        try clear hfz12_12
        try clear hfz12_13
        try clear hfz12_14
        try clear hfz12_15
        try clear hfz12_2
        try clear hfz12_3
        try clear hfz12_4
        try clear hfz12_5
        try clear hfz12_6
        try clear hfz12_7
        try clear hfz12_8
        try clear hfz12_9
        try clear hfz15_0
        try clear hfz15_1
        try clear hfz15_2
        try clear hfz15_3
        try clear hfz21_0
        try clear hfz21_1
        try clear hfz21_2
        try clear hfz21_3
        try clear hfz26_0
        try clear hfz26_1
        try clear hfz26_2
        try clear hfz26_3
        try clear hfz29_0
        try clear hfz29_1
        try clear hfz29_2
        try clear hfz29_3
        try clear hfz33_0
        try clear hfz33_1
        try clear hfz33_2
        try clear hfz33_3
        try clear hfz35_0
        try clear hfz35_1
        try clear hfz35_2
        try clear hfz35_3
        try clear hfz39_0
        try clear hfz39_1
        try clear hfz39_2
        try clear hfz39_3
        try clear hfz44_0
        try clear hfz44_1
        try clear hfz44_2
        try clear hfz44_3
        try clear p2
        obtain ⟨kq,Zf,rfl,HA,HJ35,Qh,Qb,Qa,Qc,HB⟩:=hcut
        cases kq with
        | zero=>exact absurd HA.out (by simp [vespersref15_Turn.j2])
        | succ kj35 =>
         have H:=HA.out
         clear HA
         simp only [vespersref15_Turn.j2] at H
         by_cases c46 : Zf = true
         ·subst c46
          have H1 : ((vespersref15_may.f (wrap64 (Qd + 1)) (wrap64 (Qe + 1)) (wrap64 (Qf + Qj)) false).bind fun t202=>(if t202 = true then (some ((wrap64 (Qd + 1)),wrap64 (Qe + 1),(wrap64 (Qf + Qj)),false,Qj,0)) else (some (0,0,0,false,0,150)))) = some (r1,r2,r3,r4,r5,r6):=by rw [if_pos rfl] at H;exact H
          clear H
          have H:=H1
          clear H1
          replace H:=Option.bind_eq_some_iff.mp H
          obtain ⟨t202,A470,H⟩:=H
          replace H : (if t202 = true then (some ((wrap64 (Qd + 1)),wrap64 (Qe + 1),(wrap64 (Qf + Qj)),false,Qj,0)) else (some (0,0,0,false,0,150))) = some (r1,r2,r3,r4,r5,r6):=H
          have A47:=Aside0.mk A470
          clear A470
          by_cases c48 : t202 = true
          ·subst c48
           have H1 : (some ((wrap64 (Qd + 1)),wrap64 (Qe + 1),(wrap64 (Qf + Qj)),false,Qj,0)) = some (r1,r2,r3,r4,r5,r6):=by rw [if_pos rfl] at H;exact H
           clear H
           have H:=H1
           clear H1
           simp only [Option.some.injEq,Prod.mk.injEq] at H
           obtain ⟨rfl,rfl,rfl,rfl,rfl,rfl⟩:=H
           have hnb49:=QP.out
           have hnc49:=Ql.out
           have hnb50:=QQ.out
           have hnc50:=Qm.out
           have hnb51:=QR.out
           have hnc51:=Qn.out
           have hcz52_0 : wc.cell? ⟨Qk,0,none⟩ = some (.int .i64 (wrap64 (Qd + 1))):=(blk_cell Qc.out 0).trans rfl
           have hcz52_1 : wc.cell? ⟨Qk,1,none⟩ = some (.int .i64 Qe):=(blk_cell Qc.out 1).trans rfl
           have hcz52_2 : wc.cell? ⟨Qk,2,none⟩ = some (.int .i64 (wrap64 (Qf + Qj))):=(blk_cell Qc.out 2).trans rfl
           have hcz52_3 : wc.cell? ⟨Qk,3,none⟩ = some (.bool false):=(blk_cell Qc.out 3).trans rfl
           have hfz52_0:=blk_frozen Qc.out 0
           have hfz52_1:=blk_frozen Qc.out 1
           have hfz52_2:=blk_frozen Qc.out 2
           have hfz52_3:=blk_frozen Qc.out 3
           go_wp2_with (first|((with_reducible refine gate_callee (f:=23) rfl ?_);refine goesL_ (some 62) rfl rfl Try.func23 (by kernel_rfl) rfl #[.agg #[.int .i64 (wrap64 (Qd + 1)),.int .i64 (wrap64 (Qe + 1)),.int .i64 (wrap64 (Qf + Qj)),.bool false]] rfl (by (try simp only [List.map_toArray,List.map_cons,List.map_nil]);first|done|rfl|(simp only [List.length_drop,List.length_take];rfl)) ?_;(with_reducible refine (vespersref15_may.calls (wrap64 (Qd + 1)) (wrap64 (Qe + 1)) (wrap64 (Qf + Qj)) false true _ A47.out).mono ?_);rintro e w53 ⟨rfl,hb⟩;refine ⟨_,rfl,?_⟩;have n0_:=Aside0.mk (blk_below (g:=Qv) (o:=.cells #[.int .i64 QB,.int .i64 QC,.int .i64 QD,.int .i64 QE,.int .i64 QF,.int .i64 QG,.int .i64 QH,.int .i64 QI,.int .i64 QJ,.int .i64 QK,.int .i64 Qo,.int .i64 Qp,.int .i64 Qq,.int .i64 Qr,.int .i64 Qs,.int .i64 Qt] 23 (0,0)) (by (with_reducible repeat (first|refine blk_drewN ?_ _|refine blk_drew ?_|refine blk_alloc ?_ _));refine blk_far ?_ Ql.out _;(with_reducible repeat (first|refine blk_drewN ?_ _|refine blk_drew ?_|refine blk_alloc ?_ _));exact Qh.out) hb);have n1_:=Aside0.mk (blk_below (g:=Qi) (o:=.cells #[.int .i64 Qd,.int .i64 Qe,.int .i64 Qf,.bool Qu] 25 (0,0)) (by (with_reducible repeat (first|refine blk_drewN ?_ _|refine blk_drew ?_|refine blk_alloc ?_ _));refine blk_far ?_ Qm.out _;(with_reducible repeat (first|refine blk_drewN ?_ _|refine blk_drew ?_|refine blk_alloc ?_ _));exact Qb.out) hb);have n2_:=Aside0.mk (blk_below (g:=Qg) (o:=.cells #[.int .i64 0,.int .i64 0,.int .i64 0,.bool false] 25 (0,0)) (by (with_reducible repeat (first|refine blk_drewN ?_ _|refine blk_drew ?_|refine blk_alloc ?_ _));refine blk_far ?_ Qn.out _;(with_reducible repeat (first|refine blk_drewN ?_ _|refine blk_drew ?_|refine blk_alloc ?_ _));exact Qa.out) hb);have n3_:=Aside0.mk (blk_below (g:=Qk) (o:=.cells #[.int .i64 (wrap64 (Qd + 1)),.int .i64 (wrap64 (Qe + 1)),.int .i64 (wrap64 (Qf + Qj)),.bool false] 25 (0,0)) (by (with_reducible repeat (first|refine blk_drewN ?_ _|refine blk_drew ?_|refine blk_alloc ?_ _));refine blk_put (cs:=#[.int .i64 (wrap64 (Qd + 1)),.int .i64 Qe,.int .i64 (wrap64 (Qf + Qj)),.bool false]) ?_ 1 _ rfl;(with_reducible repeat (first|refine blk_drewN ?_ _|refine blk_drew ?_|refine blk_alloc ?_ _));exact Qc.out) hb);have n4_:=Aside0.mk (below_step (by repeat (first|(with_reducible first|exact HB.out|apply below_alloc|apply pw_below_drewN|apply below_drew1|refine below_set ?_ Qw.out|refine below_set ?_ Qz.out|refine below_set ?_ QA.out|refine below_set ?_ QX.out)|exact HB.out)) hb);clear Qh;clear Qb;clear Qa;clear Qc;clear HB;have Qh:=n0_;have Qb:=n1_;have Qa:=n2_;have Qc:=n3_;have HB:=n4_;clear n0_ n1_ n2_ n3_ n4_;(try clear hb);(try clear hb2);(try clear hk);(try clear hi);have hcz54_0 : w53.cell? ⟨Qk,0,none⟩ = some (.int .i64 (wrap64 (Qd + 1))):=(blk_cell Qc.out 0).trans rfl;have hcz54_1 : w53.cell? ⟨Qk,1,none⟩ = some (.int .i64 (wrap64 (Qe + 1))):=(blk_cell Qc.out 1).trans rfl;have hcz54_2 : w53.cell? ⟨Qk,2,none⟩ = some (.int .i64 (wrap64 (Qf + Qj))):=(blk_cell Qc.out 2).trans rfl;have hcz54_3 : w53.cell? ⟨Qk,3,none⟩ = some (.bool false):=(blk_cell Qc.out 3).trans rfl;have hfz54_0:=blk_frozen Qc.out 0;have hfz54_1:=blk_frozen Qc.out 1;have hfz54_2:=blk_frozen Qc.out 2;have hfz54_3:=blk_frozen Qc.out 3;have hnb55:=QM.out;have hnc55:=QL.out;have hnb56:=Qy.out;have hnc56:=Qx.out;have hcz57_0 : w53.cell? ⟨Qg,0,none⟩ = some (.int .i64 0):=(blk_cell Qa.out 0).trans rfl;have hcz57_1 : w53.cell? ⟨Qg,1,none⟩ = some (.int .i64 0):=(blk_cell Qa.out 1).trans rfl;have hcz57_2 : w53.cell? ⟨Qg,2,none⟩ = some (.int .i64 0):=(blk_cell Qa.out 2).trans rfl;have hcz57_3 : w53.cell? ⟨Qg,3,none⟩ = some (.bool false):=(blk_cell Qa.out 3).trans rfl;have hfz57_0:=blk_frozen Qa.out 0;have hfz57_1:=blk_frozen Qa.out 1;have hfz57_2:=blk_frozen Qa.out 2;have hfz57_3:=blk_frozen Qa.out 3))
           refine bodyPost_ret (results_ctt rfl _ _ Qg 25 #[.int .i64 (wrap64 (Qd + 1)),.int .i64 (wrap64 (Qe + 1)),.int .i64 (wrap64 (Qf + Qj)),.bool false] (0,0) _ rfl (by (with_reducible repeat (first|refine blk_drewN ?_ _|refine blk_drew ?_|refine blk_alloc ?_ _));refine blk_put (cs:=#[.int .i64 (wrap64 (Qd + 1)),.int .i64 (wrap64 (Qe + 1)),.int .i64 (wrap64 (Qf + Qj)),.bool false]) ?_ 3 _ rfl;(with_reducible repeat (first|refine blk_drewN ?_ _|refine blk_drew ?_|refine blk_alloc ?_ _));refine blk_put (cs:=#[.int .i64 (wrap64 (Qd + 1)),.int .i64 (wrap64 (Qe + 1)),.int .i64 0,.bool false]) ?_ 2 _ rfl;(with_reducible repeat (first|refine blk_drewN ?_ _|refine blk_drew ?_|refine blk_alloc ?_ _));refine blk_put (cs:=#[.int .i64 (wrap64 (Qd + 1)),.int .i64 0,.int .i64 0,.bool false]) ?_ 1 _ rfl;(with_reducible repeat (first|refine blk_drewN ?_ _|refine blk_drew ?_|refine blk_alloc ?_ _));refine blk_put (cs:=#[.int .i64 0,.int .i64 0,.int .i64 0,.bool false]) ?_ 0 _ rfl;(with_reducible repeat (first|refine blk_drewN ?_ _|refine blk_drew ?_|refine blk_alloc ?_ _));exact Qa.out) Try.underlying25 rfl (by kernel_rfl)) rfl ?_
           exact ⟨by first|rfl|(simp [errW_none,errW_some] <;> rfl)|(simp [*,errW_none,errW_some] <;> rfl),by repeat (first|(with_reducible first|exact HB.out|apply below_alloc|apply pw_below_drewN|apply below_drew1|refine below_set ?_ Qw.out|refine below_set ?_ Qz.out|refine below_set ?_ QA.out|refine below_set ?_ QX.out)|exact HB.out)⟩
          ·replace c48:=Bool.eq_false_iff.mpr c48
           subst c48
           have H1 : (some (0,0,0,false,0,150)) = some (r1,r2,r3,r4,r5,r6):=by rw [if_neg (show ¬ (false = true) by decide)] at H;exact H
           clear H
           have H:=H1
           clear H1
           simp only [Option.some.injEq,Prod.mk.injEq] at H
           obtain ⟨rfl,rfl,rfl,rfl,rfl,rfl⟩:=H
           have hnb58:=QP.out
           have hnc58:=Ql.out
           have hnb59:=QQ.out
           have hnc59:=Qm.out
           have hnb60:=QR.out
           have hnc60:=Qn.out
           have hcz61_0 : wc.cell? ⟨Qk,0,none⟩ = some (.int .i64 (wrap64 (Qd + 1))):=(blk_cell Qc.out 0).trans rfl
           have hcz61_1 : wc.cell? ⟨Qk,1,none⟩ = some (.int .i64 Qe):=(blk_cell Qc.out 1).trans rfl
           have hcz61_2 : wc.cell? ⟨Qk,2,none⟩ = some (.int .i64 (wrap64 (Qf + Qj))):=(blk_cell Qc.out 2).trans rfl
           have hcz61_3 : wc.cell? ⟨Qk,3,none⟩ = some (.bool false):=(blk_cell Qc.out 3).trans rfl
           have hfz61_0:=blk_frozen Qc.out 0
           have hfz61_1:=blk_frozen Qc.out 1
           have hfz61_2:=blk_frozen Qc.out 2
           have hfz61_3:=blk_frozen Qc.out 3
           go_wp2_with (first|((with_reducible refine gate_callee (f:=23) rfl ?_);refine goesL_ (some 62) rfl rfl Try.func23 (by kernel_rfl) rfl #[.agg #[.int .i64 (wrap64 (Qd + 1)),.int .i64 (wrap64 (Qe + 1)),.int .i64 (wrap64 (Qf + Qj)),.bool false]] rfl (by (try simp only [List.map_toArray,List.map_cons,List.map_nil]);first|done|rfl|(simp only [List.length_drop,List.length_take];rfl)) ?_;(with_reducible refine (vespersref15_may.calls (wrap64 (Qd + 1)) (wrap64 (Qe + 1)) (wrap64 (Qf + Qj)) false false _ A47.out).mono ?_);rintro e w62 ⟨rfl,hb⟩;refine ⟨_,rfl,?_⟩;have n0_:=Aside0.mk (blk_below (g:=Qv) (o:=.cells #[.int .i64 QB,.int .i64 QC,.int .i64 QD,.int .i64 QE,.int .i64 QF,.int .i64 QG,.int .i64 QH,.int .i64 QI,.int .i64 QJ,.int .i64 QK,.int .i64 Qo,.int .i64 Qp,.int .i64 Qq,.int .i64 Qr,.int .i64 Qs,.int .i64 Qt] 23 (0,0)) (by (with_reducible repeat (first|refine blk_drewN ?_ _|refine blk_drew ?_|refine blk_alloc ?_ _));refine blk_far ?_ Ql.out _;(with_reducible repeat (first|refine blk_drewN ?_ _|refine blk_drew ?_|refine blk_alloc ?_ _));exact Qh.out) hb);have n1_:=Aside0.mk (blk_below (g:=Qi) (o:=.cells #[.int .i64 Qd,.int .i64 Qe,.int .i64 Qf,.bool Qu] 25 (0,0)) (by (with_reducible repeat (first|refine blk_drewN ?_ _|refine blk_drew ?_|refine blk_alloc ?_ _));refine blk_far ?_ Qm.out _;(with_reducible repeat (first|refine blk_drewN ?_ _|refine blk_drew ?_|refine blk_alloc ?_ _));exact Qb.out) hb);have n2_:=Aside0.mk (blk_below (g:=Qg) (o:=.cells #[.int .i64 0,.int .i64 0,.int .i64 0,.bool false] 25 (0,0)) (by (with_reducible repeat (first|refine blk_drewN ?_ _|refine blk_drew ?_|refine blk_alloc ?_ _));refine blk_far ?_ Qn.out _;(with_reducible repeat (first|refine blk_drewN ?_ _|refine blk_drew ?_|refine blk_alloc ?_ _));exact Qa.out) hb);have n3_:=Aside0.mk (blk_below (g:=Qk) (o:=.cells #[.int .i64 (wrap64 (Qd + 1)),.int .i64 (wrap64 (Qe + 1)),.int .i64 (wrap64 (Qf + Qj)),.bool false] 25 (0,0)) (by (with_reducible repeat (first|refine blk_drewN ?_ _|refine blk_drew ?_|refine blk_alloc ?_ _));refine blk_put (cs:=#[.int .i64 (wrap64 (Qd + 1)),.int .i64 Qe,.int .i64 (wrap64 (Qf + Qj)),.bool false]) ?_ 1 _ rfl;(with_reducible repeat (first|refine blk_drewN ?_ _|refine blk_drew ?_|refine blk_alloc ?_ _));exact Qc.out) hb);have n4_:=Aside0.mk (below_step (by repeat (first|(with_reducible first|exact HB.out|apply below_alloc|apply pw_below_drewN|apply below_drew1|refine below_set ?_ Qw.out|refine below_set ?_ Qz.out|refine below_set ?_ QA.out|refine below_set ?_ QX.out)|exact HB.out)) hb);clear Qh;clear Qb;clear Qa;clear Qc;clear HB;have Qh:=n0_;have Qb:=n1_;have Qa:=n2_;have Qc:=n3_;have HB:=n4_;clear n0_ n1_ n2_ n3_ n4_;(try clear hb);(try clear hb2);(try clear hk);(try clear hi);have hnb63:=QM.out;have hnc63:=QL.out;have hnb64:=Qy.out;have hnc64:=Qx.out;have hcz65_0 : w62.cell? ⟨Qg,0,none⟩ = some (.int .i64 0):=(blk_cell Qa.out 0).trans rfl;have hcz65_1 : w62.cell? ⟨Qg,1,none⟩ = some (.int .i64 0):=(blk_cell Qa.out 1).trans rfl;have hcz65_2 : w62.cell? ⟨Qg,2,none⟩ = some (.int .i64 0):=(blk_cell Qa.out 2).trans rfl;have hcz65_3 : w62.cell? ⟨Qg,3,none⟩ = some (.bool false):=(blk_cell Qa.out 3).trans rfl;have hfz65_0:=blk_frozen Qa.out 0;have hfz65_1:=blk_frozen Qa.out 1;have hfz65_2:=blk_frozen Qa.out 2;have hfz65_3:=blk_frozen Qa.out 3))
           refine bodyPost_ret (results_ctt rfl _ _ Qg 25 #[.int .i64 0,.int .i64 0,.int .i64 0,.bool false] (0,0) _ rfl (by (with_reducible repeat (first|refine blk_drewN ?_ _|refine blk_drew ?_|refine blk_alloc ?_ _));refine blk_put (cs:=#[.int .i64 0,.int .i64 0,.int .i64 0,.bool false]) ?_ 3 _ rfl;(with_reducible repeat (first|refine blk_drewN ?_ _|refine blk_drew ?_|refine blk_alloc ?_ _));refine blk_put (cs:=#[.int .i64 0,.int .i64 0,.int .i64 0,.bool false]) ?_ 2 _ rfl;(with_reducible repeat (first|refine blk_drewN ?_ _|refine blk_drew ?_|refine blk_alloc ?_ _));refine blk_put (cs:=#[.int .i64 0,.int .i64 0,.int .i64 0,.bool false]) ?_ 1 _ rfl;(with_reducible repeat (first|refine blk_drewN ?_ _|refine blk_drew ?_|refine blk_alloc ?_ _));refine blk_put (cs:=#[.int .i64 0,.int .i64 0,.int .i64 0,.bool false]) ?_ 0 _ rfl;(with_reducible repeat (first|refine blk_drewN ?_ _|refine blk_drew ?_|refine blk_alloc ?_ _));exact Qa.out) Try.underlying25 rfl (by kernel_rfl)) rfl ?_
           exact ⟨by first|rfl|(simp [errW_none,errW_some] <;> rfl)|(simp [*,errW_none,errW_some] <;> rfl),by repeat (first|(with_reducible first|exact HB.out|apply below_alloc|apply pw_below_drewN|apply below_drew1|refine below_set ?_ Qw.out|refine below_set ?_ Qz.out|refine below_set ?_ QA.out|refine below_set ?_ QX.out)|exact HB.out)⟩
         ·replace c46:=Bool.eq_false_iff.mpr c46
          subst c46
          have H1 : ((vespersref15_may.f (wrap64 (Qd + 1)) Qe (wrap64 (Qf + Qj)) false).bind fun t203=>(if t203 = true then (some ((wrap64 (Qd + 1)),Qe,(wrap64 (Qf + Qj)),false,Qj,0)) else (some (0,0,0,false,0,150)))) = some (r1,r2,r3,r4,r5,r6):=by rw [if_neg (show ¬ (false = true) by decide)] at H;exact H
          clear H
          have H:=H1
          clear H1
          replace H:=Option.bind_eq_some_iff.mp H
          obtain ⟨t203,A660,H⟩:=H
          replace H : (if t203 = true then (some ((wrap64 (Qd + 1)),Qe,(wrap64 (Qf + Qj)),false,Qj,0)) else (some (0,0,0,false,0,150))) = some (r1,r2,r3,r4,r5,r6):=H
          have A66:=Aside0.mk A660
          clear A660
          by_cases c67 : t203 = true
          ·subst c67
           have H1 : (some ((wrap64 (Qd + 1)),Qe,(wrap64 (Qf + Qj)),false,Qj,0)) = some (r1,r2,r3,r4,r5,r6):=by rw [if_pos rfl] at H;exact H
           clear H
           have H:=H1
           clear H1
           simp only [Option.some.injEq,Prod.mk.injEq] at H
           obtain ⟨rfl,rfl,rfl,rfl,rfl,rfl⟩:=H
           have hnb68:=QP.out
           have hnc68:=Ql.out
           have hnb69:=QQ.out
           have hnc69:=Qm.out
           have hnb70:=QR.out
           have hnc70:=Qn.out
           have hcz71_0 : wc.cell? ⟨Qk,0,none⟩ = some (.int .i64 (wrap64 (Qd + 1))):=(blk_cell Qc.out 0).trans rfl
           have hcz71_1 : wc.cell? ⟨Qk,1,none⟩ = some (.int .i64 Qe):=(blk_cell Qc.out 1).trans rfl
           have hcz71_2 : wc.cell? ⟨Qk,2,none⟩ = some (.int .i64 (wrap64 (Qf + Qj))):=(blk_cell Qc.out 2).trans rfl
           have hcz71_3 : wc.cell? ⟨Qk,3,none⟩ = some (.bool false):=(blk_cell Qc.out 3).trans rfl
           have hfz71_0:=blk_frozen Qc.out 0
           have hfz71_1:=blk_frozen Qc.out 1
           have hfz71_2:=blk_frozen Qc.out 2
           have hfz71_3:=blk_frozen Qc.out 3
           go_wp2_with (first|((with_reducible refine gate_callee (f:=23) rfl ?_);refine goesL_ (some 62) rfl rfl Try.func23 (by kernel_rfl) rfl #[.agg #[.int .i64 (wrap64 (Qd + 1)),.int .i64 Qe,.int .i64 (wrap64 (Qf + Qj)),.bool false]] rfl (by (try simp only [List.map_toArray,List.map_cons,List.map_nil]);first|done|rfl|(simp only [List.length_drop,List.length_take];rfl)) ?_;(with_reducible refine (vespersref15_may.calls (wrap64 (Qd + 1)) Qe (wrap64 (Qf + Qj)) false true _ A66.out).mono ?_);rintro e w72 ⟨rfl,hb⟩;refine ⟨_,rfl,?_⟩;have n0_:=Aside0.mk (blk_below (g:=Qv) (o:=.cells #[.int .i64 QB,.int .i64 QC,.int .i64 QD,.int .i64 QE,.int .i64 QF,.int .i64 QG,.int .i64 QH,.int .i64 QI,.int .i64 QJ,.int .i64 QK,.int .i64 Qo,.int .i64 Qp,.int .i64 Qq,.int .i64 Qr,.int .i64 Qs,.int .i64 Qt] 23 (0,0)) (by (with_reducible repeat (first|refine blk_drewN ?_ _|refine blk_drew ?_|refine blk_alloc ?_ _));exact Qh.out) hb);have n1_:=Aside0.mk (blk_below (g:=Qi) (o:=.cells #[.int .i64 Qd,.int .i64 Qe,.int .i64 Qf,.bool Qu] 25 (0,0)) (by (with_reducible repeat (first|refine blk_drewN ?_ _|refine blk_drew ?_|refine blk_alloc ?_ _));exact Qb.out) hb);have n2_:=Aside0.mk (blk_below (g:=Qg) (o:=.cells #[.int .i64 0,.int .i64 0,.int .i64 0,.bool false] 25 (0,0)) (by (with_reducible repeat (first|refine blk_drewN ?_ _|refine blk_drew ?_|refine blk_alloc ?_ _));exact Qa.out) hb);have n3_:=Aside0.mk (blk_below (g:=Qk) (o:=.cells #[.int .i64 (wrap64 (Qd + 1)),.int .i64 Qe,.int .i64 (wrap64 (Qf + Qj)),.bool false] 25 (0,0)) (by (with_reducible repeat (first|refine blk_drewN ?_ _|refine blk_drew ?_|refine blk_alloc ?_ _));exact Qc.out) hb);have n4_:=Aside0.mk (below_step (by repeat (first|(with_reducible first|exact HB.out|apply below_alloc|apply pw_below_drewN|apply below_drew1|refine below_set ?_ Qw.out|refine below_set ?_ Qz.out|refine below_set ?_ QA.out|refine below_set ?_ QX.out)|exact HB.out)) hb);clear Qh;clear Qb;clear Qa;clear Qc;clear HB;have Qh:=n0_;have Qb:=n1_;have Qa:=n2_;have Qc:=n3_;have HB:=n4_;clear n0_ n1_ n2_ n3_ n4_;(try clear hb);(try clear hb2);(try clear hk);(try clear hi);have hcz73_0 : w72.cell? ⟨Qk,0,none⟩ = some (.int .i64 (wrap64 (Qd + 1))):=(blk_cell Qc.out 0).trans rfl;have hcz73_1 : w72.cell? ⟨Qk,1,none⟩ = some (.int .i64 Qe):=(blk_cell Qc.out 1).trans rfl;have hcz73_2 : w72.cell? ⟨Qk,2,none⟩ = some (.int .i64 (wrap64 (Qf + Qj))):=(blk_cell Qc.out 2).trans rfl;have hcz73_3 : w72.cell? ⟨Qk,3,none⟩ = some (.bool false):=(blk_cell Qc.out 3).trans rfl;have hfz73_0:=blk_frozen Qc.out 0;have hfz73_1:=blk_frozen Qc.out 1;have hfz73_2:=blk_frozen Qc.out 2;have hfz73_3:=blk_frozen Qc.out 3;have hnb74:=QM.out;have hnc74:=QL.out;have hnb75:=Qy.out;have hnc75:=Qx.out;have hcz76_0 : w72.cell? ⟨Qg,0,none⟩ = some (.int .i64 0):=(blk_cell Qa.out 0).trans rfl;have hcz76_1 : w72.cell? ⟨Qg,1,none⟩ = some (.int .i64 0):=(blk_cell Qa.out 1).trans rfl;have hcz76_2 : w72.cell? ⟨Qg,2,none⟩ = some (.int .i64 0):=(blk_cell Qa.out 2).trans rfl;have hcz76_3 : w72.cell? ⟨Qg,3,none⟩ = some (.bool false):=(blk_cell Qa.out 3).trans rfl;have hfz76_0:=blk_frozen Qa.out 0;have hfz76_1:=blk_frozen Qa.out 1;have hfz76_2:=blk_frozen Qa.out 2;have hfz76_3:=blk_frozen Qa.out 3))
           refine bodyPost_ret (results_ctt rfl _ _ Qg 25 #[.int .i64 (wrap64 (Qd + 1)),.int .i64 Qe,.int .i64 (wrap64 (Qf + Qj)),.bool false] (0,0) _ rfl (by (with_reducible repeat (first|refine blk_drewN ?_ _|refine blk_drew ?_|refine blk_alloc ?_ _));refine blk_put (cs:=#[.int .i64 (wrap64 (Qd + 1)),.int .i64 Qe,.int .i64 (wrap64 (Qf + Qj)),.bool false]) ?_ 3 _ rfl;(with_reducible repeat (first|refine blk_drewN ?_ _|refine blk_drew ?_|refine blk_alloc ?_ _));refine blk_put (cs:=#[.int .i64 (wrap64 (Qd + 1)),.int .i64 Qe,.int .i64 0,.bool false]) ?_ 2 _ rfl;(with_reducible repeat (first|refine blk_drewN ?_ _|refine blk_drew ?_|refine blk_alloc ?_ _));refine blk_put (cs:=#[.int .i64 (wrap64 (Qd + 1)),.int .i64 0,.int .i64 0,.bool false]) ?_ 1 _ rfl;(with_reducible repeat (first|refine blk_drewN ?_ _|refine blk_drew ?_|refine blk_alloc ?_ _));refine blk_put (cs:=#[.int .i64 0,.int .i64 0,.int .i64 0,.bool false]) ?_ 0 _ rfl;(with_reducible repeat (first|refine blk_drewN ?_ _|refine blk_drew ?_|refine blk_alloc ?_ _));exact Qa.out) Try.underlying25 rfl (by kernel_rfl)) rfl ?_
           exact ⟨by first|rfl|(simp [errW_none,errW_some] <;> rfl)|(simp [*,errW_none,errW_some] <;> rfl),by repeat (first|(with_reducible first|exact HB.out|apply below_alloc|apply pw_below_drewN|apply below_drew1|refine below_set ?_ Qw.out|refine below_set ?_ Qz.out|refine below_set ?_ QA.out|refine below_set ?_ QX.out)|exact HB.out)⟩
          ·replace c67:=Bool.eq_false_iff.mpr c67
           subst c67
           have H1 : (some (0,0,0,false,0,150)) = some (r1,r2,r3,r4,r5,r6):=by rw [if_neg (show ¬ (false = true) by decide)] at H;exact H
           clear H
           have H:=H1
           clear H1
           simp only [Option.some.injEq,Prod.mk.injEq] at H
           obtain ⟨rfl,rfl,rfl,rfl,rfl,rfl⟩:=H
           have hnb77:=QP.out
           have hnc77:=Ql.out
           have hnb78:=QQ.out
           have hnc78:=Qm.out
           have hnb79:=QR.out
           have hnc79:=Qn.out
           have hcz80_0 : wc.cell? ⟨Qk,0,none⟩ = some (.int .i64 (wrap64 (Qd + 1))):=(blk_cell Qc.out 0).trans rfl
           have hcz80_1 : wc.cell? ⟨Qk,1,none⟩ = some (.int .i64 Qe):=(blk_cell Qc.out 1).trans rfl
           have hcz80_2 : wc.cell? ⟨Qk,2,none⟩ = some (.int .i64 (wrap64 (Qf + Qj))):=(blk_cell Qc.out 2).trans rfl
           have hcz80_3 : wc.cell? ⟨Qk,3,none⟩ = some (.bool false):=(blk_cell Qc.out 3).trans rfl
           have hfz80_0:=blk_frozen Qc.out 0
           have hfz80_1:=blk_frozen Qc.out 1
           have hfz80_2:=blk_frozen Qc.out 2
           have hfz80_3:=blk_frozen Qc.out 3
           go_wp2_with (first|((with_reducible refine gate_callee (f:=23) rfl ?_);refine goesL_ (some 62) rfl rfl Try.func23 (by kernel_rfl) rfl #[.agg #[.int .i64 (wrap64 (Qd + 1)),.int .i64 Qe,.int .i64 (wrap64 (Qf + Qj)),.bool false]] rfl (by (try simp only [List.map_toArray,List.map_cons,List.map_nil]);first|done|rfl|(simp only [List.length_drop,List.length_take];rfl)) ?_;(with_reducible refine (vespersref15_may.calls (wrap64 (Qd + 1)) Qe (wrap64 (Qf + Qj)) false false _ A66.out).mono ?_);rintro e w81 ⟨rfl,hb⟩;refine ⟨_,rfl,?_⟩;have n0_:=Aside0.mk (blk_below (g:=Qv) (o:=.cells #[.int .i64 QB,.int .i64 QC,.int .i64 QD,.int .i64 QE,.int .i64 QF,.int .i64 QG,.int .i64 QH,.int .i64 QI,.int .i64 QJ,.int .i64 QK,.int .i64 Qo,.int .i64 Qp,.int .i64 Qq,.int .i64 Qr,.int .i64 Qs,.int .i64 Qt] 23 (0,0)) (by (with_reducible repeat (first|refine blk_drewN ?_ _|refine blk_drew ?_|refine blk_alloc ?_ _));exact Qh.out) hb);have n1_:=Aside0.mk (blk_below (g:=Qi) (o:=.cells #[.int .i64 Qd,.int .i64 Qe,.int .i64 Qf,.bool Qu] 25 (0,0)) (by (with_reducible repeat (first|refine blk_drewN ?_ _|refine blk_drew ?_|refine blk_alloc ?_ _));exact Qb.out) hb);have n2_:=Aside0.mk (blk_below (g:=Qg) (o:=.cells #[.int .i64 0,.int .i64 0,.int .i64 0,.bool false] 25 (0,0)) (by (with_reducible repeat (first|refine blk_drewN ?_ _|refine blk_drew ?_|refine blk_alloc ?_ _));exact Qa.out) hb);have n3_:=Aside0.mk (blk_below (g:=Qk) (o:=.cells #[.int .i64 (wrap64 (Qd + 1)),.int .i64 Qe,.int .i64 (wrap64 (Qf + Qj)),.bool false] 25 (0,0)) (by (with_reducible repeat (first|refine blk_drewN ?_ _|refine blk_drew ?_|refine blk_alloc ?_ _));exact Qc.out) hb);have n4_:=Aside0.mk (below_step (by repeat (first|(with_reducible first|exact HB.out|apply below_alloc|apply pw_below_drewN|apply below_drew1|refine below_set ?_ Qw.out|refine below_set ?_ Qz.out|refine below_set ?_ QA.out|refine below_set ?_ QX.out)|exact HB.out)) hb);clear Qh;clear Qb;clear Qa;clear Qc;clear HB;have Qh:=n0_;have Qb:=n1_;have Qa:=n2_;have Qc:=n3_;have HB:=n4_;clear n0_ n1_ n2_ n3_ n4_;(try clear hb);(try clear hb2);(try clear hk);(try clear hi);have hnb82:=QM.out;have hnc82:=QL.out;have hnb83:=Qy.out;have hnc83:=Qx.out;have hcz84_0 : w81.cell? ⟨Qg,0,none⟩ = some (.int .i64 0):=(blk_cell Qa.out 0).trans rfl;have hcz84_1 : w81.cell? ⟨Qg,1,none⟩ = some (.int .i64 0):=(blk_cell Qa.out 1).trans rfl;have hcz84_2 : w81.cell? ⟨Qg,2,none⟩ = some (.int .i64 0):=(blk_cell Qa.out 2).trans rfl;have hcz84_3 : w81.cell? ⟨Qg,3,none⟩ = some (.bool false):=(blk_cell Qa.out 3).trans rfl;have hfz84_0:=blk_frozen Qa.out 0;have hfz84_1:=blk_frozen Qa.out 1;have hfz84_2:=blk_frozen Qa.out 2;have hfz84_3:=blk_frozen Qa.out 3))
           refine bodyPost_ret (results_ctt rfl _ _ Qg 25 #[.int .i64 0,.int .i64 0,.int .i64 0,.bool false] (0,0) _ rfl (by (with_reducible repeat (first|refine blk_drewN ?_ _|refine blk_drew ?_|refine blk_alloc ?_ _));refine blk_put (cs:=#[.int .i64 0,.int .i64 0,.int .i64 0,.bool false]) ?_ 3 _ rfl;(with_reducible repeat (first|refine blk_drewN ?_ _|refine blk_drew ?_|refine blk_alloc ?_ _));refine blk_put (cs:=#[.int .i64 0,.int .i64 0,.int .i64 0,.bool false]) ?_ 2 _ rfl;(with_reducible repeat (first|refine blk_drewN ?_ _|refine blk_drew ?_|refine blk_alloc ?_ _));refine blk_put (cs:=#[.int .i64 0,.int .i64 0,.int .i64 0,.bool false]) ?_ 1 _ rfl;(with_reducible repeat (first|refine blk_drewN ?_ _|refine blk_drew ?_|refine blk_alloc ?_ _));refine blk_put (cs:=#[.int .i64 0,.int .i64 0,.int .i64 0,.bool false]) ?_ 0 _ rfl;(with_reducible repeat (first|refine blk_drewN ?_ _|refine blk_drew ?_|refine blk_alloc ?_ _));exact Qa.out) Try.underlying25 rfl (by kernel_rfl)) rfl ?_
           exact ⟨by first|rfl|(simp [errW_none,errW_some] <;> rfl)|(simp [*,errW_none,errW_some] <;> rfl),by repeat (first|(with_reducible first|exact HB.out|apply below_alloc|apply pw_below_drewN|apply below_drew1|refine below_set ?_ Qw.out|refine below_set ?_ Qz.out|refine below_set ?_ QA.out|refine below_set ?_ QX.out)|exact HB.out)⟩

end Go.Proofs.Ytnmephdamgofnaa.PA
