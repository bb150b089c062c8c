/- Written by a program of this session (wip/jprint.py, over the printer of the kit): functions that a law comes to, as plain Lean functions, and walks; Lean checks it. -/
import Derived.Test.YtnmephdamgofnaaPBx0
import Derived.Test.YtnmephdamgofnaaPBx1
import Derived.Test.YtnmephdamgofnaaPBx2
namespace Go.Proofs.Ytnmephdamgofnaa.PB
open Go.RowKit Go.Proofs.Ytnmephdamgofnaa.Hand Go.Proofs.Ytnmephdamgofnaa.PA Go.Proofs.YtnmephdamgofnaaW.PrintWords Go.Proofs.YtnmephdamgofnaaW.PrintLast Go.Proofs.YtnmephdamgofnaaW.PrintMore
attribute [local go_sem] max2_int min2_int max_two min_two max_three min_three max_four min_four   -- for this text's walks alone
set_option linter.unusedVariables false
set_option linter.unusedSimpArgs false

attribute [local go_sem high] eqA25
/-! ### resync_Turn: function 9 -/
mutual
def resync_Turn.j0 : Nat→Int→Int→Bool→Int→Int→Int→Bool→Option (Int × Int × Int × Bool × Int × Int)
 | 0,_,_,_,_,_,_,_=>none
 | k + 1,x7,x8,x21,x124000,x124001,x124002,Zu=>if x21 = true then (some (0,0,0,false,0,150)) else (if x8 = 151 then (resync_Turn.j1 k x7 true x124000 x124001 x124002 Zu) else (resync_Turn.j1 k x7 Zu x124000 x124001 x124002 Zu))
def resync_Turn.j1 : Nat→Int→Bool→Int→Int→Int→Bool→Option (Int × Int × Int × Bool × Int × Int)
 | 0,_,_,_,_,_,_=>none
 | k + 1,x7,x29,QV,QW,QX,Zd=>if x29 = true then (some (QV,QW,QX,true,0,151)) else (if x7 = 0 then ((resync_may.f (wrap64 (QV + 1)) QW (wrap64 (QX + x7)) Zd).bind fun t128=>(if t128 = true then (some (wrap64 (QV + 1),QW,wrap64 (QX + x7),Zd,x7,0)) else (some (0,0,0,false,0,150)))) else ((resync_may.f (wrap64 (QV + 1)) (wrap64 (QW + 1)) (wrap64 (QX + x7)) Zd).bind fun t129=>(if t129 = true then (some (wrap64 (QV + 1),wrap64 (QW + 1),wrap64 (QX + x7),Zd,x7,0)) else (some (0,0,0,false,0,150)))))
end
def resync_Turn.f (k : Nat) (Ze : Int) (Zf : Int) (Zg : Int) (Zh : Int) (Zi : Int) (Zj : Int) (Zk : Int) (Zl : Int) (Zm : Int) (Zn : Int) (QD : Int) (QE : Int) (QF : Int) (QG : Int) (QH : Int) (QI : Int) (Qc : Int) (Qd : Int) (Qe : Int) (Qg : Bool) (l2 : List Int) : Option (Int × Int × Int × Bool × Int × Int):=(resync_Correction.f k Ze Zf Zg Zh Zi Zj Zk Zl Zm Zn QD QE QF QG QH QI l2).bind fun QJ=>(if QJ.2 = 150 then (resync_Turn.j0 k QJ.1 QJ.2 true Qc Qd Qe Qg) else ((resync_may.f Qc Qd Qe Qg).bind fun Zv=>(resync_Turn.j0 k QJ.1 QJ.2 (!Zv) Qc Qd Qe Qg)))
theorem resync_Turn.mono_l : ∀ k,(∀ y0 y1 y2 y3 y4 y5 y6,LeO (resync_Turn.j0 k y0 y1 y2 y3 y4 y5 y6) (resync_Turn.j0 (k + 1) y0 y1 y2 y3 y4 y5 y6))∧(∀ y0 y1 y2 y3 y4 y5,LeO (resync_Turn.j1 k y0 y1 y2 y3 y4 y5) (resync_Turn.j1 (k + 1) y0 y1 y2 y3 y4 y5))
 | 0=>⟨fun _ _ _ _ _ _ _ r h=>by simp [resync_Turn.j0] at h,fun _ _ _ _ _ _ r h=>by simp [resync_Turn.j1] at h⟩
 | k + 1=>by
  obtain ⟨ih0,ih1⟩:=resync_Turn.mono_l k
  refine ⟨?_,?_⟩
  ·intro y0 y1 y2 y3 y4 y5 y6
   unfold resync_Turn.j0
   repeat' first
   | (with_reducible exact ih0 _ _ _ _ _ _ _)
   | (with_reducible exact ih1 _ _ _ _ _ _)
   | (with_reducible exact resync_Correction.mono _ _ _ _ _ _ _ _ _ _ _ _ _ _ _ _ _ _)
   | (with_reducible exact LeO.refl _)
   | (with_reducible exact LeO.none _)
   | (with_reducible refine LeO.ite ?_ ?_)
   | (with_reducible refine LeO.bind ?_ (fun _=>?_))
   | exact ih0 _ _ _ _ _ _ _
   | exact ih1 _ _ _ _ _ _
   | exact resync_Correction.mono _ _ _ _ _ _ _ _ _ _ _ _ _ _ _ _ _ _
   | exact LeO.none _
   | refine LeO.ite ?_ ?_
   | refine LeO.bind ?_ (fun _=>?_)
  ·intro y0 y1 y2 y3 y4 y5
   unfold resync_Turn.j1
   repeat' first
   | (with_reducible exact ih0 _ _ _ _ _ _ _)
   | (with_reducible exact ih1 _ _ _ _ _ _)
   | (with_reducible exact resync_Correction.mono _ _ _ _ _ _ _ _ _ _ _ _ _ _ _ _ _ _)
   | (with_reducible exact LeO.refl _)
   | (with_reducible exact LeO.none _)
   | (with_reducible refine LeO.ite ?_ ?_)
   | (with_reducible refine LeO.bind ?_ (fun _=>?_))
   | exact ih0 _ _ _ _ _ _ _
   | exact ih1 _ _ _ _ _ _
   | exact resync_Correction.mono _ _ _ _ _ _ _ _ _ _ _ _ _ _ _ _ _ _
   | exact LeO.none _
   | refine LeO.ite ?_ ?_
   | refine LeO.bind ?_ (fun _=>?_)
theorem resync_Turn.mono : ∀ a0 a1 a2 a3 a4 a5 a6 a7 a8 a9 a10 a11 a12 a13 a14 a15 a16 a17 a18 a19 a20 k,LeO (resync_Turn.f k a0 a1 a2 a3 a4 a5 a6 a7 a8 a9 a10 a11 a12 a13 a14 a15 a16 a17 a18 a19 a20) (resync_Turn.f (k + 1) a0 a1 a2 a3 a4 a5 a6 a7 a8 a9 a10 a11 a12 a13 a14 a15 a16 a17 a18 a19 a20):=by
 intro a0 a1 a2 a3 a4 a5 a6 a7 a8 a9 a10 a11 a12 a13 a14 a15 a16 a17 a18 a19 a20 k
 obtain ⟨ih0,ih1⟩:=resync_Turn.mono_l k
 unfold resync_Turn.f
 repeat' first
   | (with_reducible exact ih0 _ _ _ _ _ _ _)
   | (with_reducible exact ih1 _ _ _ _ _ _)
   | (with_reducible exact resync_Correction.mono _ _ _ _ _ _ _ _ _ _ _ _ _ _ _ _ _ _)
   | (with_reducible exact LeO.refl _)
   | (with_reducible exact LeO.none _)
   | (with_reducible refine LeO.ite ?_ ?_)
   | (with_reducible refine LeO.bind ?_ (fun _=>?_))
   | exact ih0 _ _ _ _ _ _ _
   | exact ih1 _ _ _ _ _ _
   | exact resync_Correction.mono _ _ _ _ _ _ _ _ _ _ _ _ _ _ _ _ _ _
   | exact LeO.none _
   | refine LeO.ite ?_ ?_
   | refine LeO.bind ?_ (fun _=>?_)
set_option maxHeartbeats 8000000 in
set_option maxRecDepth 100000 in
theorem resync_Turn.calls (k : Nat) (Ze : Int) (Zf : Int) (Zg : Int) (Zh : Int) (Zi : Int) (Zj : Int) (Zk : Int) (Zl : Int) (Zm : Int) (Zn : Int) (QD : Int) (QE : Int) (QF : Int) (QG : Int) (QH : Int) (QI : Int) (Qc : Int) (Qd : Int) (Qe : Int) (Qg : Bool) (A2 : Option Addr) (c2 : Nat) (l2 : List Int) (r1 : Int) (r2 : Int) (r3 : Int) (r4 : Bool) (r5 : Int) (r6 : Int) (w : World) (hr2 : Kd.C (Kd.int .i64) w A2 l2.length l2) (hc2 : l2.length ≤ c2) (h : resync_Turn.f k Ze Zf Zg Zh Zi Zj Zk Zl Zm Zn QD QE QF QG QH QI Qc Qd Qe Qg l2 = some (r1,r2,r3,r4,r5,r6)) :
  Calls Try.prog 9 #[.agg #[.int .i64 Ze,.int .i64 Zf,.int .i64 Zg,.int .i64 Zh,.int .i64 Zi,.int .i64 Zj,.int .i64 Zk,.int .i64 Zl,.int .i64 Zm,.int .i64 Zn,.int .i64 QD,.int .i64 QE,.int .i64 QF,.int .i64 QG,.int .i64 QH,.int .i64 QI],.agg #[.int .i64 Qc,.int .i64 Qd,.int .i64 Qe,.bool Qg],.slice A2 l2.length c2] w fun e w'=>e = .returned (.tuple #[.agg #[.int .i64 r1,.int .i64 r2,.int .i64 r3,.bool r4],.int .i64 r5,.int .i64 r6])∧Below w.heap.size w w':=by
 have hu23:=Try.underlying23
 have hu25:=Try.underlying25
 have HR2:=Aside0.mk hr2
 have HC2:=Aside0.mk hc2
 clear hr2 hc2
 have HB:=Aside0.mk (Below.refl w.heap.size w)
 have H : ((resync_Correction.f k Ze Zf Zg Zh Zi Zj Zk Zl Zm Zn QD QE QF QG QH QI l2).bind fun QJ=>(if QJ.2 = 150 then (resync_Turn.j0 k QJ.1 QJ.2 true Qc Qd Qe Qg) else ((resync_may.f Qc Qd Qe Qg).bind fun Zv=>(resync_Turn.j0 k QJ.1 QJ.2 (!Zv) Qc Qd Qe Qg)))) = some (r1,r2,r3,r4,r5,r6):=h
 clear h
 replace H:=Option.bind_eq_some_iff.mp H
 obtain ⟨⟨Ql,QK⟩,A40,H⟩:=H
 replace H : (if QK = 150 then (resync_Turn.j0 k Ql QK true Qc Qd Qe Qg) else ((resync_may.f Qc Qd Qe Qg).bind fun Zv=>(resync_Turn.j0 k Ql QK (!Zv) Qc Qd Qe Qg))) = some (r1,r2,r3,r4,r5,r6):=H
 have A4:=Aside0.mk A40
 clear A40
 have HC5:=Aside0.mk H
 clear H
 go_enter Try.func9,Try.ntmps9
 go_upto_region 2 with (first|((with_reducible refine gate_dst (N:=3) rfl ?_);refine box_event ?hg (N:=3) ?hd (cs:=#[.int .i64 Ze,.int .i64 Zf,.int .i64 Zg,.int .i64 Zh,.int .i64 Zi,.int .i64 Zj,.int .i64 Zk,.int .i64 Zl,.int .i64 Zm,.int .i64 Zn,.int .i64 QD,.int .i64 QE,.int .i64 QF,.int .i64 QG,.int .i64 QH,.int .i64 QI]) (t:=23) ?hr ?_;(case hd=>rfl);(case hg=>rfl);(case hr=>first|(go_simp;done)|(go_simp;rfl));intro Qu hg w6 hbox hb;have n0_:=ks_ HB hb;have n1_:=Aside0.mk (hbox);have n2_:=Aside0.mk ((by rw [hg];exact (kz_ HB) : w.heap.size ≤ Qu));have n3_:=Aside0.mk ((by rw [hg];exact (kz_ HB) : w.heap.size ≤ Qu));clear HB;have HB:=n0_;have Qb:=n1_;have GW122:=n2_;have QR:=n3_;clear n0_ n1_ n2_ n3_;clear hb hbox hg)|((with_reducible refine gate_dst (N:=4) rfl ?_);refine box_event ?hg (N:=4) ?hd (cs:=#[.int .i64 Qc,.int .i64 Qd,.int .i64 Qe,.bool Qg]) (t:=25) ?hr ?_;(case hd=>rfl);(case hg=>rfl);(case hr=>first|(go_simp;done)|(go_simp;rfl));intro Qz hg w7 hbox hb;have n0_:=kb_ Qb hb;have n1_:=ks_ HB hb;have n2_:=Aside0.mk (hbox);have n3_:=Aside0.mk ((by rw [hg];exact (kz_ HB) : w.heap.size ≤ Qz));have n4_:=Aside0.mk ((by rw [hg];exact (kz_ HB) : w.heap.size ≤ Qz));have n5_:=nl_ Qb hg;have n6_:=ng_ Qb hg;clear Qb;clear HB;have Qb:=n0_;have HB:=n1_;have Qh:=n2_;have GW123:=n3_;have QS:=n4_;have QO:=n5_;have QP:=n6_;clear n0_ n1_ n2_ n3_ n4_ n5_ n6_;clear hb hbox hg)|((with_reducible refine gate_dst (N:=6) rfl ?_);refine box_event ?hg (N:=6) ?hd (cs:=#[.int .i64 0,.int .i64 0,.int .i64 0,.bool false]) (t:=25) ?hr ?_;(case hd=>rfl);(case hg=>rfl);(case hr=>first|(go_simp;done)|(go_simp;rfl));intro Qf hg w8 hbox hb;have n0_:=kb_ Qb hb;have n1_:=kb_ Qh hb;have n2_:=ks_ HB hb;have n3_:=Aside0.mk (hbox);have n4_:=Aside0.mk ((by rw [hg];exact (kz_ HB) : w.heap.size ≤ Qf));have n5_:=Aside0.mk ((by rw [hg];exact (kz_ HB) : w.heap.size ≤ Qf));have n6_:=nl_ Qb hg;have n7_:=ng_ Qb hg;have n8_:=nl_ Qh hg;have n9_:=ng_ Qh hg;clear Qb;clear Qh;clear HB;have Qb:=n0_;have Qh:=n1_;have HB:=n2_;have Qa:=n3_;have GW124:=n4_;have QT:=n5_;have Qm:=n6_;have Qv:=n7_;have Qi:=n8_;have Qt:=n9_;clear n0_ n1_ n2_ n3_ n4_ n5_ n6_ n7_ n8_ n9_;clear hb hbox hg;have hnb9:=QO.out;have hnc9:=QP.out;have hnb10:=Qm.out;have hnc10:=Qv.out;have hcz11_0 : w8.cell? ⟨Qu,0,none⟩ = some (.int .i64 Ze):=(blk_cell Qb.out 0).trans rfl;have hcz11_1 : w8.cell? ⟨Qu,1,none⟩ = some (.int .i64 Zf):=(blk_cell Qb.out 1).trans rfl;have hcz11_2 : w8.cell? ⟨Qu,2,none⟩ = some (.int .i64 Zg):=(blk_cell Qb.out 2).trans rfl;have hcz11_3 : w8.cell? ⟨Qu,3,none⟩ = some (.int .i64 Zh):=(blk_cell Qb.out 3).trans rfl;have hcz11_4 : w8.cell? ⟨Qu,4,none⟩ = some (.int .i64 Zi):=(blk_cell Qb.out 4).trans rfl;have hcz11_5 : w8.cell? ⟨Qu,5,none⟩ = some (.int .i64 Zj):=(blk_cell Qb.out 5).trans rfl;have hcz11_6 : w8.cell? ⟨Qu,6,none⟩ = some (.int .i64 Zk):=(blk_cell Qb.out 6).trans rfl;have hcz11_7 : w8.cell? ⟨Qu,7,none⟩ = some (.int .i64 Zl):=(blk_cell Qb.out 7).trans rfl;have hcz11_8 : w8.cell? ⟨Qu,8,none⟩ = some (.int .i64 Zm):=(blk_cell Qb.out 8).trans rfl;have hcz11_9 : w8.cell? ⟨Qu,9,none⟩ = some (.int .i64 Zn):=(blk_cell Qb.out 9).trans rfl;have hcz11_10 : w8.cell? ⟨Qu,10,none⟩ = some (.int .i64 QD):=(blk_cell Qb.out 10).trans rfl;have hcz11_11 : w8.cell? ⟨Qu,11,none⟩ = some (.int .i64 QE):=(blk_cell Qb.out 11).trans rfl;have hcz11_12 : w8.cell? ⟨Qu,12,none⟩ = some (.int .i64 QF):=(blk_cell Qb.out 12).trans rfl;have hcz11_13 : w8.cell? ⟨Qu,13,none⟩ = some (.int .i64 QG):=(blk_cell Qb.out 13).trans rfl;have hcz11_14 : w8.cell? ⟨Qu,14,none⟩ = some (.int .i64 QH):=(blk_cell Qb.out 14).trans rfl;have hcz11_15 : w8.cell? ⟨Qu,15,none⟩ = some (.int .i64 QI):=(blk_cell Qb.out 15).trans rfl;have hfz11_0:=blk_frozen Qb.out 0;have hfz11_1:=blk_frozen Qb.out 1;have hfz11_2:=blk_frozen Qb.out 2;have hfz11_3:=blk_frozen Qb.out 3;have hfz11_4:=blk_frozen Qb.out 4;have hfz11_5:=blk_frozen Qb.out 5;have hfz11_6:=blk_frozen Qb.out 6;have hfz11_7:=blk_frozen Qb.out 7;have hfz11_8:=blk_frozen Qb.out 8;have hfz11_9:=blk_frozen Qb.out 9;have hfz11_10:=blk_frozen Qb.out 10;have hfz11_11:=blk_frozen Qb.out 11;have hfz11_12:=blk_frozen Qb.out 12;have hfz11_13:=blk_frozen Qb.out 13;have hfz11_14:=blk_frozen Qb.out 14;have hfz11_15:=blk_frozen Qb.out 15)|((with_reducible refine gate_callee (f:=7) rfl ?_);refine goesL_ (some 12) rfl rfl Try.func7 (by kernel_rfl) rfl #[.agg #[.int .i64 Ze,.int .i64 Zf,.int .i64 Zg,.int .i64 Zh,.int .i64 Zi,.int .i64 Zj,.int .i64 Zk,.int .i64 Zl,.int .i64 Zm,.int .i64 Zn,.int .i64 QD,.int .i64 QE,.int .i64 QF,.int .i64 QG,.int .i64 QH,.int .i64 QI],.slice A2 l2.length c2] rfl (by (try simp only [List.map_toArray,List.map_cons,List.map_nil]);first|done|rfl|(simp only [List.length_drop,List.length_take];rfl)) ?_;(with_reducible refine (resync_Correction.calls k Ze Zf Zg Zh Zi Zj Zk Zl Zm Zn QD QE QF QG QH QI _ _ l2 Ql QK _ ?side1 ?side2 A4.out).mono ?_);(case side1=>repeat (first|exact (Kd.C_below HR2.out HB.out)|(with_reducible refine Kd.C_alloc ?_ _)|(with_reducible refine Kd.C_drewN ?_ _)|(with_reducible refine Kd.C_drew ?_)));(case side2=>exact HC2.out);rintro e w12 ⟨rfl,hb⟩;refine ⟨_,rfl,?_⟩;have n0_:=kb_ Qb hb;have n1_:=kb_ Qh hb;have n2_:=kb_ Qa hb;have n3_:=ks_ HB hb;clear Qb;clear Qh;clear Qa;clear HB;have Qb:=n0_;have Qh:=n1_;have Qa:=n2_;have HB:=n3_;clear n0_ n1_ n2_ n3_;(try clear hb);(try clear hb2);(try clear hk);(try clear hi)))
 (try simp only [Act.put,List.setIfInBounds_toArray,List.set_cons_zero,List.set_cons_succ])
 go_cut [21] (fun v21 wc=>∃ (kq : Nat) (x21_4 : Bool),v21 = .bool x21_4∧Aside0 (resync_Turn.j0 kq Ql QK x21_4 Qc Qd Qe Qg = some (r1,r2,r3,r4,r5,r6))∧Aside0 (kq ≤ k)∧Aside0 (wc.heap[Qu]? = some (.cells #[.int .i64 Ze,.int .i64 Zf,.int .i64 Zg,.int .i64 Zh,.int .i64 Zi,.int .i64 Zj,.int .i64 Zk,.int .i64 Zl,.int .i64 Zm,.int .i64 Zn,.int .i64 QD,.int .i64 QE,.int .i64 QF,.int .i64 QG,.int .i64 QH,.int .i64 QI] 23 (0,0)))∧Aside0 (wc.heap[Qz]? = some (.cells #[.int .i64 Qc,.int .i64 Qd,.int .i64 Qe,.bool Qg] 25 (0,0)))∧Aside0 (wc.heap[Qf]? = some (.cells #[.int .i64 0,.int .i64 0,.int .i64 0,.bool false] 25 (0,0)))∧Aside0 (Below w.heap.size w wc))
 case first =>
  have H:=HC5.out
  clear HC5
  by_cases c13 : QK = 150
  ·rw [if_pos c13] at H
   have c13b0 : (QK == 150) = true:=beq_iff_eq.mpr c13
   have c13b1 : (QK != 150) = false:=bne_eq_false_iff_eq.mpr c13
   clear c13
   (first|rw [c13b0]|(simp only [i64_w,i32_w];rw [c13b0])|skip)
   have H':=Aside0.mk H
   clear H
   go_wp2
   go_meet
   case rel=>exact ⟨_,(true),(by first|rfl|(simp;done)|(simp [*];done)),H',⟨by first|omega|exact Nat.le_refl _⟩,⟨by (with_reducible repeat (first|refine blk_drewN ?_ _|refine blk_drew ?_|refine blk_alloc ?_ _));exact Qb.out⟩,⟨by (with_reducible repeat (first|refine blk_drewN ?_ _|refine blk_drew ?_|refine blk_alloc ?_ _));exact Qh.out⟩,⟨by (with_reducible repeat (first|refine blk_drewN ?_ _|refine blk_drew ?_|refine blk_alloc ?_ _));exact Qa.out⟩,⟨by repeat (first|(with_reducible first|exact HB.out|apply below_alloc|apply pw_below_drewN|apply below_drew1|refine below_set ?_ QR.out|refine below_set ?_ QS.out|refine below_set ?_ QT.out)|exact HB.out)⟩⟩
  ·rw [if_neg c13] at H
   have c13b0 : (QK == 150) = false:=beq_eq_false_iff_ne.mpr c13
   have c13b1 : (QK != 150) = true:=bne_iff_ne.mpr c13
   (first|rw [c13b0]|(simp only [i64_w,i32_w];rw [c13b0])|skip)
   replace H:=Option.bind_eq_some_iff.mp H
   obtain ⟨Zv,A140,H⟩:=H
   replace H : (resync_Turn.j0 k Ql QK (!Zv) Qc Qd Qe Qg) = some (r1,r2,r3,r4,r5,r6):=H
   have A14:=Aside0.mk A140
   clear A140
   have H':=Aside0.mk H
   clear H
   have hnb15:=QP.out
   have hnc15:=QO.out
   have hnb16:=Qi.out
   have hnc16:=Qt.out
   have hcz17_0 : w12.cell? ⟨Qz,0,none⟩ = some (.int .i64 Qc):=(blk_cell Qh.out 0).trans rfl
   have hcz17_1 : w12.cell? ⟨Qz,1,none⟩ = some (.int .i64 Qd):=(blk_cell Qh.out 1).trans rfl
   have hcz17_2 : w12.cell? ⟨Qz,2,none⟩ = some (.int .i64 Qe):=(blk_cell Qh.out 2).trans rfl
   have hcz17_3 : w12.cell? ⟨Qz,3,none⟩ = some (.bool Qg):=(blk_cell Qh.out 3).trans rfl
   have hfz17_0:=blk_frozen Qh.out 0
   have hfz17_1:=blk_frozen Qh.out 1
   have hfz17_2:=blk_frozen Qh.out 2
   have hfz17_3:=blk_frozen Qh.out 3
   go_wp2_with (first|(go_at_call 22;(with_reducible refine (resync_may.calls Qc Qd Qe Qg Zv _ A14.out).mono ?_);rintro e w18 ⟨rfl,hb⟩;have n0_:=kb_ Qb hb;have n1_:=kb_ Qh hb;have n2_:=kb_ Qa hb;have n3_:=ks_ HB hb;clear Qb;clear Qh;clear Qa;clear HB;have Qb:=n0_;have Qh:=n1_;have Qa:=n2_;have HB:=n3_;clear n0_ n1_ n2_ n3_;(try clear hb);(try clear hb2);(try clear hk);(try clear hi)))
   go_meet
   case rel=>exact ⟨_,(!Zv),(by first|rfl|(simp;done)|(simp [*];done)),H',⟨by first|omega|exact Nat.le_refl _⟩,⟨by (with_reducible repeat (first|refine blk_drewN ?_ _|refine blk_drew ?_|refine blk_alloc ?_ _));exact Qb.out⟩,⟨by (with_reducible repeat (first|refine blk_drewN ?_ _|refine blk_drew ?_|refine blk_alloc ?_ _));exact Qh.out⟩,⟨by (with_reducible repeat (first|refine blk_drewN ?_ _|refine blk_drew ?_|refine blk_alloc ?_ _));exact Qa.out⟩,⟨by repeat (first|(with_reducible first|exact HB.out|apply below_alloc|apply pw_below_drewN|apply below_drew1|refine below_set ?_ QR.out|refine below_set ?_ QS.out|refine below_set ?_ QT.out)|exact HB.out)⟩⟩
 case rest =>
  clear HC5
  try clear c1
  try clear c2
  try clear p2
  try clear c7
  try clear c9
  try clear c10
  try clear c13
  try clear c13b0
  try clear c13b1
  try clear c15
  try clear c16
  try clear hcz11_0
  try clear hcz11_1
  try clear hcz11_10
  try clear hcz11_11
  try clear hcz11_12
  try clear hcz11_13
  try clear hcz11_14
  try clear hcz11_15
  try clear hcz11_2
  try clear hcz11_3
  try clear hcz11_4
  try clear hcz11_5
  try clear hcz11_6
  try clear hcz11_7
  try clear hcz11_8
  try clear hcz11_9
  try clear hcz17_0
  try clear hcz17_1
  try clear hcz17_2
  try clear hcz17_3
  try clear hfz11_0
  try clear hfz11_1
  try clear hfz11_10
  try clear hfz11_11
  try clear hfz11_12
  try clear hfz11_13
  try clear hfz11_14
  try clear hfz11_15
  try clear hfz11_2
  try clear hfz11_3
  try clear hfz11_4
  try clear hfz11_5
  try clear hfz11_6
  try clear hfz11_7
  try clear hfz11_8
  try clear hfz11_9
  try clear hfz17_0
  try clear hfz17_1
  try clear hfz17_2
  try clear hfz17_3
  obtain ⟨kq,x21_4,rfl,HA,HJ4,Qb,Qh,Qa,HB⟩:=hcut
  cases kq with
  | zero=>exact absurd HA.out (by simp [resync_Turn.j0])
  | succ kj4 =>
   have H:=HA.out
   clear HA
   simp only [resync_Turn.j0] at H
   by_cases c19 : x21_4 = true
   ·subst c19
    have H1 : (some (0,0,0,false,0,150)) = some (r1,r2,r3,r4,r5,r6):=by rw [if_pos rfl] at H;exact H
    clear H
    have H:=H1
    clear H1
    simp only [Option.some.injEq,Prod.mk.injEq] at H
    obtain ⟨rfl,rfl,rfl,rfl,rfl,rfl⟩:=H
    have hnb20:=Qv.out
    have hnc20:=Qm.out
    have hnb21:=Qt.out
    have hnc21:=Qi.out
    have hcz22_0 : wc.cell? ⟨Qf,0,none⟩ = some (.int .i64 0):=(blk_cell Qa.out 0).trans rfl
    have hcz22_1 : wc.cell? ⟨Qf,1,none⟩ = some (.int .i64 0):=(blk_cell Qa.out 1).trans rfl
    have hcz22_2 : wc.cell? ⟨Qf,2,none⟩ = some (.int .i64 0):=(blk_cell Qa.out 2).trans rfl
    have hcz22_3 : wc.cell? ⟨Qf,3,none⟩ = some (.bool false):=(blk_cell Qa.out 3).trans rfl
    have hfz22_0:=blk_frozen Qa.out 0
    have hfz22_1:=blk_frozen Qa.out 1
    have hfz22_2:=blk_frozen Qa.out 2
    have hfz22_3:=blk_frozen Qa.out 3
    go_wp2
    refine bodyPost_ret (results_ctt rfl _ _ Qf 25 #[.int .i64 0,.int .i64 0,.int .i64 0,.bool false] (0,0) _ rfl (by (with_reducible repeat (first|refine blk_drewN ?_ _|refine blk_drew ?_|refine blk_alloc ?_ _));refine blk_put (cs:=#[.int .i64 0,.int .i64 0,.int .i64 0,.bool false]) ?_ 3 _ rfl;(with_reducible repeat (first|refine blk_drewN ?_ _|refine blk_drew ?_|refine blk_alloc ?_ _));refine blk_put (cs:=#[.int .i64 0,.int .i64 0,.int .i64 0,.bool false]) ?_ 2 _ rfl;(with_reducible repeat (first|refine blk_drewN ?_ _|refine blk_drew ?_|refine blk_alloc ?_ _));refine blk_put (cs:=#[.int .i64 0,.int .i64 0,.int .i64 0,.bool false]) ?_ 1 _ rfl;(with_reducible repeat (first|refine blk_drewN ?_ _|refine blk_drew ?_|refine blk_alloc ?_ _));refine blk_put (cs:=#[.int .i64 0,.int .i64 0,.int .i64 0,.bool false]) ?_ 0 _ rfl;(with_reducible repeat (first|refine blk_drewN ?_ _|refine blk_drew ?_|refine blk_alloc ?_ _));exact Qa.out) Try.underlying25 rfl (by kernel_rfl)) rfl ?_
    exact ⟨by first|rfl|(simp [errW_none,errW_some] <;> rfl)|(simp [*,errW_none,errW_some] <;> rfl),by repeat (first|(with_reducible first|exact HB.out|apply below_alloc|apply pw_below_drewN|apply below_drew1|refine below_set ?_ QR.out|refine below_set ?_ QS.out|refine below_set ?_ QT.out)|exact HB.out)⟩
   ·replace c19:=Bool.eq_false_iff.mpr c19
    subst c19
    have H1 : (if QK = 151 then (resync_Turn.j1 kj4 Ql true Qc Qd Qe Qg) else (resync_Turn.j1 kj4 Ql Qg Qc Qd Qe Qg)) = some (r1,r2,r3,r4,r5,r6):=by rw [if_neg (show ¬ (false = true) by decide)] at H;exact H
    clear H
    have H:=H1
    clear H1
    have HC23:=Aside0.mk H
    clear H
    have hnb24:=QP.out
    have hnc24:=QO.out
    have hnb25:=Qi.out
    have hnc25:=Qt.out
    have hcz26_0 : wc.cell? ⟨Qz,0,none⟩ = some (.int .i64 Qc):=(blk_cell Qh.out 0).trans rfl
    have hcz26_1 : wc.cell? ⟨Qz,1,none⟩ = some (.int .i64 Qd):=(blk_cell Qh.out 1).trans rfl
    have hcz26_2 : wc.cell? ⟨Qz,2,none⟩ = some (.int .i64 Qe):=(blk_cell Qh.out 2).trans rfl
    have hcz26_3 : wc.cell? ⟨Qz,3,none⟩ = some (.bool Qg):=(blk_cell Qh.out 3).trans rfl
    have hfz26_0:=blk_frozen Qh.out 0
    have hfz26_1:=blk_frozen Qh.out 1
    have hfz26_2:=blk_frozen Qh.out 2
    have hfz26_3:=blk_frozen Qh.out 3
    have hnb27:=Qv.out
    have hnc27:=Qm.out
    have hcz28_0 : wc.cell? ⟨Qf,0,none⟩ = some (.int .i64 0):=(blk_cell Qa.out 0).trans rfl
    have hcz28_1 : wc.cell? ⟨Qf,1,none⟩ = some (.int .i64 0):=(blk_cell Qa.out 1).trans rfl
    have hcz28_2 : wc.cell? ⟨Qf,2,none⟩ = some (.int .i64 0):=(blk_cell Qa.out 2).trans rfl
    have hcz28_3 : wc.cell? ⟨Qf,3,none⟩ = some (.bool false):=(blk_cell Qa.out 3).trans rfl
    have hfz28_0:=blk_frozen Qa.out 0
    have hfz28_1:=blk_frozen Qa.out 1
    have hfz28_2:=blk_frozen Qa.out 2
    have hfz28_3:=blk_frozen Qa.out 3
    go_upto_region 5 with (fail)
    go_cut [29] (fun v29 wc=>∃ (kq : Nat) (Zw : Bool),v29 = .bool Zw∧Aside0 (resync_Turn.j1 kq Ql Zw Qc Qd Qe Qg = some (r1,r2,r3,r4,r5,r6))∧Aside0 (kq ≤ kj4)∧Aside0 (wc.heap[Qu]? = some (.cells #[.int .i64 Ze,.int .i64 Zf,.int .i64 Zg,.int .i64 Zh,.int .i64 Zi,.int .i64 Zj,.int .i64 Zk,.int .i64 Zl,.int .i64 Zm,.int .i64 Zn,.int .i64 QD,.int .i64 QE,.int .i64 QF,.int .i64 QG,.int .i64 QH,.int .i64 QI] 23 (0,0)))∧Aside0 (wc.heap[Qz]? = some (.cells #[.int .i64 Qc,.int .i64 Qd,.int .i64 Qe,.bool Qg] 25 (0,0)))∧Aside0 (wc.heap[Qf]? = some (.cells #[.int .i64 Qc,.int .i64 Qd,.int .i64 Qe,.bool Qg] 25 (0,0)))∧Aside0 (Below w.heap.size w wc))
    case first =>
     have H:=HC23.out
     clear HC23
     by_cases c29 : QK = 151
     ·rw [if_pos c29] at H
      have c29b0 : (QK == 151) = true:=beq_iff_eq.mpr c29
      have c29b1 : (QK != 151) = false:=bne_eq_false_iff_eq.mpr c29
      clear c29
      (first|rw [c29b0]|(simp only [i64_w,i32_w];rw [c29b0])|skip)
      have H':=Aside0.mk H
      clear H
      go_wp2
      go_meet
      case rel=>exact ⟨_,(true),(by first|rfl|(simp;done)|(simp [*];done)),H',⟨by have:=HJ4.out;first|omega|exact Nat.le_refl _⟩,⟨by (with_reducible repeat (first|refine blk_drewN ?_ _|refine blk_drew ?_|refine blk_alloc ?_ _));refine blk_far ?_ Qm.out _;(with_reducible repeat (first|refine blk_drewN ?_ _|refine blk_drew ?_|refine blk_alloc ?_ _));refine blk_far ?_ Qm.out _;(with_reducible repeat (first|refine blk_drewN ?_ _|refine blk_drew ?_|refine blk_alloc ?_ _));refine blk_far ?_ Qm.out _;(with_reducible repeat (first|refine blk_drewN ?_ _|refine blk_drew ?_|refine blk_alloc ?_ _));refine blk_far ?_ Qm.out _;(with_reducible repeat (first|refine blk_drewN ?_ _|refine blk_drew ?_|refine blk_alloc ?_ _));exact Qb.out⟩,⟨by (with_reducible repeat (first|refine blk_drewN ?_ _|refine blk_drew ?_|refine blk_alloc ?_ _));refine blk_far ?_ Qi.out _;(with_reducible repeat (first|refine blk_drewN ?_ _|refine blk_drew ?_|refine blk_alloc ?_ _));refine blk_far ?_ Qi.out _;(with_reducible repeat (first|refine blk_drewN ?_ _|refine blk_drew ?_|refine blk_alloc ?_ _));refine blk_far ?_ Qi.out _;(with_reducible repeat (first|refine blk_drewN ?_ _|refine blk_drew ?_|refine blk_alloc ?_ _));refine blk_far ?_ Qi.out _;(with_reducible repeat (first|refine blk_drewN ?_ _|refine blk_drew ?_|refine blk_alloc ?_ _));exact Qh.out⟩,⟨by (with_reducible repeat (first|refine blk_drewN ?_ _|refine blk_drew ?_|refine blk_alloc ?_ _));refine blk_put (cs:=#[.int .i64 Qc,.int .i64 Qd,.int .i64 Qe,.bool false]) ?_ 3 _ rfl;(with_reducible repeat (first|refine blk_drewN ?_ _|refine blk_drew ?_|refine blk_alloc ?_ _));refine blk_put (cs:=#[.int .i64 Qc,.int .i64 Qd,.int .i64 0,.bool false]) ?_ 2 _ rfl;(with_reducible repeat (first|refine blk_drewN ?_ _|refine blk_drew ?_|refine blk_alloc ?_ _));refine blk_put (cs:=#[.int .i64 Qc,.int .i64 0,.int .i64 0,.bool false]) ?_ 1 _ rfl;(with_reducible repeat (first|refine blk_drewN ?_ _|refine blk_drew ?_|refine blk_alloc ?_ _));refine blk_put (cs:=#[.int .i64 0,.int .i64 0,.int .i64 0,.bool false]) ?_ 0 _ rfl;(with_reducible repeat (first|refine blk_drewN ?_ _|refine blk_drew ?_|refine blk_alloc ?_ _));exact Qa.out⟩,⟨by repeat (first|(with_reducible first|exact HB.out|apply below_alloc|apply pw_below_drewN|apply below_drew1|refine below_set ?_ QR.out|refine below_set ?_ QS.out|refine below_set ?_ QT.out)|exact HB.out)⟩⟩
     ·rw [if_neg c29] at H
      have c29b0 : (QK == 151) = false:=beq_eq_false_iff_ne.mpr c29
      have c29b1 : (QK != 151) = true:=bne_iff_ne.mpr c29
      (first|rw [c29b0]|(simp only [i64_w,i32_w];rw [c29b0])|skip)
      have H':=Aside0.mk H
      clear H
      have hnb30:=QP.out
      have hnc30:=QO.out
      have hnb31:=Qi.out
      have hnc31:=Qt.out
      have hcz32_0 : wc.cell? ⟨Qz,0,none⟩ = some (.int .i64 Qc):=(blk_cell Qh.out 0).trans rfl
      have hcz32_1 : wc.cell? ⟨Qz,1,none⟩ = some (.int .i64 Qd):=(blk_cell Qh.out 1).trans rfl
      have hcz32_2 : wc.cell? ⟨Qz,2,none⟩ = some (.int .i64 Qe):=(blk_cell Qh.out 2).trans rfl
      have hcz32_3 : wc.cell? ⟨Qz,3,none⟩ = some (.bool Qg):=(blk_cell Qh.out 3).trans rfl
      have hfz32_0:=blk_frozen Qh.out 0
      have hfz32_1:=blk_frozen Qh.out 1
      have hfz32_2:=blk_frozen Qh.out 2
      have hfz32_3:=blk_frozen Qh.out 3
      go_wp2
      go_meet
      case rel=>exact ⟨_,(Qg),(by first|rfl|(simp;done)|(simp [*];done)),H',⟨by have:=HJ4.out;first|omega|exact Nat.le_refl _⟩,⟨by (with_reducible repeat (first|refine blk_drewN ?_ _|refine blk_drew ?_|refine blk_alloc ?_ _));refine blk_far ?_ Qm.out _;(with_reducible repeat (first|refine blk_drewN ?_ _|refine blk_drew ?_|refine blk_alloc ?_ _));refine blk_far ?_ Qm.out _;(with_reducible repeat (first|refine blk_drewN ?_ _|refine blk_drew ?_|refine blk_alloc ?_ _));refine blk_far ?_ Qm.out _;(with_reducible repeat (first|refine blk_drewN ?_ _|refine blk_drew ?_|refine blk_alloc ?_ _));refine blk_far ?_ Qm.out _;(with_reducible repeat (first|refine blk_drewN ?_ _|refine blk_drew ?_|refine blk_alloc ?_ _));exact Qb.out⟩,⟨by (with_reducible repeat (first|refine blk_drewN ?_ _|refine blk_drew ?_|refine blk_alloc ?_ _));refine blk_far ?_ Qi.out _;(with_reducible repeat (first|refine blk_drewN ?_ _|refine blk_drew ?_|refine blk_alloc ?_ _));refine blk_far ?_ Qi.out _;(with_reducible repeat (first|refine blk_drewN ?_ _|refine blk_drew ?_|refine blk_alloc ?_ _));refine blk_far ?_ Qi.out _;(with_reducible repeat (first|refine blk_drewN ?_ _|refine blk_drew ?_|refine blk_alloc ?_ _));refine blk_far ?_ Qi.out _;(with_reducible repeat (first|refine blk_drewN ?_ _|refine blk_drew ?_|refine blk_alloc ?_ _));exact Qh.out⟩,⟨by (with_reducible repeat (first|refine blk_drewN ?_ _|refine blk_drew ?_|refine blk_alloc ?_ _));refine blk_put (cs:=#[.int .i64 Qc,.int .i64 Qd,.int .i64 Qe,.bool false]) ?_ 3 _ rfl;(with_reducible repeat (first|refine blk_drewN ?_ _|refine blk_drew ?_|refine blk_alloc ?_ _));refine blk_put (cs:=#[.int .i64 Qc,.int .i64 Qd,.int .i64 0,.bool false]) ?_ 2 _ rfl;(with_reducible repeat (first|refine blk_drewN ?_ _|refine blk_drew ?_|refine blk_alloc ?_ _));refine blk_put (cs:=#[.int .i64 Qc,.int .i64 0,.int .i64 0,.bool false]) ?_ 1 _ rfl;(with_reducible repeat (first|refine blk_drewN ?_ _|refine blk_drew ?_|refine blk_alloc ?_ _));refine blk_put (cs:=#[.int .i64 0,.int .i64 0,.int .i64 0,.bool false]) ?_ 0 _ rfl;(with_reducible repeat (first|refine blk_drewN ?_ _|refine blk_drew ?_|refine blk_alloc ?_ _));exact Qa.out⟩,⟨by repeat (first|(with_reducible first|exact HB.out|apply below_alloc|apply pw_below_drewN|apply below_drew1|refine below_set ?_ QR.out|refine below_set ?_ QS.out|refine below_set ?_ QT.out)|exact HB.out)⟩⟩
    case rest =>
     clear HC23
     try clear c1
     try clear c2
     try clear p2
     try clear c3
     try clear c7
     try clear c9
     try clear c10
     try clear c13
     try clear c13b0
     try clear c13b1
     try clear c15
     try clear c16
     try clear c19
     try clear c20
     try clear c21
     try clear c24
     try clear c25
     try clear c27
     try clear c29
     try clear c29b0
     try clear c29b1
     try clear c30
     try clear c31
     try clear hcz11_0
     try clear hcz11_1
     try clear hcz11_10
     try clear hcz11_11
     try clear hcz11_12
     try clear hcz11_13
     try clear hcz11_14
     try clear hcz11_15
     try clear hcz11_2
     try clear hcz11_3
     try clear hcz11_4
     try clear hcz11_5
     try clear hcz11_6
     try clear hcz11_7
     try clear hcz11_8
     try clear hcz11_9
     try clear hcz17_0
     try clear hcz17_1
     try clear hcz17_2
     try clear hcz17_3
     try clear hcz22_0
     try clear hcz22_1
     try clear hcz22_2
     try clear hcz22_3
     try clear hcz26_0
     try clear hcz26_1
     try clear hcz26_2
     try clear hcz26_3
     try clear hcz28_0
     try clear hcz28_1
     try clear hcz28_2
     try clear hcz28_3
     try clear hcz32_0
     try clear hcz32_1
     try clear hcz32_2
     try clear hcz32_3
     try clear hfz11_0
     try clear hfz11_1
     try clear hfz11_10
     try clear hfz11_11
     try clear hfz11_12
     try clear hfz11_13
     try clear hfz11_14
     try clear hfz11_15
     try clear hfz11_2
     try clear hfz11_3
     try clear hfz11_4
     try clear hfz11_5
     try clear hfz11_6
     try clear hfz11_7
     try clear hfz11_8
     try clear hfz11_9
     try clear hfz17_0
     try clear hfz17_1
     try clear hfz17_2
     try clear hfz17_3
     try clear hfz22_0
     try clear hfz22_1
     try clear hfz22_2
     try clear hfz22_3
     try clear hfz26_0
     try clear hfz26_1
     try clear hfz26_2
     try clear hfz26_3
     try clear hfz28_0
     try clear hfz28_1
     try clear hfz28_2
     try clear hfz28_3
     try clear hfz32_0
     try clear hfz32_1
     try clear hfz32_2
     try clear hfz32_3
     try clear p2
     obtain ⟨kq,Zw,rfl,HA,HJ22,Qb,Qh,Qa,HB⟩:=hcut
     cases kq with
     | zero=>exact absurd HA.out (by simp [resync_Turn.j1])
     | succ kj22 =>
      have H:=HA.out
      clear HA
      simp only [resync_Turn.j1] at H
      by_cases c33 : Zw = true
      ·subst c33
       have H1 : (some (Qc,Qd,Qe,true,0,151)) = some (r1,r2,r3,r4,r5,r6):=by rw [if_pos rfl] at H;exact H
       clear H
       have H:=H1
       clear H1
       simp only [Option.some.injEq,Prod.mk.injEq] at H
       obtain ⟨rfl,rfl,rfl,rfl,rfl,rfl⟩:=H
       have hnb34:=Qv.out
       have hnc34:=Qm.out
       have hnb35:=Qt.out
       have hnc35:=Qi.out
       have hcz36_0 : wc.cell? ⟨Qf,0,none⟩ = some (.int .i64 Qc):=(blk_cell Qa.out 0).trans rfl
       have hcz36_1 : wc.cell? ⟨Qf,1,none⟩ = some (.int .i64 Qd):=(blk_cell Qa.out 1).trans rfl
       have hcz36_2 : wc.cell? ⟨Qf,2,none⟩ = some (.int .i64 Qe):=(blk_cell Qa.out 2).trans rfl
       have hcz36_3 : wc.cell? ⟨Qf,3,none⟩ = some (.bool Qg):=(blk_cell Qa.out 3).trans rfl
       have hfz36_0:=blk_frozen Qa.out 0
       have hfz36_1:=blk_frozen Qa.out 1
       have hfz36_2:=blk_frozen Qa.out 2
       have hfz36_3:=blk_frozen Qa.out 3
       go_wp2
       refine bodyPost_ret (results_ctt rfl _ _ Qf 25 #[.int .i64 Qc,.int .i64 Qd,.int .i64 Qe,.bool true] (0,0) _ rfl (by (with_reducible repeat (first|refine blk_drewN ?_ _|refine blk_drew ?_|refine blk_alloc ?_ _));refine blk_put (cs:=#[.int .i64 Qc,.int .i64 Qd,.int .i64 Qe,.bool true]) ?_ 3 _ rfl;(with_reducible repeat (first|refine blk_drewN ?_ _|refine blk_drew ?_|refine blk_alloc ?_ _));refine blk_put (cs:=#[.int .i64 Qc,.int .i64 Qd,.int .i64 Qe,.bool true]) ?_ 2 _ rfl;(with_reducible repeat (first|refine blk_drewN ?_ _|refine blk_drew ?_|refine blk_alloc ?_ _));refine blk_put (cs:=#[.int .i64 Qc,.int .i64 Qd,.int .i64 Qe,.bool true]) ?_ 1 _ rfl;(with_reducible repeat (first|refine blk_drewN ?_ _|refine blk_drew ?_|refine blk_alloc ?_ _));refine blk_put (cs:=#[.int .i64 Qc,.int .i64 Qd,.int .i64 Qe,.bool true]) ?_ 0 _ rfl;(with_reducible repeat (first|refine blk_drewN ?_ _|refine blk_drew ?_|refine blk_alloc ?_ _));refine blk_put (cs:=#[.int .i64 Qc,.int .i64 Qd,.int .i64 Qe,.bool Qg]) ?_ 3 _ rfl;(with_reducible repeat (first|refine blk_drewN ?_ _|refine blk_drew ?_|refine blk_alloc ?_ _));exact Qa.out) Try.underlying25 rfl (by kernel_rfl)) rfl ?_
       exact ⟨by first|rfl|(simp [errW_none,errW_some] <;> rfl)|(simp [*,errW_none,errW_some] <;> rfl),by repeat (first|(with_reducible first|exact HB.out|apply below_alloc|apply pw_below_drewN|apply below_drew1|refine below_set ?_ QR.out|refine below_set ?_ QS.out|refine below_set ?_ QT.out)|exact HB.out)⟩
      ·replace c33:=Bool.eq_false_iff.mpr c33
       subst c33
       have H1 : (if Ql = 0 then ((resync_may.f (wrap64 (Qc + 1)) Qd (wrap64 (Qe + Ql)) Qg).bind fun t128=>(if t128 = true then (some (wrap64 (Qc + 1),Qd,wrap64 (Qe + Ql),Qg,Ql,0)) else (some (0,0,0,false,0,150)))) else ((resync_may.f (wrap64 (Qc + 1)) (wrap64 (Qd + 1)) (wrap64 (Qe + Ql)) Qg).bind fun t129=>(if t129 = true then (some (wrap64 (Qc + 1),wrap64 (Qd + 1),wrap64 (Qe + Ql),Qg,Ql,0)) else (some (0,0,0,false,0,150))))) = some (r1,r2,r3,r4,r5,r6):=by rw [if_neg (show ¬ (false = true) by decide)] at H;exact H
       clear H
       have H:=H1
       clear H1
       by_cases c37 : Ql = 0
       ·rw [if_pos c37] at H
        have c37b0 : (Ql == 0) = true:=beq_iff_eq.mpr c37
        have c37b1 : (Ql != 0) = false:=bne_eq_false_iff_eq.mpr c37
        clear c37
        replace H:=Option.bind_eq_some_iff.mp H
        obtain ⟨t128,A380,H⟩:=H
        replace H : (if t128 = true then (some (wrap64 (Qc + 1),Qd,wrap64 (Qe + Ql),Qg,Ql,0)) else (some (0,0,0,false,0,150))) = some (r1,r2,r3,r4,r5,r6):=H
        have A38:=Aside0.mk A380
        clear A380
        by_cases c39 : t128 = true
        ·subst c39
         have H1 : (some (wrap64 (Qc + 1),Qd,wrap64 (Qe + Ql),Qg,Ql,0)) = some (r1,r2,r3,r4,r5,r6):=by rw [if_pos rfl] at H;exact H
         clear H
         have H:=H1
         clear H1
         simp only [Option.some.injEq,Prod.mk.injEq] at H
         obtain ⟨rfl,rfl,rfl,rfl,rfl,rfl⟩:=H
         have hnb40:=Qv.out
         have hnc40:=Qm.out
         have hnb41:=Qt.out
         have hnc41:=Qi.out
         have hcz42_0 : wc.cell? ⟨Qf,0,none⟩ = some (.int .i64 Qc):=(blk_cell Qa.out 0).trans rfl
         have hcz42_1 : wc.cell? ⟨Qf,1,none⟩ = some (.int .i64 Qd):=(blk_cell Qa.out 1).trans rfl
         have hcz42_2 : wc.cell? ⟨Qf,2,none⟩ = some (.int .i64 Qe):=(blk_cell Qa.out 2).trans rfl
         have hcz42_3 : wc.cell? ⟨Qf,3,none⟩ = some (.bool Qg):=(blk_cell Qa.out 3).trans rfl
         have hfz42_0:=blk_frozen Qa.out 0
         have hfz42_1:=blk_frozen Qa.out 1
         have hfz42_2:=blk_frozen Qa.out 2
         have hfz42_3:=blk_frozen Qa.out 3
         go_wp2_with (first|((with_reducible refine gate_callee (f:=22) rfl ?_);refine goesL_ (some 48) rfl rfl Try.func22 (by kernel_rfl) rfl #[.agg #[.int .i64 (wrap64 (Qc + 1)),.int .i64 Qd,.int .i64 (wrap64 (Qe + Ql)),.bool Qg]] rfl (by (try simp only [List.map_toArray,List.map_cons,List.map_nil]);first|done|rfl|(simp only [List.length_drop,List.length_take];rfl)) ?_;(with_reducible refine (resync_may.calls (wrap64 (Qc + 1)) Qd (wrap64 (Qe + Ql)) Qg true _ A38.out).mono ?_);rintro e w43 ⟨rfl,hb⟩;refine ⟨_,rfl,?_⟩;have n0_:=kb_ Qb hb;have n1_:=kb_ Qh hb;have n2_:=Aside0.mk (blk_below (g:=Qf) (o:=.cells #[.int .i64 (wrap64 (Qc + 1)),.int .i64 Qd,.int .i64 (wrap64 (Qe + Ql)),.bool Qg] 25 (0,0)) (by (with_reducible repeat (first|refine blk_drewN ?_ _|refine blk_drew ?_|refine blk_alloc ?_ _));refine blk_put (cs:=#[.int .i64 (wrap64 (Qc + 1)),.int .i64 Qd,.int .i64 Qe,.bool Qg]) ?_ 2 _ rfl;(with_reducible repeat (first|refine blk_drewN ?_ _|refine blk_drew ?_|refine blk_alloc ?_ _));refine blk_put (cs:=#[.int .i64 Qc,.int .i64 Qd,.int .i64 Qe,.bool Qg]) ?_ 0 _ rfl;(with_reducible repeat (first|refine blk_drewN ?_ _|refine blk_drew ?_|refine blk_alloc ?_ _));exact Qa.out) hb);have n3_:=ks_ HB hb;clear Qb;clear Qh;clear Qa;clear HB;have Qb:=n0_;have Qh:=n1_;have Qa:=n2_;have HB:=n3_;clear n0_ n1_ n2_ n3_;(try clear hb);(try clear hb2);(try clear hk);(try clear hi);have hcz44_0 : w43.cell? ⟨Qf,0,none⟩ = some (.int .i64 (wrap64 (Qc + 1))):=(blk_cell Qa.out 0).trans rfl;have hcz44_1 : w43.cell? ⟨Qf,1,none⟩ = some (.int .i64 Qd):=(blk_cell Qa.out 1).trans rfl;have hcz44_2 : w43.cell? ⟨Qf,2,none⟩ = some (.int .i64 (wrap64 (Qe + Ql))):=(blk_cell Qa.out 2).trans rfl;have hcz44_3 : w43.cell? ⟨Qf,3,none⟩ = some (.bool Qg):=(blk_cell Qa.out 3).trans rfl;have hfz44_0:=blk_frozen Qa.out 0;have hfz44_1:=blk_frozen Qa.out 1;have hfz44_2:=blk_frozen Qa.out 2;have hfz44_3:=blk_frozen Qa.out 3))
         refine bodyPost_ret (results_ctt rfl _ _ Qf 25 #[.int .i64 (wrap64 (Qc + 1)),.int .i64 Qd,.int .i64 (wrap64 (Qe + Ql)),.bool Qg] (0,0) _ rfl (by (with_reducible repeat (first|refine blk_drewN ?_ _|refine blk_drew ?_|refine blk_alloc ?_ _));refine blk_put (cs:=#[.int .i64 (wrap64 (Qc + 1)),.int .i64 Qd,.int .i64 (wrap64 (Qe + Ql)),.bool Qg]) ?_ 3 _ rfl;(with_reducible repeat (first|refine blk_drewN ?_ _|refine blk_drew ?_|refine blk_alloc ?_ _));refine blk_put (cs:=#[.int .i64 (wrap64 (Qc + 1)),.int .i64 Qd,.int .i64 (wrap64 (Qe + Ql)),.bool Qg]) ?_ 2 _ rfl;(with_reducible repeat (first|refine blk_drewN ?_ _|refine blk_drew ?_|refine blk_alloc ?_ _));refine blk_put (cs:=#[.int .i64 (wrap64 (Qc + 1)),.int .i64 Qd,.int .i64 (wrap64 (Qe + Ql)),.bool Qg]) ?_ 1 _ rfl;(with_reducible repeat (first|refine blk_drewN ?_ _|refine blk_drew ?_|refine blk_alloc ?_ _));refine blk_put (cs:=#[.int .i64 (wrap64 (Qc + 1)),.int .i64 Qd,.int .i64 (wrap64 (Qe + Ql)),.bool Qg]) ?_ 0 _ rfl;(with_reducible repeat (first|refine blk_drewN ?_ _|refine blk_drew ?_|refine blk_alloc ?_ _));exact Qa.out) Try.underlying25 rfl (by kernel_rfl)) rfl ?_
         exact ⟨by first|rfl|(simp [errW_none,errW_some] <;> rfl)|(simp [*,errW_none,errW_some] <;> rfl),by repeat (first|(with_reducible first|exact HB.out|apply below_alloc|apply pw_below_drewN|apply below_drew1|refine below_set ?_ QR.out|refine below_set ?_ QS.out|refine below_set ?_ QT.out)|exact HB.out)⟩
        ·replace c39:=Bool.eq_false_iff.mpr c39
         subst c39
         have H1 : (some (0,0,0,false,0,150)) = some (r1,r2,r3,r4,r5,r6):=by rw [if_neg (show ¬ (false = true) by decide)] at H;exact H
         clear H
         have H:=H1
         clear H1
         simp only [Option.some.injEq,Prod.mk.injEq] at H
         obtain ⟨rfl,rfl,rfl,rfl,rfl,rfl⟩:=H
         have hnb45:=Qv.out
         have hnc45:=Qm.out
         have hnb46:=Qt.out
         have hnc46:=Qi.out
         have hcz47_0 : wc.cell? ⟨Qf,0,none⟩ = some (.int .i64 Qc):=(blk_cell Qa.out 0).trans rfl
         have hcz47_1 : wc.cell? ⟨Qf,1,none⟩ = some (.int .i64 Qd):=(blk_cell Qa.out 1).trans rfl
         have hcz47_2 : wc.cell? ⟨Qf,2,none⟩ = some (.int .i64 Qe):=(blk_cell Qa.out 2).trans rfl
         have hcz47_3 : wc.cell? ⟨Qf,3,none⟩ = some (.bool Qg):=(blk_cell Qa.out 3).trans rfl
         have hfz47_0:=blk_frozen Qa.out 0
         have hfz47_1:=blk_frozen Qa.out 1
         have hfz47_2:=blk_frozen Qa.out 2
         have hfz47_3:=blk_frozen Qa.out 3
         go_wp2_with (first|((with_reducible refine gate_callee (f:=22) rfl ?_);refine goesL_ (some 48) rfl rfl Try.func22 (by kernel_rfl) rfl #[.agg #[.int .i64 (wrap64 (Qc + 1)),.int .i64 Qd,.int .i64 (wrap64 (Qe + Ql)),.bool Qg]] rfl (by (try simp only [List.map_toArray,List.map_cons,List.map_nil]);first|done|rfl|(simp only [List.length_drop,List.length_take];rfl)) ?_;(with_reducible refine (resync_may.calls (wrap64 (Qc + 1)) Qd (wrap64 (Qe + Ql)) Qg false _ A38.out).mono ?_);rintro e w48 ⟨rfl,hb⟩;refine ⟨_,rfl,?_⟩;have n0_:=kb_ Qb hb;have n1_:=kb_ Qh hb;have n2_:=Aside0.mk (blk_below (g:=Qf) (o:=.cells #[.int .i64 (wrap64 (Qc + 1)),.int .i64 Qd,.int .i64 (wrap64 (Qe + Ql)),.bool Qg] 25 (0,0)) (by (with_reducible repeat (first|refine blk_drewN ?_ _|refine blk_drew ?_|refine blk_alloc ?_ _));refine blk_put (cs:=#[.int .i64 (wrap64 (Qc + 1)),.int .i64 Qd,.int .i64 Qe,.bool Qg]) ?_ 2 _ rfl;(with_reducible repeat (first|refine blk_drewN ?_ _|refine blk_drew ?_|refine blk_alloc ?_ _));refine blk_put (cs:=#[.int .i64 Qc,.int .i64 Qd,.int .i64 Qe,.bool Qg]) ?_ 0 _ rfl;(with_reducible repeat (first|refine blk_drewN ?_ _|refine blk_drew ?_|refine blk_alloc ?_ _));exact Qa.out) hb);have n3_:=ks_ HB hb;clear Qb;clear Qh;clear Qa;clear HB;have Qb:=n0_;have Qh:=n1_;have Qa:=n2_;have HB:=n3_;clear n0_ n1_ n2_ n3_;(try clear hb);(try clear hb2);(try clear hk);(try clear hi);have hcz49_0 : w48.cell? ⟨Qf,0,none⟩ = some (.int .i64 (wrap64 (Qc + 1))):=(blk_cell Qa.out 0).trans rfl;have hcz49_1 : w48.cell? ⟨Qf,1,none⟩ = some (.int .i64 Qd):=(blk_cell Qa.out 1).trans rfl;have hcz49_2 : w48.cell? ⟨Qf,2,none⟩ = some (.int .i64 (wrap64 (Qe + Ql))):=(blk_cell Qa.out 2).trans rfl;have hcz49_3 : w48.cell? ⟨Qf,3,none⟩ = some (.bool Qg):=(blk_cell Qa.out 3).trans rfl;have hfz49_0:=blk_frozen Qa.out 0;have hfz49_1:=blk_frozen Qa.out 1;have hfz49_2:=blk_frozen Qa.out 2;have hfz49_3:=blk_frozen Qa.out 3))
         refine bodyPost_ret (results_ctt rfl _ _ Qf 25 #[.int .i64 0,.int .i64 0,.int .i64 0,.bool false] (0,0) _ rfl (by (with_reducible repeat (first|refine blk_drewN ?_ _|refine blk_drew ?_|refine blk_alloc ?_ _));refine blk_put (cs:=#[.int .i64 0,.int .i64 0,.int .i64 0,.bool Qg]) ?_ 3 _ rfl;(with_reducible repeat (first|refine blk_drewN ?_ _|refine blk_drew ?_|refine blk_alloc ?_ _));refine blk_put (cs:=#[.int .i64 0,.int .i64 0,.int .i64 (wrap64 (Qe + Ql)),.bool Qg]) ?_ 2 _ rfl;(with_reducible repeat (first|refine blk_drewN ?_ _|refine blk_drew ?_|refine blk_alloc ?_ _));refine blk_put (cs:=#[.int .i64 0,.int .i64 Qd,.int .i64 (wrap64 (Qe + Ql)),.bool Qg]) ?_ 1 _ rfl;(with_reducible repeat (first|refine blk_drewN ?_ _|refine blk_drew ?_|refine blk_alloc ?_ _));refine blk_put (cs:=#[.int .i64 (wrap64 (Qc + 1)),.int .i64 Qd,.int .i64 (wrap64 (Qe + Ql)),.bool Qg]) ?_ 0 _ rfl;(with_reducible repeat (first|refine blk_drewN ?_ _|refine blk_drew ?_|refine blk_alloc ?_ _));exact Qa.out) Try.underlying25 rfl (by kernel_rfl)) rfl ?_
         exact ⟨by first|rfl|(simp [errW_none,errW_some] <;> rfl)|(simp [*,errW_none,errW_some] <;> rfl),by repeat (first|(with_reducible first|exact HB.out|apply below_alloc|apply pw_below_drewN|apply below_drew1|refine below_set ?_ QR.out|refine below_set ?_ QS.out|refine below_set ?_ QT.out)|exact HB.out)⟩
       ·rw [if_neg c37] at H
        have c37b0 : (Ql == 0) = false:=beq_eq_false_iff_ne.mpr c37
        have c37b1 : (Ql != 0) = true:=bne_iff_ne.mpr c37
        replace H:=Option.bind_eq_some_iff.mp H
        obtain ⟨t129,A500,H⟩:=H
        replace H : (if t129 = true then (some (wrap64 (Qc + 1),wrap64 (Qd + 1),wrap64 (Qe + Ql),Qg,Ql,0)) else (some (0,0,0,false,0,150))) = some (r1,r2,r3,r4,r5,r6):=H
        have A50:=Aside0.mk A500
        clear A500
        by_cases c51 : t129 = true
        ·subst c51
         have H1 : (some (wrap64 (Qc + 1),wrap64 (Qd + 1),wrap64 (Qe + Ql),Qg,Ql,0)) = some (r1,r2,r3,r4,r5,r6):=by rw [if_pos rfl] at H;exact H
         clear H
         have H:=H1
         clear H1
         simp only [Option.some.injEq,Prod.mk.injEq] at H
         obtain ⟨rfl,rfl,rfl,rfl,rfl,rfl⟩:=H
         have hnb52:=Qv.out
         have hnc52:=Qm.out
         have hnb53:=Qt.out
         have hnc53:=Qi.out
         have hcz54_0 : wc.cell? ⟨Qf,0,none⟩ = some (.int .i64 Qc):=(blk_cell Qa.out 0).trans rfl
         have hcz54_1 : wc.cell? ⟨Qf,1,none⟩ = some (.int .i64 Qd):=(blk_cell Qa.out 1).trans rfl
         have hcz54_2 : wc.cell? ⟨Qf,2,none⟩ = some (.int .i64 Qe):=(blk_cell Qa.out 2).trans rfl
         have hcz54_3 : wc.cell? ⟨Qf,3,none⟩ = some (.bool Qg):=(blk_cell Qa.out 3).trans rfl
         have hfz54_0:=blk_frozen Qa.out 0
         have hfz54_1:=blk_frozen Qa.out 1
         have hfz54_2:=blk_frozen Qa.out 2
         have hfz54_3:=blk_frozen Qa.out 3
         go_wp2_with (first|((with_reducible refine gate_callee (f:=22) rfl ?_);refine goesL_ (some 48) rfl rfl Try.func22 (by kernel_rfl) rfl #[.agg #[.int .i64 (wrap64 (Qc + 1)),.int .i64 (wrap64 (Qd + 1)),.int .i64 (wrap64 (Qe + Ql)),.bool Qg]] rfl (by (try simp only [List.map_toArray,List.map_cons,List.map_nil]);first|done|rfl|(simp only [List.length_drop,List.length_take];rfl)) ?_;(with_reducible refine (resync_may.calls (wrap64 (Qc + 1)) (wrap64 (Qd + 1)) (wrap64 (Qe + Ql)) Qg true _ A50.out).mono ?_);rintro e w55 ⟨rfl,hb⟩;refine ⟨_,rfl,?_⟩;have n0_:=kb_ Qb hb;have n1_:=kb_ Qh hb;have n2_:=Aside0.mk (blk_below (g:=Qf) (o:=.cells #[.int .i64 (wrap64 (Qc + 1)),.int .i64 (wrap64 (Qd + 1)),.int .i64 (wrap64 (Qe + Ql)),.bool Qg] 25 (0,0)) (by (with_reducible repeat (first|refine blk_drewN ?_ _|refine blk_drew ?_|refine blk_alloc ?_ _));refine blk_put (cs:=#[.int .i64 (wrap64 (Qc + 1)),.int .i64 (wrap64 (Qd + 1)),.int .i64 Qe,.bool Qg]) ?_ 2 _ rfl;(with_reducible repeat (first|refine blk_drewN ?_ _|refine blk_drew ?_|refine blk_alloc ?_ _));refine blk_put (cs:=#[.int .i64 (wrap64 (Qc + 1)),.int .i64 Qd,.int .i64 Qe,.bool Qg]) ?_ 1 _ rfl;(with_reducible repeat (first|refine blk_drewN ?_ _|refine blk_drew ?_|refine blk_alloc ?_ _));refine blk_put (cs:=#[.int .i64 Qc,.int .i64 Qd,.int .i64 Qe,.bool Qg]) ?_ 0 _ rfl;(with_reducible repeat (first|refine blk_drewN ?_ _|refine blk_drew ?_|refine blk_alloc ?_ _));exact Qa.out) hb);have n3_:=ks_ HB hb;clear Qb;clear Qh;clear Qa;clear HB;have Qb:=n0_;have Qh:=n1_;have Qa:=n2_;have HB:=n3_;clear n0_ n1_ n2_ n3_;(try clear hb);(try clear hb2);(try clear hk);(try clear hi);have hcz56_0 : w55.cell? ⟨Qf,0,none⟩ = some (.int .i64 (wrap64 (Qc + 1))):=(blk_cell Qa.out 0).trans rfl;have hcz56_1 : w55.cell? ⟨Qf,1,none⟩ = some (.int .i64 (wrap64 (Qd + 1))):=(blk_cell Qa.out 1).trans rfl;have hcz56_2 : w55.cell? ⟨Qf,2,none⟩ = some (.int .i64 (wrap64 (Qe + Ql))):=(blk_cell Qa.out 2).trans rfl;have hcz56_3 : w55.cell? ⟨Qf,3,none⟩ = some (.bool Qg):=(blk_cell Qa.out 3).trans rfl;have hfz56_0:=blk_frozen Qa.out 0;have hfz56_1:=blk_frozen Qa.out 1;have hfz56_2:=blk_frozen Qa.out 2;have hfz56_3:=blk_frozen Qa.out 3))
         refine bodyPost_ret (results_ctt rfl _ _ Qf 25 #[.int .i64 (wrap64 (Qc + 1)),.int .i64 (wrap64 (Qd + 1)),.int .i64 (wrap64 (Qe + Ql)),.bool Qg] (0,0) _ rfl (by (with_reducible repeat (first|refine blk_drewN ?_ _|refine blk_drew ?_|refine blk_alloc ?_ _));refine blk_put (cs:=#[.int .i64 (wrap64 (Qc + 1)),.int .i64 (wrap64 (Qd + 1)),.int .i64 (wrap64 (Qe + Ql)),.bool Qg]) ?_ 3 _ rfl;(with_reducible repeat (first|refine blk_drewN ?_ _|refine blk_drew ?_|refine blk_alloc ?_ _));refine blk_put (cs:=#[.int .i64 (wrap64 (Qc + 1)),.int .i64 (wrap64 (Qd + 1)),.int .i64 (wrap64 (Qe + Ql)),.bool Qg]) ?_ 2 _ rfl;(with_reducible repeat (first|refine blk_drewN ?_ _|refine blk_drew ?_|refine blk_alloc ?_ _));refine blk_put (cs:=#[.int .i64 (wrap64 (Qc + 1)),.int .i64 (wrap64 (Qd + 1)),.int .i64 (wrap64 (Qe + Ql)),.bool Qg]) ?_ 1 _ rfl;(with_reducible repeat (first|refine blk_drewN ?_ _|refine blk_drew ?_|refine blk_alloc ?_ _));refine blk_put (cs:=#[.int .i64 (wrap64 (Qc + 1)),.int .i64 (wrap64 (Qd + 1)),.int .i64 (wrap64 (Qe + Ql)),.bool Qg]) ?_ 0 _ rfl;(with_reducible repeat (first|refine blk_drewN ?_ _|refine blk_drew ?_|refine blk_alloc ?_ _));exact Qa.out) Try.underlying25 rfl (by kernel_rfl)) rfl ?_
         exact ⟨by first|rfl|(simp [errW_none,errW_some] <;> rfl)|(simp [*,errW_none,errW_some] <;> rfl),by repeat (first|(with_reducible first|exact HB.out|apply below_alloc|apply pw_below_drewN|apply below_drew1|refine below_set ?_ QR.out|refine below_set ?_ QS.out|refine below_set ?_ QT.out)|exact HB.out)⟩
        ·replace c51:=Bool.eq_false_iff.mpr c51
         subst c51
         have H1 : (some (0,0,0,false,0,150)) = some (r1,r2,r3,r4,r5,r6):=by rw [if_neg (show ¬ (false = true) by decide)] at H;exact H
         clear H
         have H:=H1
         clear H1
         simp only [Option.some.injEq,Prod.mk.injEq] at H
         obtain ⟨rfl,rfl,rfl,rfl,rfl,rfl⟩:=H
         have hnb57:=Qv.out
         have hnc57:=Qm.out
         have hnb58:=Qt.out
         have hnc58:=Qi.out
         have hcz59_0 : wc.cell? ⟨Qf,0,none⟩ = some (.int .i64 Qc):=(blk_cell Qa.out 0).trans rfl
         have hcz59_1 : wc.cell? ⟨Qf,1,none⟩ = some (.int .i64 Qd):=(blk_cell Qa.out 1).trans rfl
         have hcz59_2 : wc.cell? ⟨Qf,2,none⟩ = some (.int .i64 Qe):=(blk_cell Qa.out 2).trans rfl
         have hcz59_3 : wc.cell? ⟨Qf,3,none⟩ = some (.bool Qg):=(blk_cell Qa.out 3).trans rfl
         have hfz59_0:=blk_frozen Qa.out 0
         have hfz59_1:=blk_frozen Qa.out 1
         have hfz59_2:=blk_frozen Qa.out 2
         have hfz59_3:=blk_frozen Qa.out 3
         go_wp2_with (first|((with_reducible refine gate_callee (f:=22) rfl ?_);refine goesL_ (some 48) rfl rfl Try.func22 (by kernel_rfl) rfl #[.agg #[.int .i64 (wrap64 (Qc + 1)),.int .i64 (wrap64 (Qd + 1)),.int .i64 (wrap64 (Qe + Ql)),.bool Qg]] rfl (by (try simp only [List.map_toArray,List.map_cons,List.map_nil]);first|done|rfl|(simp only [List.length_drop,List.length_take];rfl)) ?_;(with_reducible refine (resync_may.calls (wrap64 (Qc + 1)) (wrap64 (Qd + 1)) (wrap64 (Qe + Ql)) Qg false _ A50.out).mono ?_);rintro e w60 ⟨rfl,hb⟩;refine ⟨_,rfl,?_⟩;have n0_:=kb_ Qb hb;have n1_:=kb_ Qh hb;have n2_:=Aside0.mk (blk_below (g:=Qf) (o:=.cells #[.int .i64 (wrap64 (Qc + 1)),.int .i64 (wrap64 (Qd + 1)),.int .i64 (wrap64 (Qe + Ql)),.bool Qg] 25 (0,0)) (by (with_reducible repeat (first|refine blk_drewN ?_ _|refine blk_drew ?_|refine blk_alloc ?_ _));refine blk_put (cs:=#[.int .i64 (wrap64 (Qc + 1)),.int .i64 (wrap64 (Qd + 1)),.int .i64 Qe,.bool Qg]) ?_ 2 _ rfl;(with_reducible repeat (first|refine blk_drewN ?_ _|refine blk_drew ?_|refine blk_alloc ?_ _));refine blk_put (cs:=#[.int .i64 (wrap64 (Qc + 1)),.int .i64 Qd,.int .i64 Qe,.bool Qg]) ?_ 1 _ rfl;(with_reducible repeat (first|refine blk_drewN ?_ _|refine blk_drew ?_|refine blk_alloc ?_ _));refine blk_put (cs:=#[.int .i64 Qc,.int .i64 Qd,.int .i64 Qe,.bool Qg]) ?_ 0 _ rfl;(with_reducible repeat (first|refine blk_drewN ?_ _|refine blk_drew ?_|refine blk_alloc ?_ _));exact Qa.out) hb);have n3_:=ks_ HB hb;clear Qb;clear Qh;clear Qa;clear HB;have Qb:=n0_;have Qh:=n1_;have Qa:=n2_;have HB:=n3_;clear n0_ n1_ n2_ n3_;(try clear hb);(try clear hb2);(try clear hk);(try clear hi);have hcz61_0 : w60.cell? ⟨Qf,0,none⟩ = some (.int .i64 (wrap64 (Qc + 1))):=(blk_cell Qa.out 0).trans rfl;have hcz61_1 : w60.cell? ⟨Qf,1,none⟩ = some (.int .i64 (wrap64 (Qd + 1))):=(blk_cell Qa.out 1).trans rfl;have hcz61_2 : w60.cell? ⟨Qf,2,none⟩ = some (.int .i64 (wrap64 (Qe + Ql))):=(blk_cell Qa.out 2).trans rfl;have hcz61_3 : w60.cell? ⟨Qf,3,none⟩ = some (.bool Qg):=(blk_cell Qa.out 3).trans rfl;have hfz61_0:=blk_frozen Qa.out 0;have hfz61_1:=blk_frozen Qa.out 1;have hfz61_2:=blk_frozen Qa.out 2;have hfz61_3:=blk_frozen Qa.out 3))
         refine bodyPost_ret (results_ctt rfl _ _ Qf 25 #[.int .i64 0,.int .i64 0,.int .i64 0,.bool false] (0,0) _ rfl (by (with_reducible repeat (first|refine blk_drewN ?_ _|refine blk_drew ?_|refine blk_alloc ?_ _));refine blk_put (cs:=#[.int .i64 0,.int .i64 0,.int .i64 0,.bool Qg]) ?_ 3 _ rfl;(with_reducible repeat (first|refine blk_drewN ?_ _|refine blk_drew ?_|refine blk_alloc ?_ _));refine blk_put (cs:=#[.int .i64 0,.int .i64 0,.int .i64 (wrap64 (Qe + Ql)),.bool Qg]) ?_ 2 _ rfl;(with_reducible repeat (first|refine blk_drewN ?_ _|refine blk_drew ?_|refine blk_alloc ?_ _));refine blk_put (cs:=#[.int .i64 0,.int .i64 (wrap64 (Qd + 1)),.int .i64 (wrap64 (Qe + Ql)),.bool Qg]) ?_ 1 _ rfl;(with_reducible repeat (first|refine blk_drewN ?_ _|refine blk_drew ?_|refine blk_alloc ?_ _));refine blk_put (cs:=#[.int .i64 (wrap64 (Qc + 1)),.int .i64 (wrap64 (Qd + 1)),.int .i64 (wrap64 (Qe + Ql)),.bool Qg]) ?_ 0 _ rfl;(with_reducible repeat (first|refine blk_drewN ?_ _|refine blk_drew ?_|refine blk_alloc ?_ _));exact Qa.out) Try.underlying25 rfl (by kernel_rfl)) rfl ?_
         exact ⟨by first|rfl|(simp [errW_none,errW_some] <;> rfl)|(simp [*,errW_none,errW_some] <;> rfl),by repeat (first|(with_reducible first|exact HB.out|apply below_alloc|apply pw_below_drewN|apply below_drew1|refine below_set ?_ QR.out|refine below_set ?_ QS.out|refine below_set ?_ QT.out)|exact HB.out)⟩

-- BY HAND: function 27 (plan_Fit)

/-! ### vesperslaw15_some: function 17 -/
def vesperslaw15_some.f  : Option (Int × Int × Int × Int × Int × Int × Int × Int × Int × Int × Int × Int × Int × Int × Int × Int):=(plan_Fit.f 4 1 0 0 0 1 1 3 100000 0 0 0 2 1 4 0).bind fun Qo=>(some (Qo.1,Qo.2.1,Qo.2.2.1,Qo.2.2.2.1,Qo.2.2.2.2.1,Qo.2.2.2.2.2.1,Qo.2.2.2.2.2.2.1,Qo.2.2.2.2.2.2.2.1,Qo.2.2.2.2.2.2.2.2.1,Qo.2.2.2.2.2.2.2.2.2.1,Qo.2.2.2.2.2.2.2.2.2.2.1,Qo.2.2.2.2.2.2.2.2.2.2.2.1,Qo.2.2.2.2.2.2.2.2.2.2.2.2.1,Qo.2.2.2.2.2.2.2.2.2.2.2.2.2.1,Qo.2.2.2.2.2.2.2.2.2.2.2.2.2.2.1,Qo.2.2.2.2.2.2.2.2.2.2.2.2.2.2.2.1))
set_option maxHeartbeats 8000000 in
set_option maxRecDepth 100000 in
theorem vesperslaw15_some.calls  (r1 : Int) (r2 : Int) (r3 : Int) (r4 : Int) (r5 : Int) (r6 : Int) (r7 : Int) (r8 : Int) (r9 : Int) (r10 : Int) (r11 : Int) (r12 : Int) (r13 : Int) (r14 : Int) (r15 : Int) (r16 : Int) (w : World) (h : vesperslaw15_some.f  = some (r1,r2,r3,r4,r5,r6,r7,r8,r9,r10,r11,r12,r13,r14,r15,r16)) :
  Calls Try.prog 17 #[] w fun e w'=>e = .returned (.agg #[.int .i64 r1,.int .i64 r2,.int .i64 r3,.int .i64 r4,.int .i64 r5,.int .i64 r6,.int .i64 r7,.int .i64 r8,.int .i64 r9,.int .i64 r10,.int .i64 r11,.int .i64 r12,.int .i64 r13,.int .i64 r14,.int .i64 r15,.int .i64 r16])∧Below w.heap.size w w':=by
 have hu23:=Try.underlying23
 have HB:=Aside0.mk (Below.refl w.heap.size w)
 have H : ((plan_Fit.f 4 1 0 0 0 1 1 3 100000 0 0 0 2 1 4 0).bind fun Qo=>(some (Qo.1,Qo.2.1,Qo.2.2.1,Qo.2.2.2.1,Qo.2.2.2.2.1,Qo.2.2.2.2.2.1,Qo.2.2.2.2.2.2.1,Qo.2.2.2.2.2.2.2.1,Qo.2.2.2.2.2.2.2.2.1,Qo.2.2.2.2.2.2.2.2.2.1,Qo.2.2.2.2.2.2.2.2.2.2.1,Qo.2.2.2.2.2.2.2.2.2.2.2.1,Qo.2.2.2.2.2.2.2.2.2.2.2.2.1,Qo.2.2.2.2.2.2.2.2.2.2.2.2.2.1,Qo.2.2.2.2.2.2.2.2.2.2.2.2.2.2.1,Qo.2.2.2.2.2.2.2.2.2.2.2.2.2.2.2.1))) = some (r1,r2,r3,r4,r5,r6,r7,r8,r9,r10,r11,r12,r13,r14,r15,r16):=h
 clear h
 replace H:=Option.bind_eq_some_iff.mp H
 obtain ⟨⟨QC,QL,QQ,QU,QY,QZ,Zb,Zo,Zs,Zx,t141,t142,t143,t144,t145,t146,t147⟩,A10,H⟩:=H
 replace H : (some (QC,QL,QQ,QU,QY,QZ,Zb,Zo,Zs,Zx,t141,t142,t143,t144,t145,t146)) = some (r1,r2,r3,r4,r5,r6,r7,r8,r9,r10,r11,r12,r13,r14,r15,r16):=H
 have A1:=Aside0.mk A10
 clear A10
 simp only [Option.some.injEq,Prod.mk.injEq] at H
 obtain ⟨rfl,rfl,rfl,rfl,rfl,rfl,rfl,rfl,rfl,rfl,rfl,rfl,rfl,rfl,rfl,rfl⟩:=H
 go_enter Try.func17,Try.ntmps17
 go_wp2_with (first|((with_reducible refine gate_dst (N:=0) rfl ?_);refine box_event ?hg (N:=0) ?hd (cs:=#[.int .i64 0,.int .i64 0,.int .i64 0,.int .i64 0,.int .i64 0,.int .i64 0,.int .i64 0,.int .i64 0,.int .i64 0,.int .i64 0,.int .i64 0,.int .i64 0,.int .i64 0,.int .i64 0,.int .i64 0,.int .i64 0]) (t:=23) ?hr ?_;(case hd=>rfl);(case hg=>rfl);(case hr=>first|(go_simp;done)|(go_simp;rfl));intro Qw hg w2 hbox hb;have n0_:=ks_ HB hb;have n1_:=Aside0.mk (hbox);have n2_:=Aside0.mk ((by rw [hg];exact (kz_ HB) : w.heap.size ≤ Qw));have n3_:=Aside0.mk ((by rw [hg];exact (kz_ HB) : w.heap.size ≤ Qw));clear HB;have HB:=n0_;have Qj:=n1_;have GW130:=n2_;have GE130:=n3_;clear n0_ n1_ n2_ n3_;clear hb hbox hg)|((with_reducible refine gate_callee (f:=27) rfl ?_);refine goesL_ (some 5) rfl rfl Try.func27 (by kernel_rfl) rfl #[.agg #[.int .i64 4,.int .i64 1,.int .i64 0,.int .i64 0,.int .i64 0,.int .i64 1,.int .i64 1,.int .i64 3,.int .i64 100000,.int .i64 0,.int .i64 0,.int .i64 0,.int .i64 2,.int .i64 1,.int .i64 4,.int .i64 0]] rfl (by (try simp only [List.map_toArray,List.map_cons,List.map_nil]);first|done|rfl|(simp only [List.length_drop,List.length_take];rfl)) ?_;(with_reducible refine (plan_Fit.calls 4 1 0 0 0 1 1 3 100000 0 0 0 2 1 4 0 QC QL QQ QU QY QZ Zb Zo Zs Zx t141 t142 t143 t144 t145 t146 t147 _ A1.out).mono ?_);rintro e w3 ⟨rfl,hb⟩;refine ⟨_,rfl,?_⟩;have n0_:=kb_ Qj hb;have n1_:=ks_ HB hb;clear Qj;clear HB;have Qj:=n0_;have HB:=n1_;clear n0_ n1_;(try clear hb);(try clear hb2);(try clear hk);(try clear hi))|((with_reducible refine gate_dst (N:=1) rfl ?_);refine box_event ?hg (N:=1) ?hd (cs:=#[.int .i64 0,.int .i64 0,.int .i64 0,.int .i64 0,.int .i64 0,.int .i64 0,.int .i64 0,.int .i64 0,.int .i64 0,.int .i64 0,.int .i64 0,.int .i64 0,.int .i64 0,.int .i64 0,.int .i64 0,.int .i64 0]) (t:=23) ?hr ?_;(case hd=>rfl);(case hg=>rfl);(case hr=>first|(go_simp;done)|(go_simp;rfl));intro Qx hg w4 hbox hb;have n0_:=kb_ Qj hb;have n1_:=ks_ HB hb;have n2_:=Aside0.mk (hbox);have n3_:=Aside0.mk ((by rw [hg];exact (kz_ HB) : w.heap.size ≤ Qx));have n4_:=Aside0.mk ((by rw [hg];exact (kz_ HB) : w.heap.size ≤ Qx));have n5_:=nl_ Qj hg;have n6_:=ng_ Qj hg;clear Qj;clear HB;have Qj:=n0_;have HB:=n1_;have Qr:=n2_;have GW148:=n3_;have GE148:=n4_;have Qk:=n5_;have NB148_130:=n6_;clear n0_ n1_ n2_ n3_ n4_ n5_ n6_;clear hb hbox hg;have hnb5:=NB148_130.out;have hnc5:=Qk.out;have hcz6_0 : w4.cell? ⟨Qx,0,none⟩ = some (.int .i64 0):=(blk_cell Qr.out 0).trans rfl;have hcz6_1 : w4.cell? ⟨Qx,1,none⟩ = some (.int .i64 0):=(blk_cell Qr.out 1).trans rfl;have hcz6_2 : w4.cell? ⟨Qx,2,none⟩ = some (.int .i64 0):=(blk_cell Qr.out 2).trans rfl;have hcz6_3 : w4.cell? ⟨Qx,3,none⟩ = some (.int .i64 0):=(blk_cell Qr.out 3).trans rfl;have hcz6_4 : w4.cell? ⟨Qx,4,none⟩ = some (.int .i64 0):=(blk_cell Qr.out 4).trans rfl;have hcz6_5 : w4.cell? ⟨Qx,5,none⟩ = some (.int .i64 0):=(blk_cell Qr.out 5).trans rfl;have hcz6_6 : w4.cell? ⟨Qx,6,none⟩ = some (.int .i64 0):=(blk_cell Qr.out 6).trans rfl;have hcz6_7 : w4.cell? ⟨Qx,7,none⟩ = some (.int .i64 0):=(blk_cell Qr.out 7).trans rfl;have hcz6_8 : w4.cell? ⟨Qx,8,none⟩ = some (.int .i64 0):=(blk_cell Qr.out 8).trans rfl;have hcz6_9 : w4.cell? ⟨Qx,9,none⟩ = some (.int .i64 0):=(blk_cell Qr.out 9).trans rfl;have hcz6_10 : w4.cell? ⟨Qx,10,none⟩ = some (.int .i64 0):=(blk_cell Qr.out 10).trans rfl;have hcz6_11 : w4.cell? ⟨Qx,11,none⟩ = some (.int .i64 0):=(blk_cell Qr.out 11).trans rfl;have hcz6_12 : w4.cell? ⟨Qx,12,none⟩ = some (.int .i64 0):=(blk_cell Qr.out 12).trans rfl;have hcz6_13 : w4.cell? ⟨Qx,13,none⟩ = some (.int .i64 0):=(blk_cell Qr.out 13).trans rfl;have hcz6_14 : w4.cell? ⟨Qx,14,none⟩ = some (.int .i64 0):=(blk_cell Qr.out 14).trans rfl;have hcz6_15 : w4.cell? ⟨Qx,15,none⟩ = some (.int .i64 0):=(blk_cell Qr.out 15).trans rfl;have hfz6_0:=blk_frozen Qr.out 0;have hfz6_1:=blk_frozen Qr.out 1;have hfz6_2:=blk_frozen Qr.out 2;have hfz6_3:=blk_frozen Qr.out 3;have hfz6_4:=blk_frozen Qr.out 4;have hfz6_5:=blk_frozen Qr.out 5;have hfz6_6:=blk_frozen Qr.out 6;have hfz6_7:=blk_frozen Qr.out 7;have hfz6_8:=blk_frozen Qr.out 8;have hfz6_9:=blk_frozen Qr.out 9;have hfz6_10:=blk_frozen Qr.out 10;have hfz6_11:=blk_frozen Qr.out 11;have hfz6_12:=blk_frozen Qr.out 12;have hfz6_13:=blk_frozen Qr.out 13;have hfz6_14:=blk_frozen Qr.out 14;have hfz6_15:=blk_frozen Qr.out 15;have hcz7_0 : w4.cell? ⟨Qw,0,none⟩ = some (.int .i64 0):=(blk_cell Qj.out 0).trans rfl;have hcz7_1 : w4.cell? ⟨Qw,1,none⟩ = some (.int .i64 0):=(blk_cell Qj.out 1).trans rfl;have hcz7_2 : w4.cell? ⟨Qw,2,none⟩ = some (.int .i64 0):=(blk_cell Qj.out 2).trans rfl;have hcz7_3 : w4.cell? ⟨Qw,3,none⟩ = some (.int .i64 0):=(blk_cell Qj.out 3).trans rfl;have hcz7_4 : w4.cell? ⟨Qw,4,none⟩ = some (.int .i64 0):=(blk_cell Qj.out 4).trans rfl;have hcz7_5 : w4.cell? ⟨Qw,5,none⟩ = some (.int .i64 0):=(blk_cell Qj.out 5).trans rfl;have hcz7_6 : w4.cell? ⟨Qw,6,none⟩ = some (.int .i64 0):=(blk_cell Qj.out 6).trans rfl;have hcz7_7 : w4.cell? ⟨Qw,7,none⟩ = some (.int .i64 0):=(blk_cell Qj.out 7).trans rfl;have hcz7_8 : w4.cell? ⟨Qw,8,none⟩ = some (.int .i64 0):=(blk_cell Qj.out 8).trans rfl;have hcz7_9 : w4.cell? ⟨Qw,9,none⟩ = some (.int .i64 0):=(blk_cell Qj.out 9).trans rfl;have hcz7_10 : w4.cell? ⟨Qw,10,none⟩ = some (.int .i64 0):=(blk_cell Qj.out 10).trans rfl;have hcz7_11 : w4.cell? ⟨Qw,11,none⟩ = some (.int .i64 0):=(blk_cell Qj.out 11).trans rfl;have hcz7_12 : w4.cell? ⟨Qw,12,none⟩ = some (.int .i64 0):=(blk_cell Qj.out 12).trans rfl;have hcz7_13 : w4.cell? ⟨Qw,13,none⟩ = some (.int .i64 0):=(blk_cell Qj.out 13).trans rfl;have hcz7_14 : w4.cell? ⟨Qw,14,none⟩ = some (.int .i64 0):=(blk_cell Qj.out 14).trans rfl;have hcz7_15 : w4.cell? ⟨Qw,15,none⟩ = some (.int .i64 0):=(blk_cell Qj.out 15).trans rfl;have hfz7_0:=blk_frozen Qj.out 0;have hfz7_1:=blk_frozen Qj.out 1;have hfz7_2:=blk_frozen Qj.out 2;have hfz7_3:=blk_frozen Qj.out 3;have hfz7_4:=blk_frozen Qj.out 4;have hfz7_5:=blk_frozen Qj.out 5;have hfz7_6:=blk_frozen Qj.out 6;have hfz7_7:=blk_frozen Qj.out 7;have hfz7_8:=blk_frozen Qj.out 8;have hfz7_9:=blk_frozen Qj.out 9;have hfz7_10:=blk_frozen Qj.out 10;have hfz7_11:=blk_frozen Qj.out 11;have hfz7_12:=blk_frozen Qj.out 12;have hfz7_13:=blk_frozen Qj.out 13;have hfz7_14:=blk_frozen Qj.out 14;have hfz7_15:=blk_frozen Qj.out 15))
 refine bodyPost_ret (results_cell_row rfl _ _ Qw 23 #[.int .i64 QC,.int .i64 QL,.int .i64 QQ,.int .i64 QU,.int .i64 QY,.int .i64 QZ,.int .i64 Zb,.int .i64 Zo,.int .i64 Zs,.int .i64 Zx,.int .i64 t141,.int .i64 t142,.int .i64 t143,.int .i64 t144,.int .i64 t145,.int .i64 t146] (0,0) _ rfl (by (with_reducible repeat (first|refine blk_drewN ?_ _|refine blk_drew ?_|refine blk_alloc ?_ _));refine blk_put (cs:=#[.int .i64 QC,.int .i64 QL,.int .i64 QQ,.int .i64 QU,.int .i64 QY,.int .i64 QZ,.int .i64 Zb,.int .i64 Zo,.int .i64 Zs,.int .i64 Zx,.int .i64 t141,.int .i64 t142,.int .i64 t143,.int .i64 t144,.int .i64 t145,.int .i64 0]) ?_ 15 _ rfl;(with_reducible repeat (first|refine blk_drewN ?_ _|refine blk_drew ?_|refine blk_alloc ?_ _));refine blk_put (cs:=#[.int .i64 QC,.int .i64 QL,.int .i64 QQ,.int .i64 QU,.int .i64 QY,.int .i64 QZ,.int .i64 Zb,.int .i64 Zo,.int .i64 Zs,.int .i64 Zx,.int .i64 t141,.int .i64 t142,.int .i64 t143,.int .i64 t144,.int .i64 0,.int .i64 0]) ?_ 14 _ rfl;(with_reducible repeat (first|refine blk_drewN ?_ _|refine blk_drew ?_|refine blk_alloc ?_ _));refine blk_put (cs:=#[.int .i64 QC,.int .i64 QL,.int .i64 QQ,.int .i64 QU,.int .i64 QY,.int .i64 QZ,.int .i64 Zb,.int .i64 Zo,.int .i64 Zs,.int .i64 Zx,.int .i64 t141,.int .i64 t142,.int .i64 t143,.int .i64 0,.int .i64 0,.int .i64 0]) ?_ 13 _ rfl;(with_reducible repeat (first|refine blk_drewN ?_ _|refine blk_drew ?_|refine blk_alloc ?_ _));refine blk_put (cs:=#[.int .i64 QC,.int .i64 QL,.int .i64 QQ,.int .i64 QU,.int .i64 QY,.int .i64 QZ,.int .i64 Zb,.int .i64 Zo,.int .i64 Zs,.int .i64 Zx,.int .i64 t141,.int .i64 t142,.int .i64 0,.int .i64 0,.int .i64 0,.int .i64 0]) ?_ 12 _ rfl;(with_reducible repeat (first|refine blk_drewN ?_ _|refine blk_drew ?_|refine blk_alloc ?_ _));refine blk_put (cs:=#[.int .i64 QC,.int .i64 QL,.int .i64 QQ,.int .i64 QU,.int .i64 QY,.int .i64 QZ,.int .i64 Zb,.int .i64 Zo,.int .i64 Zs,.int .i64 Zx,.int .i64 t141,.int .i64 0,.int .i64 0,.int .i64 0,.int .i64 0,.int .i64 0]) ?_ 11 _ rfl;(with_reducible repeat (first|refine blk_drewN ?_ _|refine blk_drew ?_|refine blk_alloc ?_ _));refine blk_put (cs:=#[.int .i64 QC,.int .i64 QL,.int .i64 QQ,.int .i64 QU,.int .i64 QY,.int .i64 QZ,.int .i64 Zb,.int .i64 Zo,.int .i64 Zs,.int .i64 Zx,.int .i64 0,.int .i64 0,.int .i64 0,.int .i64 0,.int .i64 0,.int .i64 0]) ?_ 10 _ rfl;(with_reducible repeat (first|refine blk_drewN ?_ _|refine blk_drew ?_|refine blk_alloc ?_ _));refine blk_put (cs:=#[.int .i64 QC,.int .i64 QL,.int .i64 QQ,.int .i64 QU,.int .i64 QY,.int .i64 QZ,.int .i64 Zb,.int .i64 Zo,.int .i64 Zs,.int .i64 0,.int .i64 0,.int .i64 0,.int .i64 0,.int .i64 0,.int .i64 0,.int .i64 0]) ?_ 9 _ rfl;(with_reducible repeat (first|refine blk_drewN ?_ _|refine blk_drew ?_|refine blk_alloc ?_ _));refine blk_put (cs:=#[.int .i64 QC,.int .i64 QL,.int .i64 QQ,.int .i64 QU,.int .i64 QY,.int .i64 QZ,.int .i64 Zb,.int .i64 Zo,.int .i64 0,.int .i64 0,.int .i64 0,.int .i64 0,.int .i64 0,.int .i64 0,.int .i64 0,.int .i64 0]) ?_ 8 _ rfl;(with_reducible repeat (first|refine blk_drewN ?_ _|refine blk_drew ?_|refine blk_alloc ?_ _));refine blk_put (cs:=#[.int .i64 QC,.int .i64 QL,.int .i64 QQ,.int .i64 QU,.int .i64 QY,.int .i64 QZ,.int .i64 Zb,.int .i64 0,.int .i64 0,.int .i64 0,.int .i64 0,.int .i64 0,.int .i64 0,.int .i64 0,.int .i64 0,.int .i64 0]) ?_ 7 _ rfl;(with_reducible repeat (first|refine blk_drewN ?_ _|refine blk_drew ?_|refine blk_alloc ?_ _));refine blk_put (cs:=#[.int .i64 QC,.int .i64 QL,.int .i64 QQ,.int .i64 QU,.int .i64 QY,.int .i64 QZ,.int .i64 0,.int .i64 0,.int .i64 0,.int .i64 0,.int .i64 0,.int .i64 0,.int .i64 0,.int .i64 0,.int .i64 0,.int .i64 0]) ?_ 6 _ rfl;(with_reducible repeat (first|refine blk_drewN ?_ _|refine blk_drew ?_|refine blk_alloc ?_ _));refine blk_put (cs:=#[.int .i64 QC,.int .i64 QL,.int .i64 QQ,.int .i64 QU,.int .i64 QY,.int .i64 0,.int .i64 0,.int .i64 0,.int .i64 0,.int .i64 0,.int .i64 0,.int .i64 0,.int .i64 0,.int .i64 0,.int .i64 0,.int .i64 0]) ?_ 5 _ rfl;(with_reducible repeat (first|refine blk_drewN ?_ _|refine blk_drew ?_|refine blk_alloc ?_ _));refine blk_put (cs:=#[.int .i64 QC,.int .i64 QL,.int .i64 QQ,.int .i64 QU,.int .i64 0,.int .i64 0,.int .i64 0,.int .i64 0,.int .i64 0,.int .i64 0,.int .i64 0,.int .i64 0,.int .i64 0,.int .i64 0,.int .i64 0,.int .i64 0]) ?_ 4 _ rfl;(with_reducible repeat (first|refine blk_drewN ?_ _|refine blk_drew ?_|refine blk_alloc ?_ _));refine blk_put (cs:=#[.int .i64 QC,.int .i64 QL,.int .i64 QQ,.int .i64 0,.int .i64 0,.int .i64 0,.int .i64 0,.int .i64 0,.int .i64 0,.int .i64 0,.int .i64 0,.int .i64 0,.int .i64 0,.int .i64 0,.int .i64 0,.int .i64 0]) ?_ 3 _ rfl;(with_reducible repeat (first|refine blk_drewN ?_ _|refine blk_drew ?_|refine blk_alloc ?_ _));refine blk_put (cs:=#[.int .i64 QC,.int .i64 QL,.int .i64 0,.int .i64 0,.int .i64 0,.int .i64 0,.int .i64 0,.int .i64 0,.int .i64 0,.int .i64 0,.int .i64 0,.int .i64 0,.int .i64 0,.int .i64 0,.int .i64 0,.int .i64 0]) ?_ 2 _ rfl;(with_reducible repeat (first|refine blk_drewN ?_ _|refine blk_drew ?_|refine blk_alloc ?_ _));refine blk_put (cs:=#[.int .i64 QC,.int .i64 0,.int .i64 0,.int .i64 0,.int .i64 0,.int .i64 0,.int .i64 0,.int .i64 0,.int .i64 0,.int .i64 0,.int .i64 0,.int .i64 0,.int .i64 0,.int .i64 0,.int .i64 0,.int .i64 0]) ?_ 1 _ rfl;(with_reducible repeat (first|refine blk_drewN ?_ _|refine blk_drew ?_|refine blk_alloc ?_ _));refine blk_put (cs:=#[.int .i64 0,.int .i64 0,.int .i64 0,.int .i64 0,.int .i64 0,.int .i64 0,.int .i64 0,.int .i64 0,.int .i64 0,.int .i64 0,.int .i64 0,.int .i64 0,.int .i64 0,.int .i64 0,.int .i64 0,.int .i64 0]) ?_ 0 _ rfl;(with_reducible repeat (first|refine blk_drewN ?_ _|refine blk_drew ?_|refine blk_alloc ?_ _));refine blk_far ?_ Qk.out _;(with_reducible repeat (first|refine blk_drewN ?_ _|refine blk_drew ?_|refine blk_alloc ?_ _));refine blk_far ?_ Qk.out _;(with_reducible repeat (first|refine blk_drewN ?_ _|refine blk_drew ?_|refine blk_alloc ?_ _));refine blk_far ?_ Qk.out _;(with_reducible repeat (first|refine blk_drewN ?_ _|refine blk_drew ?_|refine blk_alloc ?_ _));refine blk_far ?_ Qk.out _;(with_reducible repeat (first|refine blk_drewN ?_ _|refine blk_drew ?_|refine blk_alloc ?_ _));refine blk_far ?_ Qk.out _;(with_reducible repeat (first|refine blk_drewN ?_ _|refine blk_drew ?_|refine blk_alloc ?_ _));refine blk_far ?_ Qk.out _;(with_reducible repeat (first|refine blk_drewN ?_ _|refine blk_drew ?_|refine blk_alloc ?_ _));refine blk_far ?_ Qk.out _;(with_reducible repeat (first|refine blk_drewN ?_ _|refine blk_drew ?_|refine blk_alloc ?_ _));refine blk_far ?_ Qk.out _;(with_reducible repeat (first|refine blk_drewN ?_ _|refine blk_drew ?_|refine blk_alloc ?_ _));refine blk_far ?_ Qk.out _;(with_reducible repeat (first|refine blk_drewN ?_ _|refine blk_drew ?_|refine blk_alloc ?_ _));refine blk_far ?_ Qk.out _;(with_reducible repeat (first|refine blk_drewN ?_ _|refine blk_drew ?_|refine blk_alloc ?_ _));refine blk_far ?_ Qk.out _;(with_reducible repeat (first|refine blk_drewN ?_ _|refine blk_drew ?_|refine blk_alloc ?_ _));refine blk_far ?_ Qk.out _;(with_reducible repeat (first|refine blk_drewN ?_ _|refine blk_drew ?_|refine blk_alloc ?_ _));refine blk_far ?_ Qk.out _;(with_reducible repeat (first|refine blk_drewN ?_ _|refine blk_drew ?_|refine blk_alloc ?_ _));refine blk_far ?_ Qk.out _;(with_reducible repeat (first|refine blk_drewN ?_ _|refine blk_drew ?_|refine blk_alloc ?_ _));refine blk_far ?_ Qk.out _;(with_reducible repeat (first|refine blk_drewN ?_ _|refine blk_drew ?_|refine blk_alloc ?_ _));refine blk_far ?_ Qk.out _;(with_reducible repeat (first|refine blk_drewN ?_ _|refine blk_drew ?_|refine blk_alloc ?_ _));exact Qj.out) Try.underlying23 rfl (by kernel_rfl)) rfl ?_
 exact ⟨by first|rfl|(simp [errW_none,errW_some] <;> rfl)|(simp [*,errW_none,errW_some] <;> rfl),by repeat (first|(with_reducible first|exact HB.out|apply below_alloc|apply pw_below_drewN|apply below_drew1|refine below_set ?_ GE130.out|refine below_set ?_ GE148.out)|exact HB.out)⟩

/-! ### vesperslaw15_corrected: function 18 -/
def vesperslaw15_corrected.f (k : Nat) (l0 : List Int) : Option (Int):=(vesperslaw15_some.f).bind fun Qp=>((resync_Correction.f k Qp.1 Qp.2.1 Qp.2.2.1 Qp.2.2.2.1 Qp.2.2.2.2.1 Qp.2.2.2.2.2.1 Qp.2.2.2.2.2.2.1 Qp.2.2.2.2.2.2.2.1 Qp.2.2.2.2.2.2.2.2.1 Qp.2.2.2.2.2.2.2.2.2.1 Qp.2.2.2.2.2.2.2.2.2.2.1 Qp.2.2.2.2.2.2.2.2.2.2.2.1 Qp.2.2.2.2.2.2.2.2.2.2.2.2.1 Qp.2.2.2.2.2.2.2.2.2.2.2.2.2.1 Qp.2.2.2.2.2.2.2.2.2.2.2.2.2.2.1 Qp.2.2.2.2.2.2.2.2.2.2.2.2.2.2.2 l0).bind fun QM=>(if QM.2 = 0 then (some QM.1) else (some (wrap64 (1000 * QM.2)))))
theorem vesperslaw15_corrected.mono : ∀ a0 k,LeO (vesperslaw15_corrected.f k a0) (vesperslaw15_corrected.f (k + 1) a0):=by
 intro a0 k
 unfold vesperslaw15_corrected.f
 repeat' first
   | (with_reducible exact resync_Correction.mono _ _ _ _ _ _ _ _ _ _ _ _ _ _ _ _ _ _)
   | (with_reducible exact LeO.refl _)
   | (with_reducible exact LeO.none _)
   | (with_reducible refine LeO.ite ?_ ?_)
   | (with_reducible refine LeO.bind ?_ (fun _=>?_))
   | exact resync_Correction.mono _ _ _ _ _ _ _ _ _ _ _ _ _ _ _ _ _ _
   | exact LeO.none _
   | refine LeO.ite ?_ ?_
   | refine LeO.bind ?_ (fun _=>?_)
set_option maxHeartbeats 8000000 in
set_option maxRecDepth 100000 in
theorem vesperslaw15_corrected.calls (k : Nat) (A0 : Option Addr) (c0 : Nat) (l0 : List Int) (r : Int) (w : World) (hr0 : Kd.C (Kd.int .i64) w A0 l0.length l0) (hc0 : l0.length ≤ c0) (h : vesperslaw15_corrected.f k l0 = some r) :
  Calls Try.prog 18 #[.slice A0 l0.length c0] w fun e w'=>e = .returned (.int .i64 r)∧Below w.heap.size w w':=by
 have HR0:=Aside0.mk hr0
 have HC0:=Aside0.mk hc0
 clear hr0 hc0
 have HB:=Aside0.mk (Below.refl w.heap.size w)
 have H : ((vesperslaw15_some.f).bind fun Qp=>((resync_Correction.f k Qp.1 Qp.2.1 Qp.2.2.1 Qp.2.2.2.1 Qp.2.2.2.2.1 Qp.2.2.2.2.2.1 Qp.2.2.2.2.2.2.1 Qp.2.2.2.2.2.2.2.1 Qp.2.2.2.2.2.2.2.2.1 Qp.2.2.2.2.2.2.2.2.2.1 Qp.2.2.2.2.2.2.2.2.2.2.1 Qp.2.2.2.2.2.2.2.2.2.2.2.1 Qp.2.2.2.2.2.2.2.2.2.2.2.2.1 Qp.2.2.2.2.2.2.2.2.2.2.2.2.2.1 Qp.2.2.2.2.2.2.2.2.2.2.2.2.2.2.1 Qp.2.2.2.2.2.2.2.2.2.2.2.2.2.2.2 l0).bind fun QM=>(if QM.2 = 0 then (some QM.1) else (some (wrap64 (1000 * QM.2)))))) = some r:=h
 clear h
 replace H:=Option.bind_eq_some_iff.mp H
 obtain ⟨⟨t149,t150,t151,t152,t153,t154,t155,t156,t157,t158,t159,t160,t161,t162,t163,t164⟩,A20,H⟩:=H
 replace H : ((resync_Correction.f k t149 t150 t151 t152 t153 t154 t155 t156 t157 t158 t159 t160 t161 t162 t163 t164 l0).bind fun QM=>(if QM.2 = 0 then (some QM.1) else (some (wrap64 (1000 * QM.2))))) = some r:=H
 have A2:=Aside0.mk A20
 clear A20
 replace H:=Option.bind_eq_some_iff.mp H
 obtain ⟨⟨t165,Zy⟩,A30,H⟩:=H
 replace H : (if Zy = 0 then (some t165) else (some (wrap64 (1000 * Zy)))) = some r:=H
 have A3:=Aside0.mk A30
 clear A30
 by_cases c4 : Zy = 0
 ·rw [if_pos c4] at H
  have c4b0 : (Zy == 0) = true:=beq_iff_eq.mpr c4
  have c4b1 : (Zy != 0) = false:=bne_eq_false_iff_eq.mpr c4
  clear c4
  obtain rfl:=Option.some.inj H
  go_enter Try.func18,Try.ntmps18
  go_wp2_with (first|((with_reducible refine gate_callee (f:=17) rfl ?_);refine goesL_ (some 6) rfl rfl Try.func17 (by kernel_rfl) rfl #[] rfl (by (try simp only [List.map_toArray,List.map_cons,List.map_nil]);first|done|rfl|(simp only [List.length_drop,List.length_take];rfl)) ?_;(with_reducible refine (vesperslaw15_some.calls  t149 t150 t151 t152 t153 t154 t155 t156 t157 t158 t159 t160 t161 t162 t163 t164 _ A2.out).mono ?_);rintro e w5 ⟨rfl,hb⟩;refine ⟨_,rfl,?_⟩;have n0_:=ks_ HB hb;clear HB;have HB:=n0_;clear n0_;(try clear hb);(try clear hb2);(try clear hk);(try clear hi))|((with_reducible refine gate_callee (f:=7) rfl ?_);refine goesL_ (some 8) rfl rfl Try.func7 (by kernel_rfl) rfl #[.agg #[.int .i64 t149,.int .i64 t150,.int .i64 t151,.int .i64 t152,.int .i64 t153,.int .i64 t154,.int .i64 t155,.int .i64 t156,.int .i64 t157,.int .i64 t158,.int .i64 t159,.int .i64 t160,.int .i64 t161,.int .i64 t162,.int .i64 t163,.int .i64 t164],.slice A0 l0.length c0] rfl (by (try simp only [List.map_toArray,List.map_cons,List.map_nil]);first|done|rfl|(simp only [List.length_drop,List.length_take];rfl)) ?_;(with_reducible refine (resync_Correction.calls k t149 t150 t151 t152 t153 t154 t155 t156 t157 t158 t159 t160 t161 t162 t163 t164 _ _ l0 t165 Zy _ ?side1 ?side2 A3.out).mono ?_);(case side1=>repeat (first|exact (Kd.C_below HR0.out HB.out)|(with_reducible refine Kd.C_alloc ?_ _)|(with_reducible refine Kd.C_drewN ?_ _)|(with_reducible refine Kd.C_drew ?_)));(case side2=>exact HC0.out);rintro e w6 ⟨rfl,hb⟩;refine ⟨_,rfl,?_⟩;have n0_:=ks_ HB hb;clear HB;have HB:=n0_;clear n0_;(try clear hb);(try clear hb2);(try clear hk);(try clear hi)))
  go_ret
  exact ⟨by first|rfl|(simp [errW_none,errW_some] <;> rfl)|(simp [*,errW_none,errW_some] <;> rfl),by repeat (first|(with_reducible first|exact HB.out|apply below_alloc|apply pw_below_drewN|apply below_drew1)|exact HB.out)⟩
 ·rw [if_neg c4] at H
  have c4b0 : (Zy == 0) = false:=beq_eq_false_iff_ne.mpr c4
  have c4b1 : (Zy != 0) = true:=bne_iff_ne.mpr c4
  obtain rfl:=Option.some.inj H
  go_enter Try.func18,Try.ntmps18
  go_wp2_with (first|((with_reducible refine gate_callee (f:=17) rfl ?_);refine goesL_ (some 6) rfl rfl Try.func17 (by kernel_rfl) rfl #[] rfl (by (try simp only [List.map_toArray,List.map_cons,List.map_nil]);first|done|rfl|(simp only [List.length_drop,List.length_take];rfl)) ?_;(with_reducible refine (vesperslaw15_some.calls  t149 t150 t151 t152 t153 t154 t155 t156 t157 t158 t159 t160 t161 t162 t163 t164 _ A2.out).mono ?_);rintro e w7 ⟨rfl,hb⟩;refine ⟨_,rfl,?_⟩;have n0_:=ks_ HB hb;clear HB;have HB:=n0_;clear n0_;(try clear hb);(try clear hb2);(try clear hk);(try clear hi))|((with_reducible refine gate_callee (f:=7) rfl ?_);refine goesL_ (some 8) rfl rfl Try.func7 (by kernel_rfl) rfl #[.agg #[.int .i64 t149,.int .i64 t150,.int .i64 t151,.int .i64 t152,.int .i64 t153,.int .i64 t154,.int .i64 t155,.int .i64 t156,.int .i64 t157,.int .i64 t158,.int .i64 t159,.int .i64 t160,.int .i64 t161,.int .i64 t162,.int .i64 t163,.int .i64 t164],.slice A0 l0.length c0] rfl (by (try simp only [List.map_toArray,List.map_cons,List.map_nil]);first|done|rfl|(simp only [List.length_drop,List.length_take];rfl)) ?_;(with_reducible refine (resync_Correction.calls k t149 t150 t151 t152 t153 t154 t155 t156 t157 t158 t159 t160 t161 t162 t163 t164 _ _ l0 t165 Zy _ ?side1 ?side2 A3.out).mono ?_);(case side1=>repeat (first|exact (Kd.C_below HR0.out HB.out)|(with_reducible refine Kd.C_alloc ?_ _)|(with_reducible refine Kd.C_drewN ?_ _)|(with_reducible refine Kd.C_drew ?_)));(case side2=>exact HC0.out);rintro e w8 ⟨rfl,hb⟩;refine ⟨_,rfl,?_⟩;have n0_:=ks_ HB hb;clear HB;have HB:=n0_;clear n0_;(try clear hb);(try clear hb2);(try clear hk);(try clear hi)))
  go_ret
  exact ⟨by first|rfl|(simp [errW_none,errW_some] <;> rfl)|(simp [*,errW_none,errW_some] <;> rfl),by repeat (first|(with_reducible first|exact HB.out|apply below_alloc|apply pw_below_drewN|apply below_drew1)|exact HB.out)⟩

/-! ### vesperslaw15_alive: function 15 -/
def vesperslaw15_alive.f (k : Nat)  : Option (Bool):=(vesperslaw15_some.f).bind fun Qq=>((resync_Turn.f k Qq.1 Qq.2.1 Qq.2.2.1 Qq.2.2.2.1 Qq.2.2.2.2.1 Qq.2.2.2.2.2.1 Qq.2.2.2.2.2.2.1 Qq.2.2.2.2.2.2.2.1 Qq.2.2.2.2.2.2.2.2.1 Qq.2.2.2.2.2.2.2.2.2.1 Qq.2.2.2.2.2.2.2.2.2.2.1 Qq.2.2.2.2.2.2.2.2.2.2.2.1 Qq.2.2.2.2.2.2.2.2.2.2.2.2.1 Qq.2.2.2.2.2.2.2.2.2.2.2.2.2.1 Qq.2.2.2.2.2.2.2.2.2.2.2.2.2.2.1 Qq.2.2.2.2.2.2.2.2.2.2.2.2.2.2.2 0 0 0 false (([0,10,20,400] : List Int))).bind fun Qs=>((vesperslaw15_corrected.f k (([0,10,20,400] : List Int))).bind fun QN=>(if QN = (-15) then ((vesperslaw15_corrected.f k (([0,(-3)] : List Int))).bind fun QA=>(if QA = 0 then ((vesperslaw15_corrected.f k (([0,65,66,67] : List Int))).bind fun Qy=>(if Qy = 151000 then (if Qs.2.2.2.2.2 = 0 then (if Qs.2.2.2.2.1 = (-15) then (some (Qs.1 == 1 && (Qs.2.1 == 1 && (Qs.2.2.1 == (-15) && (!Qs.2.2.2.1))))) else (none)) else (none)) else (none))) else (none))) else (none))))
theorem vesperslaw15_alive.mono : ∀ k,LeO (vesperslaw15_alive.f k ) (vesperslaw15_alive.f (k + 1) ):=by
 intro  k
 unfold vesperslaw15_alive.f
 repeat' first
   | (with_reducible exact resync_Turn.mono _ _ _ _ _ _ _ _ _ _ _ _ _ _ _ _ _ _ _ _ _ _)
   | (with_reducible exact vesperslaw15_corrected.mono _ _)
   | (with_reducible exact LeO.refl _)
   | (with_reducible exact LeO.none _)
   | (with_reducible refine LeO.ite ?_ ?_)
   | (with_reducible refine LeO.bind ?_ (fun _=>?_))
   | exact resync_Turn.mono _ _ _ _ _ _ _ _ _ _ _ _ _ _ _ _ _ _ _ _ _ _
   | exact vesperslaw15_corrected.mono _ _
   | exact LeO.none _
   | refine LeO.ite ?_ ?_
   | refine LeO.bind ?_ (fun _=>?_)
set_option maxHeartbeats 8000000 in
set_option maxRecDepth 100000 in
theorem vesperslaw15_alive.calls (k : Nat)  (r : Bool) (w : World) (h : vesperslaw15_alive.f k  = some r) :
  Calls Try.prog 15 #[] w fun e w'=>e = .returned (.bool r)∧Below w.heap.size w w':=by
 have hu25:=Try.underlying25
 have HB:=Aside0.mk (Below.refl w.heap.size w)
 have H : ((vesperslaw15_some.f).bind fun Qq=>((resync_Turn.f k Qq.1 Qq.2.1 Qq.2.2.1 Qq.2.2.2.1 Qq.2.2.2.2.1 Qq.2.2.2.2.2.1 Qq.2.2.2.2.2.2.1 Qq.2.2.2.2.2.2.2.1 Qq.2.2.2.2.2.2.2.2.1 Qq.2.2.2.2.2.2.2.2.2.1 Qq.2.2.2.2.2.2.2.2.2.2.1 Qq.2.2.2.2.2.2.2.2.2.2.2.1 Qq.2.2.2.2.2.2.2.2.2.2.2.2.1 Qq.2.2.2.2.2.2.2.2.2.2.2.2.2.1 Qq.2.2.2.2.2.2.2.2.2.2.2.2.2.2.1 Qq.2.2.2.2.2.2.2.2.2.2.2.2.2.2.2 0 0 0 false (([0,10,20,400] : List Int))).bind fun Qs=>((vesperslaw15_corrected.f k (([0,10,20,400] : List Int))).bind fun QN=>(if QN = (-15) then ((vesperslaw15_corrected.f k (([0,(-3)] : List Int))).bind fun QA=>(if QA = 0 then ((vesperslaw15_corrected.f k (([0,65,66,67] : List Int))).bind fun Qy=>(if Qy = 151000 then (if Qs.2.2.2.2.2 = 0 then (if Qs.2.2.2.2.1 = (-15) then (some (Qs.1 == 1 && (Qs.2.1 == 1 && (Qs.2.2.1 == (-15) && (!Qs.2.2.2.1))))) else (none)) else (none)) else (none))) else (none))) else (none))))) = some r:=h
 clear h
 replace H:=Option.bind_eq_some_iff.mp H
 obtain ⟨⟨t167,t168,t169,t170,t171,t172,t173,t174,t175,t176,t177,t178,t179,t180,t181,t182⟩,A10,H⟩:=H
 replace H : ((resync_Turn.f k t167 t168 t169 t170 t171 t172 t173 t174 t175 t176 t177 t178 t179 t180 t181 t182 0 0 0 false (([0,10,20,400] : List Int))).bind fun Qs=>((vesperslaw15_corrected.f k (([0,10,20,400] : List Int))).bind fun QN=>(if QN = (-15) then ((vesperslaw15_corrected.f k (([0,(-3)] : List Int))).bind fun QA=>(if QA = 0 then ((vesperslaw15_corrected.f k (([0,65,66,67] : List Int))).bind fun Qy=>(if Qy = 151000 then (if Qs.2.2.2.2.2 = 0 then (if Qs.2.2.2.2.1 = (-15) then (some (Qs.1 == 1 && (Qs.2.1 == 1 && (Qs.2.2.1 == (-15) && (!Qs.2.2.2.1))))) else (none)) else (none)) else (none))) else (none))) else (none)))) = some r:=H
 have A1:=Aside0.mk A10
 clear A10
 obtain ⟨y183,hy183⟩ : ∃ y_ : List Int,y_ = (([0,10,20,400] : List Int)):=⟨_,rfl⟩
 replace H : ((resync_Turn.f k t167 t168 t169 t170 t171 t172 t173 t174 t175 t176 t177 t178 t179 t180 t181 t182 0 0 0 false y183).bind fun Qs=>((vesperslaw15_corrected.f k (([0,10,20,400] : List Int))).bind fun QN=>(if QN = (-15) then ((vesperslaw15_corrected.f k (([0,(-3)] : List Int))).bind fun QA=>(if QA = 0 then ((vesperslaw15_corrected.f k (([0,65,66,67] : List Int))).bind fun Qy=>(if Qy = 151000 then (if Qs.2.2.2.2.2 = 0 then (if Qs.2.2.2.2.1 = (-15) then (some (Qs.1 == 1 && (Qs.2.1 == 1 && (Qs.2.2.1 == (-15) && (!Qs.2.2.2.1))))) else (none)) else (none)) else (none))) else (none))) else (none)))) = some r:=by first|(rw [hy183];with_reducible exact H)|(have H2_:=(Option.bind_some _ _).symm.trans H;rw [hy183];with_reducible exact H2_)|(have H2_:=(Option.bind_some _ _).symm.trans H;with_reducible exact H2_)|with_reducible exact H|(rw [hy183];exact H)|exact H
 have Ny183:=Aside0.mk hy183
 clear hy183
 replace H:=Option.bind_eq_some_iff.mp H
 obtain ⟨⟨Za,Zc,Zp,Zt,Zq,Zr⟩,A20,H⟩:=H
 replace H : ((vesperslaw15_corrected.f k (([0,10,20,400] : List Int))).bind fun QN=>(if QN = (-15) then ((vesperslaw15_corrected.f k (([0,(-3)] : List Int))).bind fun QA=>(if QA = 0 then ((vesperslaw15_corrected.f k (([0,65,66,67] : List Int))).bind fun Qy=>(if Qy = 151000 then (if Zr = 0 then (if Zq = (-15) then (some (Za == 1 && (Zc == 1 && (Zp == (-15) && (!Zt))))) else (none)) else (none)) else (none))) else (none))) else (none))) = some r:=H
 have A2:=Aside0.mk A20
 clear A20
 obtain ⟨y193,hy193⟩ : ∃ y_ : List Int,y_ = (([0,10,20,400] : List Int)):=⟨_,rfl⟩
 replace H : ((vesperslaw15_corrected.f k y193).bind fun QN=>(if QN = (-15) then ((vesperslaw15_corrected.f k (([0,(-3)] : List Int))).bind fun QA=>(if QA = 0 then ((vesperslaw15_corrected.f k (([0,65,66,67] : List Int))).bind fun Qy=>(if Qy = 151000 then (if Zr = 0 then (if Zq = (-15) then (some (Za == 1 && (Zc == 1 && (Zp == (-15) && (!Zt))))) else (none)) else (none)) else (none))) else (none))) else (none))) = some r:=by first|(rw [hy193];with_reducible exact H)|(have H2_:=(Option.bind_some _ _).symm.trans H;rw [hy193];with_reducible exact H2_)|(have H2_:=(Option.bind_some _ _).symm.trans H;with_reducible exact H2_)|with_reducible exact H|(rw [hy193];exact H)|exact H
 have Ny193:=Aside0.mk hy193
 clear hy193
 replace H:=Option.bind_eq_some_iff.mp H
 obtain ⟨QN,A30,H⟩:=H
 replace H : (if QN = (-15) then ((vesperslaw15_corrected.f k (([0,(-3)] : List Int))).bind fun QA=>(if QA = 0 then ((vesperslaw15_corrected.f k (([0,65,66,67] : List Int))).bind fun Qy=>(if Qy = 151000 then (if Zr = 0 then (if Zq = (-15) then (some (Za == 1 && (Zc == 1 && (Zp == (-15) && (!Zt))))) else (none)) else (none)) else (none))) else (none))) else (none)) = some r:=H
 have A3:=Aside0.mk A30
 clear A30
 by_cases c4 : QN = (-15)
 ·rw [if_pos c4] at H
  have c4b0 : (QN == (-15)) = true:=beq_iff_eq.mpr c4
  have c4b1 : (QN != (-15)) = false:=bne_eq_false_iff_eq.mpr c4
  clear c4
  obtain ⟨y197,hy197⟩ : ∃ y_ : List Int,y_ = (([0,(-3)] : List Int)):=⟨_,rfl⟩
  replace H : ((vesperslaw15_corrected.f k y197).bind fun QA=>(if QA = 0 then ((vesperslaw15_corrected.f k (([0,65,66,67] : List Int))).bind fun Qy=>(if Qy = 151000 then (if Zr = 0 then (if Zq = (-15) then (some (Za == 1 && (Zc == 1 && (Zp == (-15) && (!Zt))))) else (none)) else (none)) else (none))) else (none))) = some r:=by first|(rw [hy197];with_reducible exact H)|(have H2_:=(Option.bind_some _ _).symm.trans H;rw [hy197];with_reducible exact H2_)|(have H2_:=(Option.bind_some _ _).symm.trans H;with_reducible exact H2_)|with_reducible exact H|(rw [hy197];exact H)|exact H
  have Ny197:=Aside0.mk hy197
  clear hy197
  replace H:=Option.bind_eq_some_iff.mp H
  obtain ⟨QA,A50,H⟩:=H
  replace H : (if QA = 0 then ((vesperslaw15_corrected.f k (([0,65,66,67] : List Int))).bind fun Qy=>(if Qy = 151000 then (if Zr = 0 then (if Zq = (-15) then (some (Za == 1 && (Zc == 1 && (Zp == (-15) && (!Zt))))) else (none)) else (none)) else (none))) else (none)) = some r:=H
  have A5:=Aside0.mk A50
  clear A50
  by_cases c6 : QA = 0
  ·rw [if_pos c6] at H
   have c6b0 : (QA == 0) = true:=beq_iff_eq.mpr c6
   have c6b1 : (QA != 0) = false:=bne_eq_false_iff_eq.mpr c6
   clear c6
   obtain ⟨y201,hy201⟩ : ∃ y_ : List Int,y_ = (([0,65,66,67] : List Int)):=⟨_,rfl⟩
   replace H : ((vesperslaw15_corrected.f k y201).bind fun Qy=>(if Qy = 151000 then (if Zr = 0 then (if Zq = (-15) then (some (Za == 1 && (Zc == 1 && (Zp == (-15) && (!Zt))))) else (none)) else (none)) else (none))) = some r:=by first|(rw [hy201];with_reducible exact H)|(have H2_:=(Option.bind_some _ _).symm.trans H;rw [hy201];with_reducible exact H2_)|(have H2_:=(Option.bind_some _ _).symm.trans H;with_reducible exact H2_)|with_reducible exact H|(rw [hy201];exact H)|exact H
   have Ny201:=Aside0.mk hy201
   clear hy201
   replace H:=Option.bind_eq_some_iff.mp H
   obtain ⟨Qy,A70,H⟩:=H
   replace H : (if Qy = 151000 then (if Zr = 0 then (if Zq = (-15) then (some (Za == 1 && (Zc == 1 && (Zp == (-15) && (!Zt))))) else (none)) else (none)) else (none)) = some r:=H
   have A7:=Aside0.mk A70
   clear A70
   by_cases c8 : Qy = 151000
   ·rw [if_pos c8] at H
    have c8b0 : (Qy == 151000) = true:=beq_iff_eq.mpr c8
    have c8b1 : (Qy != 151000) = false:=bne_eq_false_iff_eq.mpr c8
    clear c8
    by_cases c9 : Zr = 0
    ·rw [if_pos c9] at H
     have c9b0 : (Zr == 0) = true:=beq_iff_eq.mpr c9
     have c9b1 : (Zr != 0) = false:=bne_eq_false_iff_eq.mpr c9
     clear c9
     by_cases c10 : Zq = (-15)
     ·rw [if_pos c10] at H
      have c10b0 : (Zq == (-15)) = true:=beq_iff_eq.mpr c10
      have c10b1 : (Zq != (-15)) = false:=bne_eq_false_iff_eq.mpr c10
      clear c10
      obtain rfl:=Option.some.inj H
      go_enter Try.func15,Try.ntmps15
      go_wp2_with (first|((with_reducible refine gate_callee (f:=17) rfl ?_);refine goesL_ (some 5) rfl rfl Try.func17 (by kernel_rfl) rfl #[] rfl (by (try simp only [List.map_toArray,List.map_cons,List.map_nil]);first|done|rfl|(simp only [List.length_drop,List.length_take];rfl)) ?_;(with_reducible refine (vesperslaw15_some.calls  t167 t168 t169 t170 t171 t172 t173 t174 t175 t176 t177 t178 t179 t180 t181 t182 _ A1.out).mono ?_);rintro e w11 ⟨rfl,hb⟩;refine ⟨_,rfl,?_⟩;have n0_:=ks_ HB hb;clear HB;have HB:=n0_;clear n0_;(try clear hb);(try clear hb2);(try clear hk);(try clear hi))|((with_reducible refine gate_dst (N:=7) rfl ?_);(try (refine gate_guard (by rfl) ?_;dsimp only));refine Kd.R_lit (Kd.int .i64) _ 2 ?hg (N:=7) ?hd (xs:=([0,10,20,400] : List Int)) (inner:=[.int .i64 0,.int .i64 10,.int .i64 20,.int .i64 400]) (ok:=fun _=>True) (okp:=fun _=>True) ?hr ?hp (fun _ hk=>hk) trivial (Below.refl _ _) (Nat.le_refl _) (by simp) ?_;(case hd=>rfl);(case hg=>rfl);(case hr=>first|(go_simp;done)|(go_simp;rfl));(case hp=>exact (Reps.one (show Kd.M (Kd.int .i64) _ _ _ 0 [.int .i64 0] from rfl) (Reps.one (show Kd.M (Kd.int .i64) _ _ _ 10 [.int .i64 10] from rfl) (Reps.one (show Kd.M (Kd.int .i64) _ _ _ 20 [.int .i64 20] from rfl) (Reps.one (show Kd.M (Kd.int .i64) _ _ _ 400 [.int .i64 400] from rfl) (Reps.none _ _))))));intro v184 w12 ho13 hb hg_ hnew_;clear hg_ hnew_;(first|rw [← Ny183.out] at ho13|(simp only [Int.reduceToNat] at ho13;rw [← Ny183.out] at ho13));have n0_:=Aside0.mk (Kd.R_lower ho13 (kz_ HB));have n1_:=ks_ HB hb;clear HB;have HO185:=n0_;have HB:=n1_;clear n0_ n1_;clear hb ho13;obtain ⟨Ao14,co14,eo14⟩:=Kd.R_slice HO185.out;subst eo14)|((with_reducible refine gate_callee (f:=9) rfl ?_);refine goesL_ (some 8) rfl rfl Try.func9 (by kernel_rfl) rfl #[.agg #[.int .i64 t167,.int .i64 t168,.int .i64 t169,.int .i64 t170,.int .i64 t171,.int .i64 t172,.int .i64 t173,.int .i64 t174,.int .i64 t175,.int .i64 t176,.int .i64 t177,.int .i64 t178,.int .i64 t179,.int .i64 t180,.int .i64 t181,.int .i64 t182],.agg #[.int .i64 0,.int .i64 0,.int .i64 0,.bool false],.slice Ao14 y183.length co14] rfl (by (try simp only [List.map_toArray,List.map_cons,List.map_nil]);first|done|rfl|(simp only [List.length_drop,List.length_take];rfl)) ?_;(with_reducible refine (resync_Turn.calls k t167 t168 t169 t170 t171 t172 t173 t174 t175 t176 t177 t178 t179 t180 t181 t182 0 0 0 false _ _ y183 Za Zc Zp Zt Zq Zr _ ?side1 ?side2 A2.out).mono ?_);(case side1=>repeat (first|exact (Kd.R_reads' HO185.out).2.2|(with_reducible refine Kd.C_alloc ?_ _)|(with_reducible refine Kd.C_drewN ?_ _)|(with_reducible refine Kd.C_drew ?_)));(case side2=>exact (Kd.R_reads' HO185.out).2.1);rintro e w15 ⟨rfl,hb⟩;refine ⟨_,rfl,?_⟩;have n0_:=kr_ HO185 hb;have n1_:=ks_ HB hb;clear HO185;clear HB;have HO185:=n0_;have HB:=n1_;clear n0_ n1_;(try clear hb);(try clear hb2);(try clear hk);(try clear hi))|((with_reducible refine gate_dst (N:=1) rfl ?_);(try (refine gate_guard (by rfl) ?_;dsimp only));refine box_event ?hg (N:=1) ?hd (cs:=#[.int .i64 0,.int .i64 0,.int .i64 0,.bool false]) (t:=25) ?hr ?_;(case hd=>rfl);(case hg=>rfl);(case hr=>first|(go_simp;done)|(go_simp;rfl));intro QB hg w16 hbox hb;have n0_:=kr_ HO185 hb;have n1_:=ks_ HB hb;have n2_:=Aside0.mk (hbox);have n3_:=Aside0.mk ((by rw [hg];exact (kz_ HB) : w.heap.size ≤ QB));have n4_:=Aside0.mk ((by rw [hg];exact (kz_ HB) : w.heap.size ≤ QB));clear HO185;clear HB;have HO185:=n0_;have HB:=n1_;have Qn:=n2_;have GW192:=n3_;have GE192:=n4_;clear n0_ n1_ n2_ n3_ n4_;clear hb hbox hg;have hcz17_0 : w16.cell? ⟨QB,0,none⟩ = some (.int .i64 0):=(blk_cell Qn.out 0).trans rfl;have hcz17_1 : w16.cell? ⟨QB,1,none⟩ = some (.int .i64 0):=(blk_cell Qn.out 1).trans rfl;have hcz17_2 : w16.cell? ⟨QB,2,none⟩ = some (.int .i64 0):=(blk_cell Qn.out 2).trans rfl;have hcz17_3 : w16.cell? ⟨QB,3,none⟩ = some (.bool false):=(blk_cell Qn.out 3).trans rfl;have hfz17_0:=blk_frozen Qn.out 0;have hfz17_1:=blk_frozen Qn.out 1;have hfz17_2:=blk_frozen Qn.out 2;have hfz17_3:=blk_frozen Qn.out 3)|((with_reducible refine gate_dst (N:=12) rfl ?_);(try (refine gate_guard (by rfl) ?_;dsimp only));refine Kd.R_lit (Kd.int .i64) _ 2 ?hg (N:=12) ?hd (xs:=([0,10,20,400] : List Int)) (inner:=[.int .i64 0,.int .i64 10,.int .i64 20,.int .i64 400]) (ok:=fun _=>True) (okp:=fun _=>True) ?hr ?hp (fun _ hk=>hk) trivial (Below.refl _ _) (Nat.le_refl _) (by simp) ?_;(case hd=>rfl);(case hg=>rfl);(case hr=>first|(go_simp;done)|(go_simp;rfl));(case hp=>exact (Reps.one (show Kd.M (Kd.int .i64) _ _ _ 0 [.int .i64 0] from rfl) (Reps.one (show Kd.M (Kd.int .i64) _ _ _ 10 [.int .i64 10] from rfl) (Reps.one (show Kd.M (Kd.int .i64) _ _ _ 20 [.int .i64 20] from rfl) (Reps.one (show Kd.M (Kd.int .i64) _ _ _ 400 [.int .i64 400] from rfl) (Reps.none _ _))))));intro v194 w18 ho19 hb hg_ hnew_;clear hg_ hnew_;(first|rw [← Ny193.out] at ho19|(simp only [Int.reduceToNat] at ho19;rw [← Ny193.out] at ho19));have n0_:=Aside0.mk (Kd.R_elder' (by (with_reducible repeat (first|apply Kd.R_alloc|apply Kd.R_drewN|apply Kd.R_drew));exact (rf4_ (g:=QB) (Kd.R_types HO185.out Qn.out (by decide)))) (Kd.R_base ho19) hb);have n1_:=Aside0.mk (Kd.R_lower (Kd.R_new' ho19 (Kd.R_lt (by (with_reducible repeat (first|apply Kd.R_alloc|apply Kd.R_drewN|apply Kd.R_drew));exact (rf4_ (g:=QB) (Kd.R_types HO185.out Qn.out (by decide)))))) (kz_ HB));have n2_:=Aside0.mk (blk_below (g:=QB) (o:=.cells #[.int .i64 Za,.int .i64 Zc,.int .i64 Zp,.bool Zt] 25 (0,0)) (by (with_reducible repeat (first|refine blk_drewN ?_ _|refine blk_drew ?_|refine blk_alloc ?_ _));refine blk_put (cs:=#[.int .i64 Za,.int .i64 Zc,.int .i64 Zp,.bool false]) ?_ 3 _ rfl;(with_reducible repeat (first|refine blk_drewN ?_ _|refine blk_drew ?_|refine blk_alloc ?_ _));refine blk_put (cs:=#[.int .i64 Za,.int .i64 Zc,.int .i64 0,.bool false]) ?_ 2 _ rfl;(with_reducible repeat (first|refine blk_drewN ?_ _|refine blk_drew ?_|refine blk_alloc ?_ _));refine blk_put (cs:=#[.int .i64 Za,.int .i64 0,.int .i64 0,.bool false]) ?_ 1 _ rfl;(with_reducible repeat (first|refine blk_drewN ?_ _|refine blk_drew ?_|refine blk_alloc ?_ _));refine blk_put (cs:=#[.int .i64 0,.int .i64 0,.int .i64 0,.bool false]) ?_ 0 _ rfl;(with_reducible repeat (first|refine blk_drewN ?_ _|refine blk_drew ?_|refine blk_alloc ?_ _));exact Qn.out) hb);have n3_:=ks_ HB hb;clear HO185;clear Qn;clear HB;have HO185:=n0_;have HO195:=n1_;have Qn:=n2_;have HB:=n3_;clear n0_ n1_ n2_ n3_;clear hb ho19;obtain ⟨Ao20,co20,eo20⟩:=Kd.R_slice HO195.out;subst eo20)|((with_reducible refine gate_callee (f:=18) rfl ?_);refine goesL_ (some 13) rfl rfl Try.func18 (by kernel_rfl) rfl #[.slice Ao20 y193.length co20] rfl (by (try simp only [List.map_toArray,List.map_cons,List.map_nil]);first|done|rfl|(simp only [List.length_drop,List.length_take];rfl)) ?_;(with_reducible refine (vesperslaw15_corrected.calls k _ _ y193 QN _ ?side1 ?side2 A3.out).mono ?_);(case side1=>repeat (first|exact (Kd.R_reads' HO195.out).2.2|(with_reducible refine Kd.C_alloc ?_ _)|(with_reducible refine Kd.C_drewN ?_ _)|(with_reducible refine Kd.C_drew ?_)));(case side2=>exact (Kd.R_reads' HO195.out).2.1);rintro e w21 ⟨rfl,hb⟩;refine ⟨_,rfl,?_⟩;have n0_:=kr_ HO185 hb;have n1_:=kr_ HO195 hb;have n2_:=kb_ Qn hb;have n3_:=ks_ HB hb;clear HO185;clear HO195;clear Qn;clear HB;have HO185:=n0_;have HO195:=n1_;have Qn:=n2_;have HB:=n3_;clear n0_ n1_ n2_ n3_;(try clear hb);(try clear hb2);(try clear hk);(try clear hi))|((with_reducible refine gate_dst (N:=16) rfl ?_);(try (refine gate_guard (by rfl) ?_;dsimp only));refine Kd.R_lit (Kd.int .i64) _ 2 ?hg (N:=16) ?hd (xs:=([0,(-3)] : List Int)) (inner:=[.int .i64 0,.int .i64 (-3)]) (ok:=fun _=>True) (okp:=fun _=>True) ?hr ?hp (fun _ hk=>hk) trivial (Below.refl _ _) (Nat.le_refl _) (by simp) ?_;(case hd=>rfl);(case hg=>rfl);(case hr=>first|(go_simp;done)|(go_simp;rfl));(case hp=>exact (Reps.one (show Kd.M (Kd.int .i64) _ _ _ 0 [.int .i64 0] from rfl) (Reps.one (show Kd.M (Kd.int .i64) _ _ _ (-3) [.int .i64 (-3)] from rfl) (Reps.none _ _))));intro v198 w22 ho23 hb hg_ hnew_;clear hg_ hnew_;(first|rw [← Ny197.out] at ho23|(simp only [Int.reduceToNat] at ho23;rw [← Ny197.out] at ho23));have n0_:=Aside0.mk (Kd.R_elder' (by (with_reducible repeat (first|apply Kd.R_alloc|apply Kd.R_drewN|apply Kd.R_drew));exact HO185.out) (Kd.R_base ho23) hb);have n1_:=Aside0.mk (Kd.R_elder' (by (with_reducible repeat (first|apply Kd.R_alloc|apply Kd.R_drewN|apply Kd.R_drew));exact HO195.out) (Kd.R_base ho23) hb);have n2_:=Aside0.mk (Kd.R_lower (Kd.R_new' (Kd.R_new' ho23 (Kd.R_lt (by (with_reducible repeat (first|apply Kd.R_alloc|apply Kd.R_drewN|apply Kd.R_drew));exact HO185.out))) (Kd.R_lt (by (with_reducible repeat (first|apply Kd.R_alloc|apply Kd.R_drewN|apply Kd.R_drew));exact HO195.out))) (kz_ HB));have n3_:=kb_ Qn hb;have n4_:=ks_ HB hb;clear HO185;clear HO195;clear Qn;clear HB;have HO185:=n0_;have HO195:=n1_;have HO199:=n2_;have Qn:=n3_;have HB:=n4_;clear n0_ n1_ n2_ n3_ n4_;clear hb ho23;obtain ⟨Ao24,co24,eo24⟩:=Kd.R_slice HO199.out;subst eo24)|(go_at_call 18;(with_reducible refine (vesperslaw15_corrected.calls k _ _ y197 QA _ ?side1 ?side2 A5.out).mono ?_);(case side1=>repeat (first|exact (Kd.R_reads' HO199.out).2.2|(with_reducible refine Kd.C_alloc ?_ _)|(with_reducible refine Kd.C_drewN ?_ _)|(with_reducible refine Kd.C_drew ?_)));(case side2=>exact (Kd.R_reads' HO199.out).2.1);rintro e w25 ⟨rfl,hb⟩;have n0_:=kr_ HO185 hb;have n1_:=kr_ HO195 hb;have n2_:=kr_ HO199 hb;have n3_:=kb_ Qn hb;have n4_:=ks_ HB hb;clear HO185;clear HO195;clear HO199;clear Qn;clear HB;have HO185:=n0_;have HO195:=n1_;have HO199:=n2_;have Qn:=n3_;have HB:=n4_;clear n0_ n1_ n2_ n3_ n4_;(try clear hb);(try clear hb2);(try clear hk);(try clear hi))|((with_reducible refine gate_dst (N:=21) rfl ?_);(try (refine gate_guard (by rfl) ?_;dsimp only));refine Kd.R_lit (Kd.int .i64) _ 2 ?hg (N:=21) ?hd (xs:=([0,65,66,67] : List Int)) (inner:=[.int .i64 0,.int .i64 65,.int .i64 66,.int .i64 67]) (ok:=fun _=>True) (okp:=fun _=>True) ?hr ?hp (fun _ hk=>hk) trivial (Below.refl _ _) (Nat.le_refl _) (by simp) ?_;(case hd=>rfl);(case hg=>rfl);(case hr=>first|(go_simp;done)|(go_simp;rfl));(case hp=>exact (Reps.one (show Kd.M (Kd.int .i64) _ _ _ 0 [.int .i64 0] from rfl) (Reps.one (show Kd.M (Kd.int .i64) _ _ _ 65 [.int .i64 65] from rfl) (Reps.one (show Kd.M (Kd.int .i64) _ _ _ 66 [.int .i64 66] from rfl) (Reps.one (show Kd.M (Kd.int .i64) _ _ _ 67 [.int .i64 67] from rfl) (Reps.none _ _))))));intro v202 w26 ho27 hb hg_ hnew_;clear hg_ hnew_;(first|rw [← Ny201.out] at ho27|(simp only [Int.reduceToNat] at ho27;rw [← Ny201.out] at ho27));have n0_:=Aside0.mk (Kd.R_elder' (by (with_reducible repeat (first|apply Kd.R_alloc|apply Kd.R_drewN|apply Kd.R_drew));exact HO185.out) (Kd.R_base ho27) hb);have n1_:=Aside0.mk (Kd.R_elder' (by (with_reducible repeat (first|apply Kd.R_alloc|apply Kd.R_drewN|apply Kd.R_drew));exact HO195.out) (Kd.R_base ho27) hb);have n2_:=Aside0.mk (Kd.R_elder' (by (with_reducible repeat (first|apply Kd.R_alloc|apply Kd.R_drewN|apply Kd.R_drew));exact HO199.out) (Kd.R_base ho27) hb);have n3_:=Aside0.mk (Kd.R_lower (Kd.R_new' (Kd.R_new' (Kd.R_new' ho27 (Kd.R_lt (by (with_reducible repeat (first|apply Kd.R_alloc|apply Kd.R_drewN|apply Kd.R_drew));exact HO185.out))) (Kd.R_lt (by (with_reducible repeat (first|apply Kd.R_alloc|apply Kd.R_drewN|apply Kd.R_drew));exact HO195.out))) (Kd.R_lt (by (with_reducible repeat (first|apply Kd.R_alloc|apply Kd.R_drewN|apply Kd.R_drew));exact HO199.out))) (kz_ HB));have n4_:=kb_ Qn hb;have n5_:=ks_ HB hb;clear HO185;clear HO195;clear HO199;clear Qn;clear HB;have HO185:=n0_;have HO195:=n1_;have HO199:=n2_;have HO203:=n3_;have Qn:=n4_;have HB:=n5_;clear n0_ n1_ n2_ n3_ n4_ n5_;clear hb ho27;obtain ⟨Ao28,co28,eo28⟩:=Kd.R_slice HO203.out;subst eo28)|(go_at_call 18;(with_reducible refine (vesperslaw15_corrected.calls k _ _ y201 Qy _ ?side1 ?side2 A7.out).mono ?_);(case side1=>repeat (first|exact (Kd.R_reads' HO203.out).2.2|(with_reducible refine Kd.C_alloc ?_ _)|(with_reducible refine Kd.C_drewN ?_ _)|(with_reducible refine Kd.C_drew ?_)));(case side2=>exact (Kd.R_reads' HO203.out).2.1);rintro e w29 ⟨rfl,hb⟩;have n0_:=kr_ HO185 hb;have n1_:=kr_ HO195 hb;have n2_:=kr_ HO199 hb;have n3_:=kr_ HO203 hb;have n4_:=kb_ Qn hb;have n5_:=ks_ HB hb;clear HO185;clear HO195;clear HO199;clear HO203;clear Qn;clear HB;have HO185:=n0_;have HO195:=n1_;have HO199:=n2_;have HO203:=n3_;have Qn:=n4_;have HB:=n5_;clear n0_ n1_ n2_ n3_ n4_ n5_;(try clear hb);(try clear hb2);(try clear hk);(try clear hi);have hcz30_0 : w29.cell? ⟨QB,0,none⟩ = some (.int .i64 Za):=(blk_cell Qn.out 0).trans rfl;have hcz30_1 : w29.cell? ⟨QB,1,none⟩ = some (.int .i64 Zc):=(blk_cell Qn.out 1).trans rfl;have hcz30_2 : w29.cell? ⟨QB,2,none⟩ = some (.int .i64 Zp):=(blk_cell Qn.out 2).trans rfl;have hcz30_3 : w29.cell? ⟨QB,3,none⟩ = some (.bool Zt):=(blk_cell Qn.out 3).trans rfl;have hfz30_0:=blk_frozen Qn.out 0;have hfz30_1:=blk_frozen Qn.out 1;have hfz30_2:=blk_frozen Qn.out 2;have hfz30_3:=blk_frozen Qn.out 3))
      go_ret
      exact ⟨by first|rfl|(simp [errW_none,errW_some] <;> rfl)|(simp [*,errW_none,errW_some] <;> rfl),by repeat (first|(with_reducible first|exact HB.out|apply below_alloc|apply pw_below_drewN|apply below_drew1|refine below_set ?_ GE192.out)|exact HB.out)⟩
     ·rw [if_neg c10] at H
      exact absurd H (by simp)
    ·rw [if_neg c9] at H
     exact absurd H (by simp)
   ·rw [if_neg c8] at H
    exact absurd H (by simp)
  ·rw [if_neg c6] at H
   exact absurd H (by simp)
 ·rw [if_neg c4] at H
  exact absurd H (by simp)

/-- THE ONE PURE STATEMENT of vesperslaw15_alive: yours. -/
def vesperslaw15_alive.Pure : Prop:=∃ k,vesperslaw15_alive.f k  = some true
theorem vesperslaw15_alive.walk (P : vesperslaw15_alive.Pure)  (w : World)  :
  Calls Try.prog 15 #[] w fun e w'=>e = .returned (.bool true)∧Below w.heap.size w w':=by
 obtain ⟨k,h⟩:=P  
 refine (vesperslaw15_alive.calls k  true w h).mono ?_
 rintro e w' ⟨rfl,hd⟩
 exact ⟨rfl,hd⟩

end Go.Proofs.Ytnmephdamgofnaa.PB
