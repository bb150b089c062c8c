/- Written by a program of this session (wip/jprint.py, over the printer of the kit): functions that a law comes to, as plain Lean functions, and walks; Lean checks it. -/
import Derived.Test.YtnmephdamgofnaaPBx0
import Derived.Test.YtnmephdamgofnaaPBx1
import Derived.Test.YtnmephdamgofnaaPBx2
namespace Go.Proofs.Ytnmephdamgofnaa.PB
open Go.RowKit Go.Proofs.Ytnmephdamgofnaa.Hand Go.Proofs.Ytnmephdamgofnaa.PA Go.Proofs.YtnmephdamgofnaaW.PrintWords Go.Proofs.YtnmephdamgofnaaW.PrintLast Go.Proofs.YtnmephdamgofnaaW.PrintMore
attribute [local go_sem] max2_int min2_int max_two min_two max_three min_three max_four min_four   -- for this text's walks alone
set_option linter.unusedVariables false
set_option linter.unusedSimpArgs false

attribute [local go_sem high] eqA25
/-! ### resync_Turn: function 9 -/
mutual
def resync_Turn.j0 : Nat→Int→Int→Bool→Int→Int→Int→Bool→Option (Int × Int × Int × Bool × Int × Int)
 | 0,_,_,_,_,_,_,_=>none
 | k + 1,x7,x8,x21,x124000,x124001,x124002,Zq=>if x21 = true then (some (0,0,0,false,0,150)) else (if x8 = 151 then (resync_Turn.j1 k x7 true x124000 x124001 x124002 Zq) else (resync_Turn.j1 k x7 Zq x124000 x124001 x124002 Zq))
def resync_Turn.j1 : Nat→Int→Bool→Int→Int→Int→Bool→Option (Int × Int × Int × Bool × Int × Int)
 | 0,_,_,_,_,_,_=>none
 | k + 1,x7,x29,QR,QS,QT,QZ=>if x29 = true then (some (QR,QS,QT,true,0,151)) else (if x7 = 0 then ((resync_may.f (wrap64 (QR + 1)) QS (wrap64 (QT + x7)) QZ).bind fun t128=>(if t128 = true then (some (wrap64 (QR + 1),QS,wrap64 (QT + x7),QZ,x7,0)) else (some (0,0,0,false,0,150)))) else ((resync_may.f (wrap64 (QR + 1)) (wrap64 (QS + 1)) (wrap64 (QT + x7)) QZ).bind fun t129=>(if t129 = true then (some (wrap64 (QR + 1),wrap64 (QS + 1),wrap64 (QT + x7),QZ,x7,0)) else (some (0,0,0,false,0,150)))))
end
def resync_Turn.f (k : Nat) (Za : Int) (Zb : Int) (Zc : Int) (Zd : Int) (Ze : Int) (Zf : Int) (Zg : Int) (Zh : Int) (Zi : Int) (Zj : Int) (Qy : Int) (Qz : Int) (QA : Int) (QB : Int) (QC : Int) (QD : Int) (Qb : Int) (Qc : Int) (Qd : Int) (Qf : Bool) (l2 : List Int) : Option (Int × Int × Int × Bool × Int × Int):=(resync_Correction.f k Za Zb Zc Zd Ze Zf Zg Zh Zi Zj Qy Qz QA QB QC QD l2).bind fun QE=>(if QE.2 = 150 then (resync_Turn.j0 k QE.1 QE.2 true Qb Qc Qd Qf) else ((resync_may.f Qb Qc Qd Qf).bind fun Zr=>(resync_Turn.j0 k QE.1 QE.2 (!Zr) Qb Qc Qd Qf)))
theorem resync_Turn.mono_l : ∀ k,(∀ y0 y1 y2 y3 y4 y5 y6,LeO (resync_Turn.j0 k y0 y1 y2 y3 y4 y5 y6) (resync_Turn.j0 (k + 1) y0 y1 y2 y3 y4 y5 y6))∧(∀ y0 y1 y2 y3 y4 y5,LeO (resync_Turn.j1 k y0 y1 y2 y3 y4 y5) (resync_Turn.j1 (k + 1) y0 y1 y2 y3 y4 y5))
 | 0=>⟨fun _ _ _ _ _ _ _ r h=>by simp [resync_Turn.j0] at h,fun _ _ _ _ _ _ r h=>by simp [resync_Turn.j1] at h⟩
 | k + 1=>by
  obtain ⟨ih0,ih1⟩:=resync_Turn.mono_l k
  refine ⟨?_,?_⟩
  ·intro y0 y1 y2 y3 y4 y5 y6
   unfold resync_Turn.j0
   repeat' first
   | (with_reducible exact ih0 _ _ _ _ _ _ _)
   | (with_reducible exact ih1 _ _ _ _ _ _)
   | (with_reducible exact resync_Correction.mono _ _ _ _ _ _ _ _ _ _ _ _ _ _ _ _ _ _)
   | (with_reducible exact LeO.refl _)
   | (with_reducible exact LeO.none _)
   | (with_reducible refine LeO.ite ?_ ?_)
   | (with_reducible refine LeO.bind ?_ (fun _=>?_))
   | exact ih0 _ _ _ _ _ _ _
   | exact ih1 _ _ _ _ _ _
   | exact resync_Correction.mono _ _ _ _ _ _ _ _ _ _ _ _ _ _ _ _ _ _
   | exact LeO.none _
   | refine LeO.ite ?_ ?_
   | refine LeO.bind ?_ (fun _=>?_)
  ·intro y0 y1 y2 y3 y4 y5
   unfold resync_Turn.j1
   repeat' first
   | (with_reducible exact ih0 _ _ _ _ _ _ _)
   | (with_reducible exact ih1 _ _ _ _ _ _)
   | (with_reducible exact resync_Correction.mono _ _ _ _ _ _ _ _ _ _ _ _ _ _ _ _ _ _)
   | (with_reducible exact LeO.refl _)
   | (with_reducible exact LeO.none _)
   | (with_reducible refine LeO.ite ?_ ?_)
   | (with_reducible refine LeO.bind ?_ (fun _=>?_))
   | exact ih0 _ _ _ _ _ _ _
   | exact ih1 _ _ _ _ _ _
   | exact resync_Correction.mono _ _ _ _ _ _ _ _ _ _ _ _ _ _ _ _ _ _
   | exact LeO.none _
   | refine LeO.ite ?_ ?_
   | refine LeO.bind ?_ (fun _=>?_)
theorem resync_Turn.mono : ∀ a0 a1 a2 a3 a4 a5 a6 a7 a8 a9 a10 a11 a12 a13 a14 a15 a16 a17 a18 a19 a20 k,LeO (resync_Turn.f k a0 a1 a2 a3 a4 a5 a6 a7 a8 a9 a10 a11 a12 a13 a14 a15 a16 a17 a18 a19 a20) (resync_Turn.f (k + 1) a0 a1 a2 a3 a4 a5 a6 a7 a8 a9 a10 a11 a12 a13 a14 a15 a16 a17 a18 a19 a20):=by
 intro a0 a1 a2 a3 a4 a5 a6 a7 a8 a9 a10 a11 a12 a13 a14 a15 a16 a17 a18 a19 a20 k
 obtain ⟨ih0,ih1⟩:=resync_Turn.mono_l k
 unfold resync_Turn.f
 repeat' first
   | (with_reducible exact ih0 _ _ _ _ _ _ _)
   | (with_reducible exact ih1 _ _ _ _ _ _)
   | (with_reducible exact resync_Correction.mono _ _ _ _ _ _ _ _ _ _ _ _ _ _ _ _ _ _)
   | (with_reducible exact LeO.refl _)
   | (with_reducible exact LeO.none _)
   | (with_reducible refine LeO.ite ?_ ?_)
   | (with_reducible refine LeO.bind ?_ (fun _=>?_))
   | exact ih0 _ _ _ _ _ _ _
   | exact ih1 _ _ _ _ _ _
   | exact resync_Correction.mono _ _ _ _ _ _ _ _ _ _ _ _ _ _ _ _ _ _
   | exact LeO.none _
   | refine LeO.ite ?_ ?_
   | refine LeO.bind ?_ (fun _=>?_)
set_option maxHeartbeats 8000000 in
set_option maxRecDepth 100000 in
theorem resync_Turn.calls (k : Nat) (Za : Int) (Zb : Int) (Zc : Int) (Zd : Int) (Ze : Int) (Zf : Int) (Zg : Int) (Zh : Int) (Zi : Int) (Zj : Int) (Qy : Int) (Qz : Int) (QA : Int) (QB : Int) (QC : Int) (QD : Int) (Qb : Int) (Qc : Int) (Qd : Int) (Qf : Bool) (A2 : Option Addr) (c2 : Nat) (l2 : List Int) (r1 : Int) (r2 : Int) (r3 : Int) (r4 : Bool) (r5 : Int) (r6 : Int) (w : World) (hr2 : Kd.C (Kd.int .i64) w A2 l2.length l2) (hc2 : l2.length ≤ c2) (h : resync_Turn.f k Za Zb Zc Zd Ze Zf Zg Zh Zi Zj Qy Qz QA QB QC QD Qb Qc Qd Qf l2 = some (r1,r2,r3,r4,r5,r6)) :
  Calls Try.prog 9 #[.agg #[.int .i64 Za,.int .i64 Zb,.int .i64 Zc,.int .i64 Zd,.int .i64 Ze,.int .i64 Zf,.int .i64 Zg,.int .i64 Zh,.int .i64 Zi,.int .i64 Zj,.int .i64 Qy,.int .i64 Qz,.int .i64 QA,.int .i64 QB,.int .i64 QC,.int .i64 QD],.agg #[.int .i64 Qb,.int .i64 Qc,.int .i64 Qd,.bool Qf],.slice A2 l2.length c2] w fun e w'=>e = .returned (.tuple #[.agg #[.int .i64 r1,.int .i64 r2,.int .i64 r3,.bool r4],.int .i64 r5,.int .i64 r6])∧Below w.heap.size w w':=by
 have hu23:=Try.underlying23
 have hu25:=Try.underlying25
 have HR2:=Aside0.mk hr2
 have HC2:=Aside0.mk hc2
 clear hr2 hc2
 have HB:=Aside0.mk (Below.refl w.heap.size w)
 have H : ((resync_Correction.f k Za Zb Zc Zd Ze Zf Zg Zh Zi Zj Qy Qz QA QB QC QD l2).bind fun QE=>(if QE.2 = 150 then (resync_Turn.j0 k QE.1 QE.2 true Qb Qc Qd Qf) else ((resync_may.f Qb Qc Qd Qf).bind fun Zr=>(resync_Turn.j0 k QE.1 QE.2 (!Zr) Qb Qc Qd Qf)))) = some (r1,r2,r3,r4,r5,r6):=h
 clear h
 replace H:=Option.bind_eq_some_iff.mp H
 obtain ⟨⟨Qj,QF⟩,A40,H⟩:=H
 replace H : (if QF = 150 then (resync_Turn.j0 k Qj QF true Qb Qc Qd Qf) else ((resync_may.f Qb Qc Qd Qf).bind fun Zr=>(resync_Turn.j0 k Qj QF (!Zr) Qb Qc Qd Qf))) = some (r1,r2,r3,r4,r5,r6):=H
 have A4:=Aside0.mk A40
 clear A40
 have HC5:=Aside0.mk H
 clear H
 go_enter Try.func9,Try.ntmps9
 go_upto_region 2 with (first|((with_reducible refine gate_dst (N:=3) rfl ?_);refine box_event ?hg (N:=3) ?hd (cs:=#[.int .i64 Za,.int .i64 Zb,.int .i64 Zc,.int .i64 Zd,.int .i64 Ze,.int .i64 Zf,.int .i64 Zg,.int .i64 Zh,.int .i64 Zi,.int .i64 Zj,.int .i64 Qy,.int .i64 Qz,.int .i64 QA,.int .i64 QB,.int .i64 QC,.int .i64 QD]) (t:=23) ?hr ?_;(case hd=>rfl);(case hg=>rfl);(case hr=>first|(go_simp;done)|(go_simp;rfl));intro gb122 hg w6 hbox hb;have n0_:=ks_ HB hb;have n1_:=Aside0.mk (hbox);have n2_:=Aside0.mk ((by rw [hg];exact (kz_ HB) : w.heap.size ≤ gb122));have n3_:=Aside0.mk ((by rw [hg];exact (kz_ HB) : w.heap.size ≤ gb122));clear HB;have HB:=n0_;have Ql:=n1_;have GW122:=n2_;have QN:=n3_;clear n0_ n1_ n2_ n3_;clear hb hbox hg)|((with_reducible refine gate_dst (N:=4) rfl ?_);refine box_event ?hg (N:=4) ?hd (cs:=#[.int .i64 Qb,.int .i64 Qc,.int .i64 Qd,.bool Qf]) (t:=25) ?hr ?_;(case hd=>rfl);(case hg=>rfl);(case hr=>first|(go_simp;done)|(go_simp;rfl));intro Qu hg w7 hbox hb;have n0_:=kb_ Ql hb;have n1_:=ks_ HB hb;have n2_:=Aside0.mk (hbox);have n3_:=Aside0.mk ((by rw [hg];exact (kz_ HB) : w.heap.size ≤ Qu));have n4_:=Aside0.mk ((by rw [hg];exact (kz_ HB) : w.heap.size ≤ Qu));have n5_:=nl_ Ql hg;have n6_:=ng_ Ql hg;clear Ql;clear HB;have Ql:=n0_;have HB:=n1_;have Qg:=n2_;have GW123:=n3_;have QO:=n4_;have QK:=n5_;have QL:=n6_;clear n0_ n1_ n2_ n3_ n4_ n5_ n6_;clear hb hbox hg)|((with_reducible refine gate_dst (N:=6) rfl ?_);refine box_event ?hg (N:=6) ?hd (cs:=#[.int .i64 0,.int .i64 0,.int .i64 0,.bool false]) (t:=25) ?hr ?_;(case hd=>rfl);(case hg=>rfl);(case hr=>first|(go_simp;done)|(go_simp;rfl));intro Qe hg w8 hbox hb;have n0_:=kb_ Ql hb;have n1_:=kb_ Qg hb;have n2_:=ks_ HB hb;have n3_:=Aside0.mk (hbox);have n4_:=Aside0.mk ((by rw [hg];exact (kz_ HB) : w.heap.size ≤ Qe));have n5_:=Aside0.mk ((by rw [hg];exact (kz_ HB) : w.heap.size ≤ Qe));have n6_:=nl_ Ql hg;have n7_:=ng_ Ql hg;have n8_:=nl_ Qg hg;have n9_:=ng_ Qg hg;clear Ql;clear Qg;clear HB;have Ql:=n0_;have Qg:=n1_;have HB:=n2_;have Qa:=n3_;have GW124:=n4_;have QP:=n5_;have Qk:=n6_;have Qs:=n7_;have Qh:=n8_;have Qr:=n9_;clear n0_ n1_ n2_ n3_ n4_ n5_ n6_ n7_ n8_ n9_;clear hb hbox hg;have hnb9:=QK.out;have hnc9:=QL.out;have hnb10:=Qk.out;have hnc10:=Qs.out;obtain ⟨hcz11_0,hcz11_1,hcz11_2,hcz11_3,hcz11_4,hcz11_5,hcz11_6,hcz11_7,hcz11_8,hcz11_9,hcz11_10,hcz11_11,hcz11_12,hcz11_13,hcz11_14,hcz11_15⟩:=bc16_ (w:=w8) (g:=gb122) (.int .i64 Za) (.int .i64 Zb) (.int .i64 Zc) (.int .i64 Zd) (.int .i64 Ze) (.int .i64 Zf) (.int .i64 Zg) (.int .i64 Zh) (.int .i64 Zi) (.int .i64 Zj) (.int .i64 Qy) (.int .i64 Qz) (.int .i64 QA) (.int .i64 QB) (.int .i64 QC) (.int .i64 QD) Ql.out;obtain ⟨hfz11_0,hfz11_1,hfz11_2,hfz11_3,hfz11_4,hfz11_5,hfz11_6,hfz11_7,hfz11_8,hfz11_9,hfz11_10,hfz11_11,hfz11_12,hfz11_13,hfz11_14,hfz11_15⟩:=bf16_ Ql.out)|((with_reducible refine gate_callee (f:=7) rfl ?_);refine goesL_ (some 12) rfl rfl Try.func7 (by kernel_rfl) rfl #[.agg #[.int .i64 Za,.int .i64 Zb,.int .i64 Zc,.int .i64 Zd,.int .i64 Ze,.int .i64 Zf,.int .i64 Zg,.int .i64 Zh,.int .i64 Zi,.int .i64 Zj,.int .i64 Qy,.int .i64 Qz,.int .i64 QA,.int .i64 QB,.int .i64 QC,.int .i64 QD],.slice A2 l2.length c2] rfl (by (try simp only [List.map_toArray,List.map_cons,List.map_nil]);first|done|rfl|(simp only [List.length_drop,List.length_take];rfl)) ?_;(with_reducible refine (resync_Correction.calls k Za Zb Zc Zd Ze Zf Zg Zh Zi Zj Qy Qz QA QB QC QD _ _ l2 Qj QF _ ?side1 ?side2 A4.out).mono ?_);(case side1=>repeat (first|exact (Kd.C_below HR2.out HB.out)|(with_reducible refine Kd.C_alloc ?_ _)|(with_reducible refine Kd.C_drewN ?_ _)|(with_reducible refine Kd.C_drew ?_)));(case side2=>exact HC2.out);rintro e w12 ⟨rfl,hb⟩;refine ⟨_,rfl,?_⟩;have n0_:=kb_ Ql hb;have n1_:=kb_ Qg hb;have n2_:=kb_ Qa hb;have n3_:=ks_ HB hb;clear Ql;clear Qg;clear Qa;clear HB;have Ql:=n0_;have Qg:=n1_;have Qa:=n2_;have HB:=n3_;clear n0_ n1_ n2_ n3_;(try clear hb);(try clear hb2);(try clear hk);(try clear hi)))
 (try simp only [Act.put,List.setIfInBounds_toArray,List.set_cons_zero,List.set_cons_succ])
 go_cut [21] (fun v21 wc=>∃ (kq : Nat) (x21_4 : Bool),v21 = .bool x21_4∧Aside0 (resync_Turn.j0 kq Qj QF x21_4 Qb Qc Qd Qf = some (r1,r2,r3,r4,r5,r6))∧Aside0 (kq ≤ k)∧Aside0 (wc.heap[gb122]? = some (.cells #[.int .i64 Za,.int .i64 Zb,.int .i64 Zc,.int .i64 Zd,.int .i64 Ze,.int .i64 Zf,.int .i64 Zg,.int .i64 Zh,.int .i64 Zi,.int .i64 Zj,.int .i64 Qy,.int .i64 Qz,.int .i64 QA,.int .i64 QB,.int .i64 QC,.int .i64 QD] 23 (0,0)))∧Aside0 (wc.heap[Qu]? = some (.cells #[.int .i64 Qb,.int .i64 Qc,.int .i64 Qd,.bool Qf] 25 (0,0)))∧Aside0 (wc.heap[Qe]? = some (.cells #[.int .i64 0,.int .i64 0,.int .i64 0,.bool false] 25 (0,0)))∧Aside0 (Below w.heap.size w wc))
 case first =>
  have H:=HC5.out
  clear HC5
  by_cases c13 : QF = 150
  ·rw [if_pos c13] at H
   have c13b0 : (QF == 150) = true:=beq_iff_eq.mpr c13
   have c13b1 : (QF != 150) = false:=bne_eq_false_iff_eq.mpr c13
   clear c13
   (first|rw [c13b0]|(simp only [i64_w,i32_w];rw [c13b0])|skip)
   have H':=Aside0.mk H
   clear H
   go_wp2
   go_meet
   case rel=>exact ⟨_,(true),(by first|rfl|(simp;done)|(simp [*];done)),H',⟨by first|omega|exact Nat.le_refl _⟩,⟨by (with_reducible repeat (first|refine blk_drewN ?_ _|refine blk_drew ?_|refine blk_alloc ?_ _));exact Ql.out⟩,⟨by (with_reducible repeat (first|refine blk_drewN ?_ _|refine blk_drew ?_|refine blk_alloc ?_ _));exact Qg.out⟩,⟨by (with_reducible repeat (first|refine blk_drewN ?_ _|refine blk_drew ?_|refine blk_alloc ?_ _));exact Qa.out⟩,⟨by repeat (first|(with_reducible first|exact HB.out|apply below_alloc|apply pw_below_drewN|apply below_drew1|refine below_set ?_ QN.out|refine below_set ?_ QO.out|refine below_set ?_ QP.out)|exact HB.out)⟩⟩
  ·rw [if_neg c13] at H
   have c13b0 : (QF == 150) = false:=beq_eq_false_iff_ne.mpr c13
   have c13b1 : (QF != 150) = true:=bne_iff_ne.mpr c13
   (first|rw [c13b0]|(simp only [i64_w,i32_w];rw [c13b0])|skip)
   replace H:=Option.bind_eq_some_iff.mp H
   obtain ⟨Zr,A140,H⟩:=H
   replace H : (resync_Turn.j0 k Qj QF (!Zr) Qb Qc Qd Qf) = some (r1,r2,r3,r4,r5,r6):=H
   have A14:=Aside0.mk A140
   clear A140
   have H':=Aside0.mk H
   clear H
   have hnb15:=QL.out
   have hnc15:=QK.out
   have hnb16:=Qh.out
   have hnc16:=Qr.out
   have hcz17_0 : w12.cell? ⟨Qu,0,none⟩ = some (.int .i64 Qb):=(blk_cell Qg.out 0).trans rfl
   have hcz17_1 : w12.cell? ⟨Qu,1,none⟩ = some (.int .i64 Qc):=(blk_cell Qg.out 1).trans rfl
   have hcz17_2 : w12.cell? ⟨Qu,2,none⟩ = some (.int .i64 Qd):=(blk_cell Qg.out 2).trans rfl
   have hcz17_3 : w12.cell? ⟨Qu,3,none⟩ = some (.bool Qf):=(blk_cell Qg.out 3).trans rfl
   have hfz17_0:=blk_frozen Qg.out 0
   have hfz17_1:=blk_frozen Qg.out 1
   have hfz17_2:=blk_frozen Qg.out 2
   have hfz17_3:=blk_frozen Qg.out 3
   go_wp2_with (first|(go_at_call 22;(with_reducible refine (resync_may.calls Qb Qc Qd Qf Zr _ A14.out).mono ?_);rintro e w18 ⟨rfl,hb⟩;have n0_:=kb_ Ql hb;have n1_:=kb_ Qg hb;have n2_:=kb_ Qa hb;have n3_:=ks_ HB hb;clear Ql;clear Qg;clear Qa;clear HB;have Ql:=n0_;have Qg:=n1_;have Qa:=n2_;have HB:=n3_;clear n0_ n1_ n2_ n3_;(try clear hb);(try clear hb2);(try clear hk);(try clear hi)))
   go_meet
   case rel=>exact ⟨_,(!Zr),(by first|rfl|(simp;done)|(simp [*];done)),H',⟨by first|omega|exact Nat.le_refl _⟩,⟨by (with_reducible repeat (first|refine blk_drewN ?_ _|refine blk_drew ?_|refine blk_alloc ?_ _));exact Ql.out⟩,⟨by (with_reducible repeat (first|refine blk_drewN ?_ _|refine blk_drew ?_|refine blk_alloc ?_ _));exact Qg.out⟩,⟨by (with_reducible repeat (first|refine blk_drewN ?_ _|refine blk_drew ?_|refine blk_alloc ?_ _));exact Qa.out⟩,⟨by repeat (first|(with_reducible first|exact HB.out|apply below_alloc|apply pw_below_drewN|apply below_drew1|refine below_set ?_ QN.out|refine below_set ?_ QO.out|refine below_set ?_ QP.out)|exact HB.out)⟩⟩
 case rest =>
  clear HC5
  try clear c1
  try clear c2
  try clear p2
  try clear c7
  try clear c9
  try clear c10
  try clear c13
  try clear c13b0
  try clear c13b1
  try clear c15
  try clear c16
  try clear hcz11_0
  try clear hcz11_1
  try clear hcz11_10
  try clear hcz11_11
  try clear hcz11_12
  try clear hcz11_13
  try clear hcz11_14
  try clear hcz11_15
  try clear hcz11_2
  try clear hcz11_3
  try clear hcz11_4
  try clear hcz11_5
  try clear hcz11_6
  try clear hcz11_7
  try clear hcz11_8
  try clear hcz11_9
  try clear hcz17_0
  try clear hcz17_1
  try clear hcz17_2
  try clear hcz17_3
  try clear hfz11_0
  try clear hfz11_1
  try clear hfz11_10
  try clear hfz11_11
  try clear hfz11_12
  try clear hfz11_13
  try clear hfz11_14
  try clear hfz11_15
  try clear hfz11_2
  try clear hfz11_3
  try clear hfz11_4
  try clear hfz11_5
  try clear hfz11_6
  try clear hfz11_7
  try clear hfz11_8
  try clear hfz11_9
  try clear hfz17_0
  try clear hfz17_1
  try clear hfz17_2
  try clear hfz17_3
  obtain ⟨kq,x21_4,rfl,HA,HJ4,Ql,Qg,Qa,HB⟩:=hcut
  cases kq with
  | zero=>exact absurd HA.out (by simp [resync_Turn.j0])
  | succ kj4 =>
   have H:=HA.out
   clear HA
   simp only [resync_Turn.j0] at H
   by_cases c19 : x21_4 = true
   ·subst c19
    have H1 : (some (0,0,0,false,0,150)) = some (r1,r2,r3,r4,r5,r6):=by rw [if_pos rfl] at H;exact H
    clear H
    have H:=H1
    clear H1
    simp only [Option.some.injEq,Prod.mk.injEq] at H
    obtain ⟨rfl,rfl,rfl,rfl,rfl,rfl⟩:=H
    have hnb20:=Qs.out
    have hnc20:=Qk.out
    have hnb21:=Qr.out
    have hnc21:=Qh.out
    have hcz22_0 : wc.cell? ⟨Qe,0,none⟩ = some (.int .i64 0):=(blk_cell Qa.out 0).trans rfl
    have hcz22_1 : wc.cell? ⟨Qe,1,none⟩ = some (.int .i64 0):=(blk_cell Qa.out 1).trans rfl
    have hcz22_2 : wc.cell? ⟨Qe,2,none⟩ = some (.int .i64 0):=(blk_cell Qa.out 2).trans rfl
    have hcz22_3 : wc.cell? ⟨Qe,3,none⟩ = some (.bool false):=(blk_cell Qa.out 3).trans rfl
    have hfz22_0:=blk_frozen Qa.out 0
    have hfz22_1:=blk_frozen Qa.out 1
    have hfz22_2:=blk_frozen Qa.out 2
    have hfz22_3:=blk_frozen Qa.out 3
    go_wp2
    refine bodyPost_ret (results_ctt rfl _ _ Qe 25 #[.int .i64 0,.int .i64 0,.int .i64 0,.bool false] (0,0) _ rfl (by (with_reducible repeat (first|refine blk_drewN ?_ _|refine blk_drew ?_|refine blk_alloc ?_ _));refine blk_put (cs:=#[.int .i64 0,.int .i64 0,.int .i64 0,.bool false]) ?_ 3 _ rfl;(with_reducible repeat (first|refine blk_drewN ?_ _|refine blk_drew ?_|refine blk_alloc ?_ _));refine blk_put (cs:=#[.int .i64 0,.int .i64 0,.int .i64 0,.bool false]) ?_ 2 _ rfl;(with_reducible repeat (first|refine blk_drewN ?_ _|refine blk_drew ?_|refine blk_alloc ?_ _));refine blk_put (cs:=#[.int .i64 0,.int .i64 0,.int .i64 0,.bool false]) ?_ 1 _ rfl;(with_reducible repeat (first|refine blk_drewN ?_ _|refine blk_drew ?_|refine blk_alloc ?_ _));refine blk_put (cs:=#[.int .i64 0,.int .i64 0,.int .i64 0,.bool false]) ?_ 0 _ rfl;(with_reducible repeat (first|refine blk_drewN ?_ _|refine blk_drew ?_|refine blk_alloc ?_ _));exact Qa.out) Try.underlying25 rfl (by kernel_rfl)) rfl ?_
    exact ⟨by first|rfl|(simp [errW_none,errW_some] <;> rfl)|(simp [*,errW_none,errW_some] <;> rfl),by repeat (first|(with_reducible first|exact HB.out|apply below_alloc|apply pw_below_drewN|apply below_drew1|refine below_set ?_ QN.out|refine below_set ?_ QO.out|refine below_set ?_ QP.out)|exact HB.out)⟩
   ·replace c19:=Bool.eq_false_iff.mpr c19
    subst c19
    have H1 : (if QF = 151 then (resync_Turn.j1 kj4 Qj true Qb Qc Qd Qf) else (resync_Turn.j1 kj4 Qj Qf Qb Qc Qd Qf)) = some (r1,r2,r3,r4,r5,r6):=by rw [if_neg (show ¬ (false = true) by decide)] at H;exact H
    clear H
    have H:=H1
    clear H1
    have HC23:=Aside0.mk H
    clear H
    have hnb24:=QL.out
    have hnc24:=QK.out
    have hnb25:=Qh.out
    have hnc25:=Qr.out
    have hcz26_0 : wc.cell? ⟨Qu,0,none⟩ = some (.int .i64 Qb):=(blk_cell Qg.out 0).trans rfl
    have hcz26_1 : wc.cell? ⟨Qu,1,none⟩ = some (.int .i64 Qc):=(blk_cell Qg.out 1).trans rfl
    have hcz26_2 : wc.cell? ⟨Qu,2,none⟩ = some (.int .i64 Qd):=(blk_cell Qg.out 2).trans rfl
    have hcz26_3 : wc.cell? ⟨Qu,3,none⟩ = some (.bool Qf):=(blk_cell Qg.out 3).trans rfl
    have hfz26_0:=blk_frozen Qg.out 0
    have hfz26_1:=blk_frozen Qg.out 1
    have hfz26_2:=blk_frozen Qg.out 2
    have hfz26_3:=blk_frozen Qg.out 3
    have hnb27:=Qs.out
    have hnc27:=Qk.out
    have hcz28_0 : wc.cell? ⟨Qe,0,none⟩ = some (.int .i64 0):=(blk_cell Qa.out 0).trans rfl
    have hcz28_1 : wc.cell? ⟨Qe,1,none⟩ = some (.int .i64 0):=(blk_cell Qa.out 1).trans rfl
    have hcz28_2 : wc.cell? ⟨Qe,2,none⟩ = some (.int .i64 0):=(blk_cell Qa.out 2).trans rfl
    have hcz28_3 : wc.cell? ⟨Qe,3,none⟩ = some (.bool false):=(blk_cell Qa.out 3).trans rfl
    have hfz28_0:=blk_frozen Qa.out 0
    have hfz28_1:=blk_frozen Qa.out 1
    have hfz28_2:=blk_frozen Qa.out 2
    have hfz28_3:=blk_frozen Qa.out 3
    go_upto_region 5 with (fail)
    go_cut [29] (fun v29 wc=>∃ (kq : Nat) (Zs : Bool),v29 = .bool Zs∧Aside0 (resync_Turn.j1 kq Qj Zs Qb Qc Qd Qf = some (r1,r2,r3,r4,r5,r6))∧Aside0 (kq ≤ kj4)∧Aside0 (wc.heap[gb122]? = some (.cells #[.int .i64 Za,.int .i64 Zb,.int .i64 Zc,.int .i64 Zd,.int .i64 Ze,.int .i64 Zf,.int .i64 Zg,.int .i64 Zh,.int .i64 Zi,.int .i64 Zj,.int .i64 Qy,.int .i64 Qz,.int .i64 QA,.int .i64 QB,.int .i64 QC,.int .i64 QD] 23 (0,0)))∧Aside0 (wc.heap[Qu]? = some (.cells #[.int .i64 Qb,.int .i64 Qc,.int .i64 Qd,.bool Qf] 25 (0,0)))∧Aside0 (wc.heap[Qe]? = some (.cells #[.int .i64 Qb,.int .i64 Qc,.int .i64 Qd,.bool Qf] 25 (0,0)))∧Aside0 (Below w.heap.size w wc))
    case first =>
     have H:=HC23.out
     clear HC23
     by_cases c29 : QF = 151
     ·rw [if_pos c29] at H
      have c29b0 : (QF == 151) = true:=beq_iff_eq.mpr c29
      have c29b1 : (QF != 151) = false:=bne_eq_false_iff_eq.mpr c29
      clear c29
      (first|rw [c29b0]|(simp only [i64_w,i32_w];rw [c29b0])|skip)
      have H':=Aside0.mk H
      clear H
      go_wp2
      go_meet
      case rel=>exact ⟨_,(true),(by first|rfl|(simp;done)|(simp [*];done)),H',⟨by have:=HJ4.out;first|omega|exact Nat.le_refl _⟩,⟨by (with_reducible repeat (first|refine blk_drewN ?_ _|refine blk_drew ?_|refine blk_alloc ?_ _));refine blk_far ?_ Qk.out _;(with_reducible repeat (first|refine blk_drewN ?_ _|refine blk_drew ?_|refine blk_alloc ?_ _));refine blk_far ?_ Qk.out _;(with_reducible repeat (first|refine blk_drewN ?_ _|refine blk_drew ?_|refine blk_alloc ?_ _));refine blk_far ?_ Qk.out _;(with_reducible repeat (first|refine blk_drewN ?_ _|refine blk_drew ?_|refine blk_alloc ?_ _));refine blk_far ?_ Qk.out _;(with_reducible repeat (first|refine blk_drewN ?_ _|refine blk_drew ?_|refine blk_alloc ?_ _));exact Ql.out⟩,⟨by (with_reducible repeat (first|refine blk_drewN ?_ _|refine blk_drew ?_|refine blk_alloc ?_ _));refine blk_far ?_ Qh.out _;(with_reducible repeat (first|refine blk_drewN ?_ _|refine blk_drew ?_|refine blk_alloc ?_ _));refine blk_far ?_ Qh.out _;(with_reducible repeat (first|refine blk_drewN ?_ _|refine blk_drew ?_|refine blk_alloc ?_ _));refine blk_far ?_ Qh.out _;(with_reducible repeat (first|refine blk_drewN ?_ _|refine blk_drew ?_|refine blk_alloc ?_ _));refine blk_far ?_ Qh.out _;(with_reducible repeat (first|refine blk_drewN ?_ _|refine blk_drew ?_|refine blk_alloc ?_ _));exact Qg.out⟩,⟨by (with_reducible repeat (first|refine blk_drewN ?_ _|refine blk_drew ?_|refine blk_alloc ?_ _));refine blk_put (cs:=#[.int .i64 Qb,.int .i64 Qc,.int .i64 Qd,.bool false]) ?_ 3 _ rfl;(with_reducible repeat (first|refine blk_drewN ?_ _|refine blk_drew ?_|refine blk_alloc ?_ _));refine blk_put (cs:=#[.int .i64 Qb,.int .i64 Qc,.int .i64 0,.bool false]) ?_ 2 _ rfl;(with_reducible repeat (first|refine blk_drewN ?_ _|refine blk_drew ?_|refine blk_alloc ?_ _));refine blk_put (cs:=#[.int .i64 Qb,.int .i64 0,.int .i64 0,.bool false]) ?_ 1 _ rfl;(with_reducible repeat (first|refine blk_drewN ?_ _|refine blk_drew ?_|refine blk_alloc ?_ _));refine blk_put (cs:=#[.int .i64 0,.int .i64 0,.int .i64 0,.bool false]) ?_ 0 _ rfl;(with_reducible repeat (first|refine blk_drewN ?_ _|refine blk_drew ?_|refine blk_alloc ?_ _));exact Qa.out⟩,⟨by repeat (first|(with_reducible first|exact HB.out|apply below_alloc|apply pw_below_drewN|apply below_drew1|refine below_set ?_ QN.out|refine below_set ?_ QO.out|refine below_set ?_ QP.out)|exact HB.out)⟩⟩
     ·rw [if_neg c29] at H
      have c29b0 : (QF == 151) = false:=beq_eq_false_iff_ne.mpr c29
      have c29b1 : (QF != 151) = true:=bne_iff_ne.mpr c29
      (first|rw [c29b0]|(simp only [i64_w,i32_w];rw [c29b0])|skip)
      have H':=Aside0.mk H
      clear H
      have hnb30:=QL.out
      have hnc30:=QK.out
      have hnb31:=Qh.out
      have hnc31:=Qr.out
      have hcz32_0 : wc.cell? ⟨Qu,0,none⟩ = some (.int .i64 Qb):=(blk_cell Qg.out 0).trans rfl
      have hcz32_1 : wc.cell? ⟨Qu,1,none⟩ = some (.int .i64 Qc):=(blk_cell Qg.out 1).trans rfl
      have hcz32_2 : wc.cell? ⟨Qu,2,none⟩ = some (.int .i64 Qd):=(blk_cell Qg.out 2).trans rfl
      have hcz32_3 : wc.cell? ⟨Qu,3,none⟩ = some (.bool Qf):=(blk_cell Qg.out 3).trans rfl
      have hfz32_0:=blk_frozen Qg.out 0
      have hfz32_1:=blk_frozen Qg.out 1
      have hfz32_2:=blk_frozen Qg.out 2
      have hfz32_3:=blk_frozen Qg.out 3
      go_wp2
      go_meet
      case rel=>exact ⟨_,(Qf),(by first|rfl|(simp;done)|(simp [*];done)),H',⟨by have:=HJ4.out;first|omega|exact Nat.le_refl _⟩,⟨by (with_reducible repeat (first|refine blk_drewN ?_ _|refine blk_drew ?_|refine blk_alloc ?_ _));refine blk_far ?_ Qk.out _;(with_reducible repeat (first|refine blk_drewN ?_ _|refine blk_drew ?_|refine blk_alloc ?_ _));refine blk_far ?_ Qk.out _;(with_reducible repeat (first|refine blk_drewN ?_ _|refine blk_drew ?_|refine blk_alloc ?_ _));refine blk_far ?_ Qk.out _;(with_reducible repeat (first|refine blk_drewN ?_ _|refine blk_drew ?_|refine blk_alloc ?_ _));refine blk_far ?_ Qk.out _;(with_reducible repeat (first|refine blk_drewN ?_ _|refine blk_drew ?_|refine blk_alloc ?_ _));exact Ql.out⟩,⟨by (with_reducible repeat (first|refine blk_drewN ?_ _|refine blk_drew ?_|refine blk_alloc ?_ _));refine blk_far ?_ Qh.out _;(with_reducible repeat (first|refine blk_drewN ?_ _|refine blk_drew ?_|refine blk_alloc ?_ _));refine blk_far ?_ Qh.out _;(with_reducible repeat (first|refine blk_drewN ?_ _|refine blk_drew ?_|refine blk_alloc ?_ _));refine blk_far ?_ Qh.out _;(with_reducible repeat (first|refine blk_drewN ?_ _|refine blk_drew ?_|refine blk_alloc ?_ _));refine blk_far ?_ Qh.out _;(with_reducible repeat (first|refine blk_drewN ?_ _|refine blk_drew ?_|refine blk_alloc ?_ _));exact Qg.out⟩,⟨by (with_reducible repeat (first|refine blk_drewN ?_ _|refine blk_drew ?_|refine blk_alloc ?_ _));refine blk_put (cs:=#[.int .i64 Qb,.int .i64 Qc,.int .i64 Qd,.bool false]) ?_ 3 _ rfl;(with_reducible repeat (first|refine blk_drewN ?_ _|refine blk_drew ?_|refine blk_alloc ?_ _));refine blk_put (cs:=#[.int .i64 Qb,.int .i64 Qc,.int .i64 0,.bool false]) ?_ 2 _ rfl;(with_reducible repeat (first|refine blk_drewN ?_ _|refine blk_drew ?_|refine blk_alloc ?_ _));refine blk_put (cs:=#[.int .i64 Qb,.int .i64 0,.int .i64 0,.bool false]) ?_ 1 _ rfl;(with_reducible repeat (first|refine blk_drewN ?_ _|refine blk_drew ?_|refine blk_alloc ?_ _));refine blk_put (cs:=#[.int .i64 0,.int .i64 0,.int .i64 0,.bool false]) ?_ 0 _ rfl;(with_reducible repeat (first|refine blk_drewN ?_ _|refine blk_drew ?_|refine blk_alloc ?_ _));exact Qa.out⟩,⟨by repeat (first|(with_reducible first|exact HB.out|apply below_alloc|apply pw_below_drewN|apply below_drew1|refine below_set ?_ QN.out|refine below_set ?_ QO.out|refine below_set ?_ QP.out)|exact HB.out)⟩⟩
    case rest =>
     clear HC23
     try clear c1
     try clear c2
     try clear p2
     try clear c3
     try clear c7
     try clear c9
     try clear c10
     try clear c13
     try clear c13b0
     try clear c13b1
     try clear c15
     try clear c16
     try clear c19
     try clear c20
     try clear c21
     try clear c24
     try clear c25
     try clear c27
     try clear c29
     try clear c29b0
     try clear c29b1
     try clear c30
     try clear c31
     try clear hcz11_0
     try clear hcz11_1
     try clear hcz11_10
     try clear hcz11_11
     try clear hcz11_12
     try clear hcz11_13
     try clear hcz11_14
     try clear hcz11_15
     try clear hcz11_2
     try clear hcz11_3
     try clear hcz11_4
     try clear hcz11_5
     try clear hcz11_6
     try clear hcz11_7
     try clear hcz11_8
     try clear hcz11_9
     try clear hcz17_0
     try clear hcz17_1
     try clear hcz17_2
     try clear hcz17_3
     try clear hcz22_0
     try clear hcz22_1
     try clear hcz22_2
     try clear hcz22_3
     try clear hcz26_0
     try clear hcz26_1
     try clear hcz26_2
     try clear hcz26_3
     try clear hcz28_0
     try clear hcz28_1
     try clear hcz28_2
     try clear hcz28_3
     try clear hcz32_0
     try clear hcz32_1
     try clear hcz32_2
     try clear hcz32_3
     try clear hfz11_0
     try clear hfz11_1
     try clear hfz11_10
     try clear hfz11_11
     try clear hfz11_12
     try clear hfz11_13
     try clear hfz11_14
     try clear hfz11_15
     try clear hfz11_2
     try clear hfz11_3
     try clear hfz11_4
     try clear hfz11_5
     try clear hfz11_6
     try clear hfz11_7
     try clear hfz11_8
     try clear hfz11_9
     try clear hfz17_0
     try clear hfz17_1
     try clear hfz17_2
     try clear hfz17_3
     try clear hfz22_0
     try clear hfz22_1
     try clear hfz22_2
     try clear hfz22_3
     try clear hfz26_0
     try clear hfz26_1
     try clear hfz26_2
     try clear hfz26_3
     try clear hfz28_0
     try clear hfz28_1
     try clear hfz28_2
     try clear hfz28_3
     try clear hfz32_0
     try clear hfz32_1
     try clear hfz32_2
     try clear hfz32_3
     try clear p2
     obtain ⟨kq,Zs,rfl,HA,HJ22,Ql,Qg,Qa,HB⟩:=hcut
     cases kq with
     | zero=>exact absurd HA.out (by simp [resync_Turn.j1])
     | succ kj22 =>
      have H:=HA.out
      clear HA
      simp only [resync_Turn.j1] at H
      by_cases c33 : Zs = true
      ·subst c33
       have H1 : (some (Qb,Qc,Qd,true,0,151)) = some (r1,r2,r3,r4,r5,r6):=by rw [if_pos rfl] at H;exact H
       clear H
       have H:=H1
       clear H1
       simp only [Option.some.injEq,Prod.mk.injEq] at H
       obtain ⟨rfl,rfl,rfl,rfl,rfl,rfl⟩:=H
       have hnb34:=Qs.out
       have hnc34:=Qk.out
       have hnb35:=Qr.out
       have hnc35:=Qh.out
       have hcz36_0 : wc.cell? ⟨Qe,0,none⟩ = some (.int .i64 Qb):=(blk_cell Qa.out 0).trans rfl
       have hcz36_1 : wc.cell? ⟨Qe,1,none⟩ = some (.int .i64 Qc):=(blk_cell Qa.out 1).trans rfl
       have hcz36_2 : wc.cell? ⟨Qe,2,none⟩ = some (.int .i64 Qd):=(blk_cell Qa.out 2).trans rfl
       have hcz36_3 : wc.cell? ⟨Qe,3,none⟩ = some (.bool Qf):=(blk_cell Qa.out 3).trans rfl
       have hfz36_0:=blk_frozen Qa.out 0
       have hfz36_1:=blk_frozen Qa.out 1
       have hfz36_2:=blk_frozen Qa.out 2
       have hfz36_3:=blk_frozen Qa.out 3
       go_wp2
       refine bodyPost_ret (results_ctt rfl _ _ Qe 25 #[.int .i64 Qb,.int .i64 Qc,.int .i64 Qd,.bool true] (0,0) _ rfl (by (with_reducible repeat (first|refine blk_drewN ?_ _|refine blk_drew ?_|refine blk_alloc ?_ _));refine blk_put (cs:=#[.int .i64 Qb,.int .i64 Qc,.int .i64 Qd,.bool true]) ?_ 3 _ rfl;(with_reducible repeat (first|refine blk_drewN ?_ _|refine blk_drew ?_|refine blk_alloc ?_ _));refine blk_put (cs:=#[.int .i64 Qb,.int .i64 Qc,.int .i64 Qd,.bool true]) ?_ 2 _ rfl;(with_reducible repeat (first|refine blk_drewN ?_ _|refine blk_drew ?_|refine blk_alloc ?_ _));refine blk_put (cs:=#[.int .i64 Qb,.int .i64 Qc,.int .i64 Qd,.bool true]) ?_ 1 _ rfl;(with_reducible repeat (first|refine blk_drewN ?_ _|refine blk_drew ?_|refine blk_alloc ?_ _));refine blk_put (cs:=#[.int .i64 Qb,.int .i64 Qc,.int .i64 Qd,.bool true]) ?_ 0 _ rfl;(with_reducible repeat (first|refine blk_drewN ?_ _|refine blk_drew ?_|refine blk_alloc ?_ _));refine blk_put (cs:=#[.int .i64 Qb,.int .i64 Qc,.int .i64 Qd,.bool Qf]) ?_ 3 _ rfl;(with_reducible repeat (first|refine blk_drewN ?_ _|refine blk_drew ?_|refine blk_alloc ?_ _));exact Qa.out) Try.underlying25 rfl (by kernel_rfl)) rfl ?_
       exact ⟨by first|rfl|(simp [errW_none,errW_some] <;> rfl)|(simp [*,errW_none,errW_some] <;> rfl),by repeat (first|(with_reducible first|exact HB.out|apply below_alloc|apply pw_below_drewN|apply below_drew1|refine below_set ?_ QN.out|refine below_set ?_ QO.out|refine below_set ?_ QP.out)|exact HB.out)⟩
      ·replace c33:=Bool.eq_false_iff.mpr c33
       subst c33
       have H1 : (if Qj = 0 then ((resync_may.f (wrap64 (Qb + 1)) Qc (wrap64 (Qd + Qj)) Qf).bind fun t128=>(if t128 = true then (some (wrap64 (Qb + 1),Qc,wrap64 (Qd + Qj),Qf,Qj,0)) else (some (0,0,0,false,0,150)))) else ((resync_may.f (wrap64 (Qb + 1)) (wrap64 (Qc + 1)) (wrap64 (Qd + Qj)) Qf).bind fun t129=>(if t129 = true then (some (wrap64 (Qb + 1),wrap64 (Qc + 1),wrap64 (Qd + Qj),Qf,Qj,0)) else (some (0,0,0,false,0,150))))) = some (r1,r2,r3,r4,r5,r6):=by rw [if_neg (show ¬ (false = true) by decide)] at H;exact H
       clear H
       have H:=H1
       clear H1
       by_cases c37 : Qj = 0
       ·rw [if_pos c37] at H
        have c37b0 : (Qj == 0) = true:=beq_iff_eq.mpr c37
        have c37b1 : (Qj != 0) = false:=bne_eq_false_iff_eq.mpr c37
        clear c37
        replace H:=Option.bind_eq_some_iff.mp H
        obtain ⟨t128,A380,H⟩:=H
        replace H : (if t128 = true then (some (wrap64 (Qb + 1),Qc,wrap64 (Qd + Qj),Qf,Qj,0)) else (some (0,0,0,false,0,150))) = some (r1,r2,r3,r4,r5,r6):=H
        have A38:=Aside0.mk A380
        clear A380
        by_cases c39 : t128 = true
        ·subst c39
         have H1 : (some (wrap64 (Qb + 1),Qc,wrap64 (Qd + Qj),Qf,Qj,0)) = some (r1,r2,r3,r4,r5,r6):=by rw [if_pos rfl] at H;exact H
         clear H
         have H:=H1
         clear H1
         simp only [Option.some.injEq,Prod.mk.injEq] at H
         obtain ⟨rfl,rfl,rfl,rfl,rfl,rfl⟩:=H
         have hnb40:=Qs.out
         have hnc40:=Qk.out
         have hnb41:=Qr.out
         have hnc41:=Qh.out
         have hcz42_0 : wc.cell? ⟨Qe,0,none⟩ = some (.int .i64 Qb):=(blk_cell Qa.out 0).trans rfl
         have hcz42_1 : wc.cell? ⟨Qe,1,none⟩ = some (.int .i64 Qc):=(blk_cell Qa.out 1).trans rfl
         have hcz42_2 : wc.cell? ⟨Qe,2,none⟩ = some (.int .i64 Qd):=(blk_cell Qa.out 2).trans rfl
         have hcz42_3 : wc.cell? ⟨Qe,3,none⟩ = some (.bool Qf):=(blk_cell Qa.out 3).trans rfl
         have hfz42_0:=blk_frozen Qa.out 0
         have hfz42_1:=blk_frozen Qa.out 1
         have hfz42_2:=blk_frozen Qa.out 2
         have hfz42_3:=blk_frozen Qa.out 3
         go_wp2_with (first|((with_reducible refine gate_callee (f:=22) rfl ?_);refine goesL_ (some 48) rfl rfl Try.func22 (by kernel_rfl) rfl #[.agg #[.int .i64 (wrap64 (Qb + 1)),.int .i64 Qc,.int .i64 (wrap64 (Qd + Qj)),.bool Qf]] rfl (by (try simp only [List.map_toArray,List.map_cons,List.map_nil]);first|done|rfl|(simp only [List.length_drop,List.length_take];rfl)) ?_;(with_reducible refine (resync_may.calls (wrap64 (Qb + 1)) Qc (wrap64 (Qd + Qj)) Qf true _ A38.out).mono ?_);rintro e w43 ⟨rfl,hb⟩;refine ⟨_,rfl,?_⟩;have n0_:=kb_ Ql hb;have n1_:=kb_ Qg hb;have n2_:=Aside0.mk (blk_below (g:=Qe) (o:=.cells #[.int .i64 (wrap64 (Qb + 1)),.int .i64 Qc,.int .i64 (wrap64 (Qd + Qj)),.bool Qf] 25 (0,0)) (by (with_reducible repeat (first|refine blk_drewN ?_ _|refine blk_drew ?_|refine blk_alloc ?_ _));refine blk_put (cs:=#[.int .i64 (wrap64 (Qb + 1)),.int .i64 Qc,.int .i64 Qd,.bool Qf]) ?_ 2 _ rfl;(with_reducible repeat (first|refine blk_drewN ?_ _|refine blk_drew ?_|refine blk_alloc ?_ _));refine blk_put (cs:=#[.int .i64 Qb,.int .i64 Qc,.int .i64 Qd,.bool Qf]) ?_ 0 _ rfl;(with_reducible repeat (first|refine blk_drewN ?_ _|refine blk_drew ?_|refine blk_alloc ?_ _));exact Qa.out) hb);have n3_:=ks_ HB hb;clear Ql;clear Qg;clear Qa;clear HB;have Ql:=n0_;have Qg:=n1_;have Qa:=n2_;have HB:=n3_;clear n0_ n1_ n2_ n3_;(try clear hb);(try clear hb2);(try clear hk);(try clear hi);have hcz44_0 : w43.cell? ⟨Qe,0,none⟩ = some (.int .i64 (wrap64 (Qb + 1))):=(blk_cell Qa.out 0).trans rfl;have hcz44_1 : w43.cell? ⟨Qe,1,none⟩ = some (.int .i64 Qc):=(blk_cell Qa.out 1).trans rfl;have hcz44_2 : w43.cell? ⟨Qe,2,none⟩ = some (.int .i64 (wrap64 (Qd + Qj))):=(blk_cell Qa.out 2).trans rfl;have hcz44_3 : w43.cell? ⟨Qe,3,none⟩ = some (.bool Qf):=(blk_cell Qa.out 3).trans rfl;have hfz44_0:=blk_frozen Qa.out 0;have hfz44_1:=blk_frozen Qa.out 1;have hfz44_2:=blk_frozen Qa.out 2;have hfz44_3:=blk_frozen Qa.out 3))
         refine bodyPost_ret (results_ctt rfl _ _ Qe 25 #[.int .i64 (wrap64 (Qb + 1)),.int .i64 Qc,.int .i64 (wrap64 (Qd + Qj)),.bool Qf] (0,0) _ rfl (by (with_reducible repeat (first|refine blk_drewN ?_ _|refine blk_drew ?_|refine blk_alloc ?_ _));refine blk_put (cs:=#[.int .i64 (wrap64 (Qb + 1)),.int .i64 Qc,.int .i64 (wrap64 (Qd + Qj)),.bool Qf]) ?_ 3 _ rfl;(with_reducible repeat (first|refine blk_drewN ?_ _|refine blk_drew ?_|refine blk_alloc ?_ _));refine blk_put (cs:=#[.int .i64 (wrap64 (Qb + 1)),.int .i64 Qc,.int .i64 (wrap64 (Qd + Qj)),.bool Qf]) ?_ 2 _ rfl;(with_reducible repeat (first|refine blk_drewN ?_ _|refine blk_drew ?_|refine blk_alloc ?_ _));refine blk_put (cs:=#[.int .i64 (wrap64 (Qb + 1)),.int .i64 Qc,.int .i64 (wrap64 (Qd + Qj)),.bool Qf]) ?_ 1 _ rfl;(with_reducible repeat (first|refine blk_drewN ?_ _|refine blk_drew ?_|refine blk_alloc ?_ _));refine blk_put (cs:=#[.int .i64 (wrap64 (Qb + 1)),.int .i64 Qc,.int .i64 (wrap64 (Qd + Qj)),.bool Qf]) ?_ 0 _ rfl;(with_reducible repeat (first|refine blk_drewN ?_ _|refine blk_drew ?_|refine blk_alloc ?_ _));exact Qa.out) Try.underlying25 rfl (by kernel_rfl)) rfl ?_
         exact ⟨by first|rfl|(simp [errW_none,errW_some] <;> rfl)|(simp [*,errW_none,errW_some] <;> rfl),by repeat (first|(with_reducible first|exact HB.out|apply below_alloc|apply pw_below_drewN|apply below_drew1|refine below_set ?_ QN.out|refine below_set ?_ QO.out|refine below_set ?_ QP.out)|exact HB.out)⟩
        ·replace c39:=Bool.eq_false_iff.mpr c39
         subst c39
         have H1 : (some (0,0,0,false,0,150)) = some (r1,r2,r3,r4,r5,r6):=by rw [if_neg (show ¬ (false = true) by decide)] at H;exact H
         clear H
         have H:=H1
         clear H1
         simp only [Option.some.injEq,Prod.mk.injEq] at H
         obtain ⟨rfl,rfl,rfl,rfl,rfl,rfl⟩:=H
         have hnb45:=Qs.out
         have hnc45:=Qk.out
         have hnb46:=Qr.out
         have hnc46:=Qh.out
         have hcz47_0 : wc.cell? ⟨Qe,0,none⟩ = some (.int .i64 Qb):=(blk_cell Qa.out 0).trans rfl
         have hcz47_1 : wc.cell? ⟨Qe,1,none⟩ = some (.int .i64 Qc):=(blk_cell Qa.out 1).trans rfl
         have hcz47_2 : wc.cell? ⟨Qe,2,none⟩ = some (.int .i64 Qd):=(blk_cell Qa.out 2).trans rfl
         have hcz47_3 : wc.cell? ⟨Qe,3,none⟩ = some (.bool Qf):=(blk_cell Qa.out 3).trans rfl
         have hfz47_0:=blk_frozen Qa.out 0
         have hfz47_1:=blk_frozen Qa.out 1
         have hfz47_2:=blk_frozen Qa.out 2
         have hfz47_3:=blk_frozen Qa.out 3
         go_wp2_with (first|((with_reducible refine gate_callee (f:=22) rfl ?_);refine goesL_ (some 48) rfl rfl Try.func22 (by kernel_rfl) rfl #[.agg #[.int .i64 (wrap64 (Qb + 1)),.int .i64 Qc,.int .i64 (wrap64 (Qd + Qj)),.bool Qf]] rfl (by (try simp only [List.map_toArray,List.map_cons,List.map_nil]);first|done|rfl|(simp only [List.length_drop,List.length_take];rfl)) ?_;(with_reducible refine (resync_may.calls (wrap64 (Qb + 1)) Qc (wrap64 (Qd + Qj)) Qf false _ A38.out).mono ?_);rintro e w48 ⟨rfl,hb⟩;refine ⟨_,rfl,?_⟩;have n0_:=kb_ Ql hb;have n1_:=kb_ Qg hb;have n2_:=Aside0.mk (blk_below (g:=Qe) (o:=.cells #[.int .i64 (wrap64 (Qb + 1)),.int .i64 Qc,.int .i64 (wrap64 (Qd + Qj)),.bool Qf] 25 (0,0)) (by (with_reducible repeat (first|refine blk_drewN ?_ _|refine blk_drew ?_|refine blk_alloc ?_ _));refine blk_put (cs:=#[.int .i64 (wrap64 (Qb + 1)),.int .i64 Qc,.int .i64 Qd,.bool Qf]) ?_ 2 _ rfl;(with_reducible repeat (first|refine blk_drewN ?_ _|refine blk_drew ?_|refine blk_alloc ?_ _));refine blk_put (cs:=#[.int .i64 Qb,.int .i64 Qc,.int .i64 Qd,.bool Qf]) ?_ 0 _ rfl;(with_reducible repeat (first|refine blk_drewN ?_ _|refine blk_drew ?_|refine blk_alloc ?_ _));exact Qa.out) hb);have n3_:=ks_ HB hb;clear Ql;clear Qg;clear Qa;clear HB;have Ql:=n0_;have Qg:=n1_;have Qa:=n2_;have HB:=n3_;clear n0_ n1_ n2_ n3_;(try clear hb);(try clear hb2);(try clear hk);(try clear hi);have hcz49_0 : w48.cell? ⟨Qe,0,none⟩ = some (.int .i64 (wrap64 (Qb + 1))):=(blk_cell Qa.out 0).trans rfl;have hcz49_1 : w48.cell? ⟨Qe,1,none⟩ = some (.int .i64 Qc):=(blk_cell Qa.out 1).trans rfl;have hcz49_2 : w48.cell? ⟨Qe,2,none⟩ = some (.int .i64 (wrap64 (Qd + Qj))):=(blk_cell Qa.out 2).trans rfl;have hcz49_3 : w48.cell? ⟨Qe,3,none⟩ = some (.bool Qf):=(blk_cell Qa.out 3).trans rfl;have hfz49_0:=blk_frozen Qa.out 0;have hfz49_1:=blk_frozen Qa.out 1;have hfz49_2:=blk_frozen Qa.out 2;have hfz49_3:=blk_frozen Qa.out 3))
         refine bodyPost_ret (results_ctt rfl _ _ Qe 25 #[.int .i64 0,.int .i64 0,.int .i64 0,.bool false] (0,0) _ rfl (by (with_reducible repeat (first|refine blk_drewN ?_ _|refine blk_drew ?_|refine blk_alloc ?_ _));refine blk_put (cs:=#[.int .i64 0,.int .i64 0,.int .i64 0,.bool Qf]) ?_ 3 _ rfl;(with_reducible repeat (first|refine blk_drewN ?_ _|refine blk_drew ?_|refine blk_alloc ?_ _));refine blk_put (cs:=#[.int .i64 0,.int .i64 0,.int .i64 (wrap64 (Qd + Qj)),.bool Qf]) ?_ 2 _ rfl;(with_reducible repeat (first|refine blk_drewN ?_ _|refine blk_drew ?_|refine blk_alloc ?_ _));refine blk_put (cs:=#[.int .i64 0,.int .i64 Qc,.int .i64 (wrap64 (Qd + Qj)),.bool Qf]) ?_ 1 _ rfl;(with_reducible repeat (first|refine blk_drewN ?_ _|refine blk_drew ?_|refine blk_alloc ?_ _));refine blk_put (cs:=#[.int .i64 (wrap64 (Qb + 1)),.int .i64 Qc,.int .i64 (wrap64 (Qd + Qj)),.bool Qf]) ?_ 0 _ rfl;(with_reducible repeat (first|refine blk_drewN ?_ _|refine blk_drew ?_|refine blk_alloc ?_ _));exact Qa.out) Try.underlying25 rfl (by kernel_rfl)) rfl ?_
         exact ⟨by first|rfl|(simp [errW_none,errW_some] <;> rfl)|(simp [*,errW_none,errW_some] <;> rfl),by repeat (first|(with_reducible first|exact HB.out|apply below_alloc|apply pw_below_drewN|apply below_drew1|refine below_set ?_ QN.out|refine below_set ?_ QO.out|refine below_set ?_ QP.out)|exact HB.out)⟩
       ·rw [if_neg c37] at H
        have c37b0 : (Qj == 0) = false:=beq_eq_false_iff_ne.mpr c37
        have c37b1 : (Qj != 0) = true:=bne_iff_ne.mpr c37
        replace H:=Option.bind_eq_some_iff.mp H
        obtain ⟨t129,A500,H⟩:=H
        replace H : (if t129 = true then (some (wrap64 (Qb + 1),wrap64 (Qc + 1),wrap64 (Qd + Qj),Qf,Qj,0)) else (some (0,0,0,false,0,150))) = some (r1,r2,r3,r4,r5,r6):=H
        have A50:=Aside0.mk A500
        clear A500
        by_cases c51 : t129 = true
        ·subst c51
         have H1 : (some (wrap64 (Qb + 1),wrap64 (Qc + 1),wrap64 (Qd + Qj),Qf,Qj,0)) = some (r1,r2,r3,r4,r5,r6):=by rw [if_pos rfl] at H;exact H
         clear H
         have H:=H1
         clear H1
         simp only [Option.some.injEq,Prod.mk.injEq] at H
         obtain ⟨rfl,rfl,rfl,rfl,rfl,rfl⟩:=H
         have hnb52:=Qs.out
         have hnc52:=Qk.out
         have hnb53:=Qr.out
         have hnc53:=Qh.out
         have hcz54_0 : wc.cell? ⟨Qe,0,none⟩ = some (.int .i64 Qb):=(blk_cell Qa.out 0).trans rfl
         have hcz54_1 : wc.cell? ⟨Qe,1,none⟩ = some (.int .i64 Qc):=(blk_cell Qa.out 1).trans rfl
         have hcz54_2 : wc.cell? ⟨Qe,2,none⟩ = some (.int .i64 Qd):=(blk_cell Qa.out 2).trans rfl
         have hcz54_3 : wc.cell? ⟨Qe,3,none⟩ = some (.bool Qf):=(blk_cell Qa.out 3).trans rfl
         have hfz54_0:=blk_frozen Qa.out 0
         have hfz54_1:=blk_frozen Qa.out 1
         have hfz54_2:=blk_frozen Qa.out 2
         have hfz54_3:=blk_frozen Qa.out 3
         go_wp2_with (first|((with_reducible refine gate_callee (f:=22) rfl ?_);refine goesL_ (some 48) rfl rfl Try.func22 (by kernel_rfl) rfl #[.agg #[.int .i64 (wrap64 (Qb + 1)),.int .i64 (wrap64 (Qc + 1)),.int .i64 (wrap64 (Qd + Qj)),.bool Qf]] rfl (by (try simp only [List.map_toArray,List.map_cons,List.map_nil]);first|done|rfl|(simp only [List.length_drop,List.length_take];rfl)) ?_;(with_reducible refine (resync_may.calls (wrap64 (Qb + 1)) (wrap64 (Qc + 1)) (wrap64 (Qd + Qj)) Qf true _ A50.out).mono ?_);rintro e w55 ⟨rfl,hb⟩;refine ⟨_,rfl,?_⟩;have n0_:=kb_ Ql hb;have n1_:=kb_ Qg hb;have n2_:=Aside0.mk (blk_below (g:=Qe) (o:=.cells #[.int .i64 (wrap64 (Qb + 1)),.int .i64 (wrap64 (Qc + 1)),.int .i64 (wrap64 (Qd + Qj)),.bool Qf] 25 (0,0)) (by (with_reducible repeat (first|refine blk_drewN ?_ _|refine blk_drew ?_|refine blk_alloc ?_ _));refine blk_put (cs:=#[.int .i64 (wrap64 (Qb + 1)),.int .i64 (wrap64 (Qc + 1)),.int .i64 Qd,.bool Qf]) ?_ 2 _ rfl;(with_reducible repeat (first|refine blk_drewN ?_ _|refine blk_drew ?_|refine blk_alloc ?_ _));refine blk_put (cs:=#[.int .i64 (wrap64 (Qb + 1)),.int .i64 Qc,.int .i64 Qd,.bool Qf]) ?_ 1 _ rfl;(with_reducible repeat (first|refine blk_drewN ?_ _|refine blk_drew ?_|refine blk_alloc ?_ _));refine blk_put (cs:=#[.int .i64 Qb,.int .i64 Qc,.int .i64 Qd,.bool Qf]) ?_ 0 _ rfl;(with_reducible repeat (first|refine blk_drewN ?_ _|refine blk_drew ?_|refine blk_alloc ?_ _));exact Qa.out) hb);have n3_:=ks_ HB hb;clear Ql;clear Qg;clear Qa;clear HB;have Ql:=n0_;have Qg:=n1_;have Qa:=n2_;have HB:=n3_;clear n0_ n1_ n2_ n3_;(try clear hb);(try clear hb2);(try clear hk);(try clear hi);have hcz56_0 : w55.cell? ⟨Qe,0,none⟩ = some (.int .i64 (wrap64 (Qb + 1))):=(blk_cell Qa.out 0).trans rfl;have hcz56_1 : w55.cell? ⟨Qe,1,none⟩ = some (.int .i64 (wrap64 (Qc + 1))):=(blk_cell Qa.out 1).trans rfl;have hcz56_2 : w55.cell? ⟨Qe,2,none⟩ = some (.int .i64 (wrap64 (Qd + Qj))):=(blk_cell Qa.out 2).trans rfl;have hcz56_3 : w55.cell? ⟨Qe,3,none⟩ = some (.bool Qf):=(blk_cell Qa.out 3).trans rfl;have hfz56_0:=blk_frozen Qa.out 0;have hfz56_1:=blk_frozen Qa.out 1;have hfz56_2:=blk_frozen Qa.out 2;have hfz56_3:=blk_frozen Qa.out 3))
         refine bodyPost_ret (results_ctt rfl _ _ Qe 25 #[.int .i64 (wrap64 (Qb + 1)),.int .i64 (wrap64 (Qc + 1)),.int .i64 (wrap64 (Qd + Qj)),.bool Qf] (0,0) _ rfl (by (with_reducible repeat (first|refine blk_drewN ?_ _|refine blk_drew ?_|refine blk_alloc ?_ _));refine blk_put (cs:=#[.int .i64 (wrap64 (Qb + 1)),.int .i64 (wrap64 (Qc + 1)),.int .i64 (wrap64 (Qd + Qj)),.bool Qf]) ?_ 3 _ rfl;(with_reducible repeat (first|refine blk_drewN ?_ _|refine blk_drew ?_|refine blk_alloc ?_ _));refine blk_put (cs:=#[.int .i64 (wrap64 (Qb + 1)),.int .i64 (wrap64 (Qc + 1)),.int .i64 (wrap64 (Qd + Qj)),.bool Qf]) ?_ 2 _ rfl;(with_reducible repeat (first|refine blk_drewN ?_ _|refine blk_drew ?_|refine blk_alloc ?_ _));refine blk_put (cs:=#[.int .i64 (wrap64 (Qb + 1)),.int .i64 (wrap64 (Qc + 1)),.int .i64 (wrap64 (Qd + Qj)),.bool Qf]) ?_ 1 _ rfl;(with_reducible repeat (first|refine blk_drewN ?_ _|refine blk_drew ?_|refine blk_alloc ?_ _));refine blk_put (cs:=#[.int .i64 (wrap64 (Qb + 1)),.int .i64 (wrap64 (Qc + 1)),.int .i64 (wrap64 (Qd + Qj)),.bool Qf]) ?_ 0 _ rfl;(with_reducible repeat (first|refine blk_drewN ?_ _|refine blk_drew ?_|refine blk_alloc ?_ _));exact Qa.out) Try.underlying25 rfl (by kernel_rfl)) rfl ?_
         exact ⟨by first|rfl|(simp [errW_none,errW_some] <;> rfl)|(simp [*,errW_none,errW_some] <;> rfl),by repeat (first|(with_reducible first|exact HB.out|apply below_alloc|apply pw_below_drewN|apply below_drew1|refine below_set ?_ QN.out|refine below_set ?_ QO.out|refine below_set ?_ QP.out)|exact HB.out)⟩
        ·replace c51:=Bool.eq_false_iff.mpr c51
         subst c51
         have H1 : (some (0,0,0,false,0,150)) = some (r1,r2,r3,r4,r5,r6):=by rw [if_neg (show ¬ (false = true) by decide)] at H;exact H
         clear H
         have H:=H1
         clear H1
         simp only [Option.some.injEq,Prod.mk.injEq] at H
         obtain ⟨rfl,rfl,rfl,rfl,rfl,rfl⟩:=H
         have hnb57:=Qs.out
         have hnc57:=Qk.out
         have hnb58:=Qr.out
         have hnc58:=Qh.out
         have hcz59_0 : wc.cell? ⟨Qe,0,none⟩ = some (.int .i64 Qb):=(blk_cell Qa.out 0).trans rfl
         have hcz59_1 : wc.cell? ⟨Qe,1,none⟩ = some (.int .i64 Qc):=(blk_cell Qa.out 1).trans rfl
         have hcz59_2 : wc.cell? ⟨Qe,2,none⟩ = some (.int .i64 Qd):=(blk_cell Qa.out 2).trans rfl
         have hcz59_3 : wc.cell? ⟨Qe,3,none⟩ = some (.bool Qf):=(blk_cell Qa.out 3).trans rfl
         have hfz59_0:=blk_frozen Qa.out 0
         have hfz59_1:=blk_frozen Qa.out 1
         have hfz59_2:=blk_frozen Qa.out 2
         have hfz59_3:=blk_frozen Qa.out 3
         go_wp2_with (first|((with_reducible refine gate_callee (f:=22) rfl ?_);refine goesL_ (some 48) rfl rfl Try.func22 (by kernel_rfl) rfl #[.agg #[.int .i64 (wrap64 (Qb + 1)),.int .i64 (wrap64 (Qc + 1)),.int .i64 (wrap64 (Qd + Qj)),.bool Qf]] rfl (by (try simp only [List.map_toArray,List.map_cons,List.map_nil]);first|done|rfl|(simp only [List.length_drop,List.length_take];rfl)) ?_;(with_reducible refine (resync_may.calls (wrap64 (Qb + 1)) (wrap64 (Qc + 1)) (wrap64 (Qd + Qj)) Qf false _ A50.out).mono ?_);rintro e w60 ⟨rfl,hb⟩;refine ⟨_,rfl,?_⟩;have n0_:=kb_ Ql hb;have n1_:=kb_ Qg hb;have n2_:=Aside0.mk (blk_below (g:=Qe) (o:=.cells #[.int .i64 (wrap64 (Qb + 1)),.int .i64 (wrap64 (Qc + 1)),.int .i64 (wrap64 (Qd + Qj)),.bool Qf] 25 (0,0)) (by (with_reducible repeat (first|refine blk_drewN ?_ _|refine blk_drew ?_|refine blk_alloc ?_ _));refine blk_put (cs:=#[.int .i64 (wrap64 (Qb + 1)),.int .i64 (wrap64 (Qc + 1)),.int .i64 Qd,.bool Qf]) ?_ 2 _ rfl;(with_reducible repeat (first|refine blk_drewN ?_ _|refine blk_drew ?_|refine blk_alloc ?_ _));refine blk_put (cs:=#[.int .i64 (wrap64 (Qb + 1)),.int .i64 Qc,.int .i64 Qd,.bool Qf]) ?_ 1 _ rfl;(with_reducible repeat (first|refine blk_drewN ?_ _|refine blk_drew ?_|refine blk_alloc ?_ _));refine blk_put (cs:=#[.int .i64 Qb,.int .i64 Qc,.int .i64 Qd,.bool Qf]) ?_ 0 _ rfl;(with_reducible repeat (first|refine blk_drewN ?_ _|refine blk_drew ?_|refine blk_alloc ?_ _));exact Qa.out) hb);have n3_:=ks_ HB hb;clear Ql;clear Qg;clear Qa;clear HB;have Ql:=n0_;have Qg:=n1_;have Qa:=n2_;have HB:=n3_;clear n0_ n1_ n2_ n3_;(try clear hb);(try clear hb2);(try clear hk);(try clear hi);have hcz61_0 : w60.cell? ⟨Qe,0,none⟩ = some (.int .i64 (wrap64 (Qb + 1))):=(blk_cell Qa.out 0).trans rfl;have hcz61_1 : w60.cell? ⟨Qe,1,none⟩ = some (.int .i64 (wrap64 (Qc + 1))):=(blk_cell Qa.out 1).trans rfl;have hcz61_2 : w60.cell? ⟨Qe,2,none⟩ = some (.int .i64 (wrap64 (Qd + Qj))):=(blk_cell Qa.out 2).trans rfl;have hcz61_3 : w60.cell? ⟨Qe,3,none⟩ = some (.bool Qf):=(blk_cell Qa.out 3).trans rfl;have hfz61_0:=blk_frozen Qa.out 0;have hfz61_1:=blk_frozen Qa.out 1;have hfz61_2:=blk_frozen Qa.out 2;have hfz61_3:=blk_frozen Qa.out 3))
         refine bodyPost_ret (results_ctt rfl _ _ Qe 25 #[.int .i64 0,.int .i64 0,.int .i64 0,.bool false] (0,0) _ rfl (by (with_reducible repeat (first|refine blk_drewN ?_ _|refine blk_drew ?_|refine blk_alloc ?_ _));refine blk_put (cs:=#[.int .i64 0,.int .i64 0,.int .i64 0,.bool Qf]) ?_ 3 _ rfl;(with_reducible repeat (first|refine blk_drewN ?_ _|refine blk_drew ?_|refine blk_alloc ?_ _));refine blk_put (cs:=#[.int .i64 0,.int .i64 0,.int .i64 (wrap64 (Qd + Qj)),.bool Qf]) ?_ 2 _ rfl;(with_reducible repeat (first|refine blk_drewN ?_ _|refine blk_drew ?_|refine blk_alloc ?_ _));refine blk_put (cs:=#[.int .i64 0,.int .i64 (wrap64 (Qc + 1)),.int .i64 (wrap64 (Qd + Qj)),.bool Qf]) ?_ 1 _ rfl;(with_reducible repeat (first|refine blk_drewN ?_ _|refine blk_drew ?_|refine blk_alloc ?_ _));refine blk_put (cs:=#[.int .i64 (wrap64 (Qb + 1)),.int .i64 (wrap64 (Qc + 1)),.int .i64 (wrap64 (Qd + Qj)),.bool Qf]) ?_ 0 _ rfl;(with_reducible repeat (first|refine blk_drewN ?_ _|refine blk_drew ?_|refine blk_alloc ?_ _));exact Qa.out) Try.underlying25 rfl (by kernel_rfl)) rfl ?_
         exact ⟨by first|rfl|(simp [errW_none,errW_some] <;> rfl)|(simp [*,errW_none,errW_some] <;> rfl),by repeat (first|(with_reducible first|exact HB.out|apply below_alloc|apply pw_below_drewN|apply below_drew1|refine below_set ?_ QN.out|refine below_set ?_ QO.out|refine below_set ?_ QP.out)|exact HB.out)⟩

-- BY HAND: function 27 (plan_Fit)

end Go.Proofs.Ytnmephdamgofnaa.PB
