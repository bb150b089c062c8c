/- Written by a program of this session (wip/jprint.py, over the printer of the kit): functions that a law comes to, as plain Lean functions, and walks; Lean checks it. -/
import Derived.Test.YtnmephdamgofnaaPAx0
import Derived.Test.YtnmephdamgofnaaPAx1
import Derived.Test.YtnmephdamgofnaaPAx8
namespace Go.Proofs.Ytnmephdamgofnaa.PA
open Go.RowKit Go.Proofs.YtnmephdamgofnaaW.PrintWords Go.Proofs.YtnmephdamgofnaaW.PrintLast Go.Proofs.YtnmephdamgofnaaW.PrintMore
attribute [local go_sem] max2_int min2_int max_two min_two max_three min_three max_four min_four   -- for this text's walks alone
set_option linter.unusedVariables false
set_option linter.unusedSimpArgs false

attribute [local go_sem high] eqA25
/-! ### vespersref15_Correction: function 8 -/
def vespersref15_Correction.l0 : Nat→List Int→Int→Int→Int→Int→Int→Int→Int→Int→Int→Int→Int→Int→Int→Int→Int→Int→Int→Option (Int × Int)
 | 0,_,_,_,_,_,_,_,_,_,_,_,_,_,_,_,_,_,_=>none
 | k + 1,x1,x6,x189000,Qz,x189002,x189003,x189004,x189005,x189006,x189007,x189008,x189009,QA,x189011,x189012,x189013,x189014,x189015=>if x6 < (x1.length : Int) then (if 0 ≤ x6 then (if (rd x1 x6) < (-4294967296) then (some (0,150)) else (if (rd x1 x6) > 4294967296 then (some (0,150)) else (vespersref15_Correction.l0 k x1 (wrap64 (x6 + 1)) x189000 Qz x189002 x189003 x189004 x189005 x189006 x189007 x189008 x189009 QA x189011 x189012 x189013 x189014 x189015))) else (none)) else (if (x1.length : Int) ≤ (wrap64 (2 * Qz)) then (some (0,0)) else ((vespersref14_Of.f k x1 Qz).bind fun bt192=>(if bt192.1 > QA then (some (0,151)) else (if bt192.1 < (wrap64 (-QA)) then (some (0,151)) else (some (wrap64 (-bt192.1),0))))))
def vespersref15_Correction.f (k : Nat) (Qd : Int) (Qc : Int) (Qf : Int) (Qg : Int) (Qo : Int) (Qp : Int) (Qq : Int) (Qr : Int) (Qs : Int) (Qt : Int) (Qe : Int) (Qh : Int) (Qi : Int) (Qj : Int) (Qk : Int) (Ql : Int) (l1 : List Int) : Option (Int × Int):=(vespersref07_Check.f k Qd Qc Qf Qg Qo Qp Qq Qr Qs Qt Qe Qh Qi Qj Qk Ql).bind fun Qx=>(if Qx = 0 then (vespersref15_Correction.l0 k l1 0 Qd Qc Qf Qg Qo Qp Qq Qr Qs Qt Qe Qh Qi Qj Qk Ql) else (some (0,150)))
theorem vespersref15_Correction.mono_l : ∀ k,(∀ y0 y1 y2 y3 y4 y5 y6 y7 y8 y9 y10 y11 y12 y13 y14 y15 y16 y17,LeO (vespersref15_Correction.l0 k y0 y1 y2 y3 y4 y5 y6 y7 y8 y9 y10 y11 y12 y13 y14 y15 y16 y17) (vespersref15_Correction.l0 (k + 1) y0 y1 y2 y3 y4 y5 y6 y7 y8 y9 y10 y11 y12 y13 y14 y15 y16 y17))
 | 0=>fun _ _ _ _ _ _ _ _ _ _ _ _ _ _ _ _ _ _ r h=>by simp [vespersref15_Correction.l0] at h
 | k + 1=>by
  have ih0:=vespersref15_Correction.mono_l k
  ·intro y0 y1 y2 y3 y4 y5 y6 y7 y8 y9 y10 y11 y12 y13 y14 y15 y16 y17
   unfold vespersref15_Correction.l0
   repeat' first
   | (with_reducible exact ih0 _ _ _ _ _ _ _ _ _ _ _ _ _ _ _ _ _ _)
   | (with_reducible exact vespersref07_Check.mono _ _ _ _ _ _ _ _ _ _ _ _ _ _ _ _ _)
   | (with_reducible exact vespersref14_Of.mono _ _ _)
   | (with_reducible exact LeO.refl _)
   | (with_reducible exact LeO.none _)
   | (with_reducible refine LeO.ite ?_ ?_)
   | (with_reducible refine LeO.bind ?_ (fun _=>?_))
   | exact ih0 _ _ _ _ _ _ _ _ _ _ _ _ _ _ _ _ _ _
   | exact vespersref07_Check.mono _ _ _ _ _ _ _ _ _ _ _ _ _ _ _ _ _
   | exact vespersref14_Of.mono _ _ _
   | exact LeO.none _
   | refine LeO.ite ?_ ?_
   | refine LeO.bind ?_ (fun _=>?_)
theorem vespersref15_Correction.mono : ∀ a0 a1 a2 a3 a4 a5 a6 a7 a8 a9 a10 a11 a12 a13 a14 a15 a16 k,LeO (vespersref15_Correction.f k a0 a1 a2 a3 a4 a5 a6 a7 a8 a9 a10 a11 a12 a13 a14 a15 a16) (vespersref15_Correction.f (k + 1) a0 a1 a2 a3 a4 a5 a6 a7 a8 a9 a10 a11 a12 a13 a14 a15 a16):=by
 intro a0 a1 a2 a3 a4 a5 a6 a7 a8 a9 a10 a11 a12 a13 a14 a15 a16 k
 have ih0:=vespersref15_Correction.mono_l k
 unfold vespersref15_Correction.f
 repeat' first
   | (with_reducible exact ih0 _ _ _ _ _ _ _ _ _ _ _ _ _ _ _ _ _ _)
   | (with_reducible exact vespersref07_Check.mono _ _ _ _ _ _ _ _ _ _ _ _ _ _ _ _ _)
   | (with_reducible exact vespersref14_Of.mono _ _ _)
   | (with_reducible exact LeO.refl _)
   | (with_reducible exact LeO.none _)
   | (with_reducible refine LeO.ite ?_ ?_)
   | (with_reducible refine LeO.bind ?_ (fun _=>?_))
   | exact ih0 _ _ _ _ _ _ _ _ _ _ _ _ _ _ _ _ _ _
   | exact vespersref07_Check.mono _ _ _ _ _ _ _ _ _ _ _ _ _ _ _ _ _
   | exact vespersref14_Of.mono _ _ _
   | exact LeO.none _
   | refine LeO.ite ?_ ?_
   | refine LeO.bind ?_ (fun _=>?_)
set_option maxHeartbeats 8000000 in
set_option maxRecDepth 100000 in
theorem vespersref15_Correction.calls (k : Nat) (Qd : Int) (Qc : Int) (Qf : Int) (Qg : Int) (Qo : Int) (Qp : Int) (Qq : Int) (Qr : Int) (Qs : Int) (Qt : Int) (Qe : Int) (Qh : Int) (Qi : Int) (Qj : Int) (Qk : Int) (Ql : Int) (A1 : Option Addr) (c1 : Nat) (l1 : List Int) (r1 : Int) (r2 : Int) (w : World) (hr1 : Kd.C (Kd.int .i64) w A1 l1.length l1) (hc1 : l1.length ≤ c1) (h : vespersref15_Correction.f k Qd Qc Qf Qg Qo Qp Qq Qr Qs Qt Qe Qh Qi Qj Qk Ql l1 = some (r1,r2)) :
  Calls Try.prog 8 #[.agg #[.int .i64 Qd,.int .i64 Qc,.int .i64 Qf,.int .i64 Qg,.int .i64 Qo,.int .i64 Qp,.int .i64 Qq,.int .i64 Qr,.int .i64 Qs,.int .i64 Qt,.int .i64 Qe,.int .i64 Qh,.int .i64 Qi,.int .i64 Qj,.int .i64 Qk,.int .i64 Ql],.slice A1 l1.length c1] w fun e w'=>e = .returned (.tuple #[.int .i64 r1,.int .i64 r2])∧Below w.heap.size w w':=by
 have hu23:=Try.underlying23
 have HR1:=Aside0.mk hr1
 have HC1:=Aside0.mk hc1
 clear hr1 hc1
 have HB:=Aside0.mk (Below.refl w.heap.size w)
 have H : ((vespersref07_Check.f k Qd Qc Qf Qg Qo Qp Qq Qr Qs Qt Qe Qh Qi Qj Qk Ql).bind fun Qx=>(if Qx = 0 then (vespersref15_Correction.l0 k l1 0 Qd Qc Qf Qg Qo Qp Qq Qr Qs Qt Qe Qh Qi Qj Qk Ql) else (some (0,150)))) = some (r1,r2):=h
 clear h
 replace H:=Option.bind_eq_some_iff.mp H
 obtain ⟨Qx,A30,H⟩:=H
 replace H : (if Qx = 0 then (vespersref15_Correction.l0 k l1 0 Qd Qc Qf Qg Qo Qp Qq Qr Qs Qt Qe Qh Qi Qj Qk Ql) else (some (0,150))) = some (r1,r2):=H
 have A3:=Aside0.mk A30
 clear A30
 by_cases c4 : Qx = 0
 ·rw [if_pos c4] at H
  have c4b0 : (Qx == 0) = true:=beq_iff_eq.mpr c4
  have c4b1 : (Qx != 0) = false:=bne_eq_false_iff_eq.mpr c4
  clear c4
  have H':=Aside0.mk H
  clear H
  go_enter Try.func8,Try.ntmps8
  go_wp2_with (first|((with_reducible refine gate_dst (N:=2) rfl ?_);refine box_event ?hg (N:=2) ?hd (cs:=#[.int .i64 Qd,.int .i64 Qc,.int .i64 Qf,.int .i64 Qg,.int .i64 Qo,.int .i64 Qp,.int .i64 Qq,.int .i64 Qr,.int .i64 Qs,.int .i64 Qt,.int .i64 Qe,.int .i64 Qh,.int .i64 Qi,.int .i64 Qj,.int .i64 Qk,.int .i64 Ql]) (t:=23) ?hr ?_;(case hd=>rfl);(case hg=>rfl);(case hr=>first|(go_simp;done)|(go_simp;rfl));intro Qu hg w5 hbox hb;have n0_:=Aside0.mk (below_step (by repeat (first|(with_reducible first|exact HB.out|apply below_alloc|apply pw_below_drewN|apply below_drew1)|exact HB.out)) hb);have n1_:=Aside0.mk (hbox);have n2_:=Aside0.mk ((by rw [hg];exact (below_size (by repeat (first|(with_reducible first|exact HB.out|apply below_alloc|apply pw_below_drewN|apply below_drew1)|exact HB.out))) : w.heap.size ≤ Qu));have n3_:=Aside0.mk ((by rw [hg];exact (below_size (by repeat (first|(with_reducible first|exact HB.out|apply below_alloc|apply pw_below_drewN|apply below_drew1)|exact HB.out))) : w.heap.size ≤ Qu));clear HB;have HB:=n0_;have Qm:=n1_;have GW188:=n2_;have Qv:=n3_;clear n0_ n1_ n2_ n3_;clear hb hbox hg;obtain ⟨hcz6_0,hcz6_1,hcz6_2,hcz6_3,hcz6_4,hcz6_5,hcz6_6,hcz6_7,hcz6_8,hcz6_9,hcz6_10,hcz6_11,hcz6_12,hcz6_13,hcz6_14,hcz6_15⟩:=bc16_ (w:=w5) (g:=Qu) (.int .i64 Qd) (.int .i64 Qc) (.int .i64 Qf) (.int .i64 Qg) (.int .i64 Qo) (.int .i64 Qp) (.int .i64 Qq) (.int .i64 Qr) (.int .i64 Qs) (.int .i64 Qt) (.int .i64 Qe) (.int .i64 Qh) (.int .i64 Qi) (.int .i64 Qj) (.int .i64 Qk) (.int .i64 Ql) Qm.out;obtain ⟨hfz6_0,hfz6_1,hfz6_2,hfz6_3,hfz6_4,hfz6_5,hfz6_6,hfz6_7,hfz6_8,hfz6_9,hfz6_10,hfz6_11,hfz6_12,hfz6_13,hfz6_14,hfz6_15⟩:=bf16_ Qm.out)|((with_reducible refine gate_callee (f:=13) rfl ?_);refine goesL_ (some 10) rfl rfl Try.func13 (by kernel_rfl) rfl #[.agg #[.int .i64 Qd,.int .i64 Qc,.int .i64 Qf,.int .i64 Qg,.int .i64 Qo,.int .i64 Qp,.int .i64 Qq,.int .i64 Qr,.int .i64 Qs,.int .i64 Qt,.int .i64 Qe,.int .i64 Qh,.int .i64 Qi,.int .i64 Qj,.int .i64 Qk,.int .i64 Ql]] rfl (by (try simp only [List.map_toArray,List.map_cons,List.map_nil]);first|done|rfl|(simp only [List.length_drop,List.length_take];rfl)) ?_;(with_reducible refine (vespersref07_Check.calls k Qd Qc Qf Qg Qo Qp Qq Qr Qs Qt Qe Qh Qi Qj Qk Ql Qx _ A3.out).mono ?_);rintro e w7 ⟨rfl,hb⟩;refine ⟨_,rfl,?_⟩;have n0_:=Aside0.mk (blk_below (g:=Qu) (o:=.cells #[.int .i64 Qd,.int .i64 Qc,.int .i64 Qf,.int .i64 Qg,.int .i64 Qo,.int .i64 Qp,.int .i64 Qq,.int .i64 Qr,.int .i64 Qs,.int .i64 Qt,.int .i64 Qe,.int .i64 Qh,.int .i64 Qi,.int .i64 Qj,.int .i64 Qk,.int .i64 Ql] 23 (0,0)) (by (with_reducible repeat (first|refine blk_drewN ?_ _|refine blk_drew ?_|refine blk_alloc ?_ _));exact Qm.out) hb);have n1_:=Aside0.mk (below_step (by repeat (first|(with_reducible first|exact HB.out|apply below_alloc|apply pw_below_drewN|apply below_drew1|refine below_set ?_ Qv.out)|exact HB.out)) hb);clear Qm;clear HB;have Qm:=n0_;have HB:=n1_;clear n0_ n1_;(try clear hb);(try clear hb2);(try clear hk);(try clear hi)))
  go_loopg [6] k (fun kq v6 w'=>∃ (Qn : Int),v6 = .int .i64 Qn∧Aside0 (vespersref15_Correction.l0 kq l1 Qn Qd Qc Qf Qg Qo Qp Qq Qr Qs Qt Qe Qh Qi Qj Qk Ql = some (r1,r2))∧Aside0 (kq ≤ k)∧Aside0 (w'.heap[Qu]? = some (.cells #[.int .i64 Qd,.int .i64 Qc,.int .i64 Qf,.int .i64 Qg,.int .i64 Qo,.int .i64 Qp,.int .i64 Qq,.int .i64 Qr,.int .i64 Qs,.int .i64 Qt,.int .i64 Qe,.int .i64 Qh,.int .i64 Qi,.int .i64 Qj,.int .i64 Qk,.int .i64 Ql] 23 (0,0)))∧Aside0 (Below w.heap.size w w'))
  case atStart=>exact ⟨(0),(by first|rfl|(simp;done)|(simp [*];done)),H',⟨Nat.le_refl _⟩,⟨by (with_reducible repeat (first|refine blk_drewN ?_ _|refine blk_drew ?_|refine blk_alloc ?_ _));exact Qm.out⟩,⟨by repeat (first|(with_reducible first|exact HB.out|apply below_alloc|apply pw_below_drewN|apply below_drew1|refine below_set ?_ Qv.out)|exact HB.out)⟩⟩
  case round =>
   clear H'
   try clear c1
   try clear p2
   try clear c4
   try clear c4b0
   try clear c4b1
   try clear hcz6_0
   try clear hcz6_1
   try clear hcz6_10
   try clear hcz6_11
   try clear hcz6_12
   try clear hcz6_13
   try clear hcz6_14
   try clear hcz6_15
   try clear hcz6_2
   try clear hcz6_3
   try clear hcz6_4
   try clear hcz6_5
   try clear hcz6_6
   try clear hcz6_7
   try clear hcz6_8
   try clear hcz6_9
   try clear hfz6_0
   try clear hfz6_1
   try clear hfz6_10
   try clear hfz6_11
   try clear hfz6_12
   try clear hfz6_13
   try clear hfz6_14
   try clear hfz6_15
   try clear hfz6_2
   try clear hfz6_3
   try clear hfz6_4
   try clear hfz6_5
   try clear hfz6_6
   try clear hfz6_7
   try clear hfz6_8
   try clear hfz6_9
   obtain ⟨Qn,rfl,HA,HK1,Qm,HB⟩:=hrel
   cases gk with
   | zero=>exact absurd HA.out (by simp [vespersref15_Correction.l0])
   | succ k1 =>
    have H:=HA.out
    clear HA
    simp only [vespersref15_Correction.l0] at H
    by_cases c8 : Qn < (l1.length : Int)
    ·rw [if_pos c8] at H
     have c8b0 : decide (Qn < (l1.length : Int)) = true:=decide_eq_true c8
     clear c8
     by_cases c9 : 0 ≤ Qn
     ·rw [if_pos c9] at H
      have c9b0 : decide (0 ≤ Qn) = true:=decide_eq_true c9
      clear c9
      by_cases c10 : (rd l1 Qn) < (-4294967296)
      ·rw [if_pos c10] at H
       have c10b0 : decide ((rd l1 Qn) < (-4294967296)) = true:=decide_eq_true c10
       clear c10
       simp only [Option.some.injEq,Prod.mk.injEq] at H
       obtain ⟨rfl,rfl⟩:=H
       have p190 : 0 ≤ (Qn : Int):=of_decide_eq_true (by first|(with_reducible assumption)|assumption)
       have q190 : Qn < (l1.length : Int):=of_decide_eq_true (by first|(with_reducible assumption)|assumption)
       obtain ⟨ad190,e190,hx190_0⟩:=Kd.at_int HR1.out Qn p190 q190
       cases e190
       replace hx190_0:=(HB.out.cell (World.block_lt_of_cell? w _ hx190_0)).trans hx190_0
       replace p190:=eq_true p190
       replace q190:=eq_true q190
       go_wp2
       go_ret2
       exact ⟨by first|rfl|(simp [errW_none,errW_some] <;> rfl)|(simp [*,errW_none,errW_some] <;> rfl),by repeat (first|(with_reducible first|exact HB.out|apply below_alloc|apply pw_below_drewN|apply below_drew1|refine below_set ?_ Qv.out)|exact HB.out)⟩
      ·rw [if_neg c10] at H
       have c10b0 : decide ((rd l1 Qn) < (-4294967296)) = false:=decide_eq_false c10
       clear c10
       by_cases c11 : (rd l1 Qn) > 4294967296
       ·rw [if_pos c11] at H
        have c11b0 : decide (4294967296 < (rd l1 Qn)) = true:=decide_eq_true c11
        clear c11
        simp only [Option.some.injEq,Prod.mk.injEq] at H
        obtain ⟨rfl,rfl⟩:=H
        have p190 : 0 ≤ (Qn : Int):=of_decide_eq_true (by first|(with_reducible assumption)|assumption)
        have q190 : Qn < (l1.length : Int):=of_decide_eq_true (by first|(with_reducible assumption)|assumption)
        obtain ⟨ad190,e190,hx190_0⟩:=Kd.at_int HR1.out Qn p190 q190
        cases e190
        replace hx190_0:=(HB.out.cell (World.block_lt_of_cell? w _ hx190_0)).trans hx190_0
        replace p190:=eq_true p190
        replace q190:=eq_true q190
        have p191 : 0 ≤ (Qn : Int):=of_decide_eq_true (by first|(with_reducible assumption)|assumption)
        have q191 : Qn < (l1.length : Int):=of_decide_eq_true (by first|(with_reducible assumption)|assumption)
        obtain ⟨ad191,e191,hx191_0⟩:=Kd.at_int HR1.out Qn p191 q191
        obtain rfl : ad190 = ad191:=(by injection e191)
        replace hx191_0:=(HB.out.cell (World.block_lt_of_cell? w _ hx191_0)).trans hx191_0
        replace p191:=eq_true p191
        replace q191:=eq_true q191
        go_wp2
        go_ret2
        exact ⟨by first|rfl|(simp [errW_none,errW_some] <;> rfl)|(simp [*,errW_none,errW_some] <;> rfl),by repeat (first|(with_reducible first|exact HB.out|apply below_alloc|apply pw_below_drewN|apply below_drew1|refine below_set ?_ Qv.out)|exact HB.out)⟩
       ·rw [if_neg c11] at H
        have c11b0 : decide (4294967296 < (rd l1 Qn)) = false:=decide_eq_false c11
        clear c11
        have H':=Aside0.mk H
        clear H
        have p190 : 0 ≤ (Qn : Int):=of_decide_eq_true (by first|(with_reducible assumption)|assumption)
        have q190 : Qn < (l1.length : Int):=of_decide_eq_true (by first|(with_reducible assumption)|assumption)
        obtain ⟨ad190,e190,hx190_0⟩:=Kd.at_int HR1.out Qn p190 q190
        cases e190
        replace hx190_0:=(HB.out.cell (World.block_lt_of_cell? w _ hx190_0)).trans hx190_0
        replace p190:=eq_true p190
        replace q190:=eq_true q190
        have p191 : 0 ≤ (Qn : Int):=of_decide_eq_true (by first|(with_reducible assumption)|assumption)
        have q191 : Qn < (l1.length : Int):=of_decide_eq_true (by first|(with_reducible assumption)|assumption)
        obtain ⟨ad191,e191,hx191_0⟩:=Kd.at_int HR1.out Qn p191 q191
        obtain rfl : ad190 = ad191:=(by injection e191)
        replace hx191_0:=(HB.out.cell (World.block_lt_of_cell? w _ hx191_0)).trans hx191_0
        replace p191:=eq_true p191
        replace q191:=eq_true q191
        go_wp2
        go_roundg k1
        case measure=>have:=HK1.out;omega
        case rel=>exact ⟨(wrap64 (Qn + 1)),(by first|rfl|(simp;done)|(simp [*];done)),H',⟨by have:=HK1.out;omega⟩,⟨by (with_reducible repeat (first|refine blk_drewN ?_ _|refine blk_drew ?_|refine blk_alloc ?_ _));exact Qm.out⟩,⟨by repeat (first|(with_reducible first|exact HB.out|apply below_alloc|apply pw_below_drewN|apply below_drew1|refine below_set ?_ Qv.out)|exact HB.out)⟩⟩
     ·rw [if_neg c9] at H
      exact absurd H (by simp)
    ·rw [if_neg c8] at H
     have c8b0 : decide (Qn < (l1.length : Int)) = false:=decide_eq_false c8
     clear c8
     by_cases c12 : (l1.length : Int) ≤ (wrap64 (2 * Qc))
     ·rw [if_pos c12] at H
      have c12b0 : decide ((l1.length : Int) ≤ (wrap64 (2 * Qc))) = true:=decide_eq_true c12
      clear c12
      simp only [Option.some.injEq,Prod.mk.injEq] at H
      obtain ⟨rfl,rfl⟩:=H
      obtain ⟨hcz13_0,hcz13_1,hcz13_2,hcz13_3,hcz13_4,hcz13_5,hcz13_6,hcz13_7,hcz13_8,hcz13_9,hcz13_10,hcz13_11,hcz13_12,hcz13_13,hcz13_14,hcz13_15⟩:=bc16_ (w:=wr) (g:=Qu) (.int .i64 Qd) (.int .i64 Qc) (.int .i64 Qf) (.int .i64 Qg) (.int .i64 Qo) (.int .i64 Qp) (.int .i64 Qq) (.int .i64 Qr) (.int .i64 Qs) (.int .i64 Qt) (.int .i64 Qe) (.int .i64 Qh) (.int .i64 Qi) (.int .i64 Qj) (.int .i64 Qk) (.int .i64 Ql) Qm.out
      obtain ⟨hfz13_0,hfz13_1,hfz13_2,hfz13_3,hfz13_4,hfz13_5,hfz13_6,hfz13_7,hfz13_8,hfz13_9,hfz13_10,hfz13_11,hfz13_12,hfz13_13,hfz13_14,hfz13_15⟩:=bf16_ Qm.out
      go_wp2
      go_ret2
      exact ⟨by first|rfl|(simp [errW_none,errW_some] <;> rfl)|(simp [*,errW_none,errW_some] <;> rfl),by repeat (first|(with_reducible first|exact HB.out|apply below_alloc|apply pw_below_drewN|apply below_drew1|refine below_set ?_ Qv.out)|exact HB.out)⟩
     ·rw [if_neg c12] at H
      have c12b0 : decide ((l1.length : Int) ≤ (wrap64 (2 * Qc))) = false:=decide_eq_false c12
      clear c12
      replace H:=Option.bind_eq_some_iff.mp H
      obtain ⟨⟨Qy,t193⟩,A140,H⟩:=H
      replace H : (if Qy > Qe then (some (0,151)) else (if Qy < (wrap64 (-Qe)) then (some (0,151)) else (some (wrap64 (-Qy),0)))) = some (r1,r2):=H
      have A14:=Aside0.mk A140
      clear A140
      by_cases c15 : Qy > Qe
      ·rw [if_pos c15] at H
       have c15b0 : decide (Qe < Qy) = true:=decide_eq_true c15
       clear c15
       simp only [Option.some.injEq,Prod.mk.injEq] at H
       obtain ⟨rfl,rfl⟩:=H
       obtain ⟨hcz16_0,hcz16_1,hcz16_2,hcz16_3,hcz16_4,hcz16_5,hcz16_6,hcz16_7,hcz16_8,hcz16_9,hcz16_10,hcz16_11,hcz16_12,hcz16_13,hcz16_14,hcz16_15⟩:=bc16_ (w:=wr) (g:=Qu) (.int .i64 Qd) (.int .i64 Qc) (.int .i64 Qf) (.int .i64 Qg) (.int .i64 Qo) (.int .i64 Qp) (.int .i64 Qq) (.int .i64 Qr) (.int .i64 Qs) (.int .i64 Qt) (.int .i64 Qe) (.int .i64 Qh) (.int .i64 Qi) (.int .i64 Qj) (.int .i64 Qk) (.int .i64 Ql) Qm.out
       obtain ⟨hfz16_0,hfz16_1,hfz16_2,hfz16_3,hfz16_4,hfz16_5,hfz16_6,hfz16_7,hfz16_8,hfz16_9,hfz16_10,hfz16_11,hfz16_12,hfz16_13,hfz16_14,hfz16_15⟩:=bf16_ Qm.out
       go_wp2_with (first|((with_reducible refine gate_callee (f:=21) rfl ?_);refine goesL_ (some 40) rfl rfl Try.func21 (by kernel_rfl) rfl #[.slice A1 l1.length c1,.int .i64 Qc] rfl (by (try simp only [List.map_toArray,List.map_cons,List.map_nil]);first|done|rfl|(simp only [List.length_drop,List.length_take];rfl)) ?_;(with_reducible refine (vespersref14_Of.calls k1 _ _ l1 Qc Qy t193 _ ?side1 ?side2 A14.out).mono ?_);(case side1=>repeat (first|exact (Kd.C_below HR1.out HB.out)|(with_reducible refine Kd.C_alloc ?_ _)|(with_reducible refine Kd.C_drewN ?_ _)|(with_reducible refine Kd.C_drew ?_)));(case side2=>exact HC1.out);rintro e w' ⟨rfl,⟨nd,rfl⟩⟩;refine ⟨_,rfl,?_⟩))
       go_ret2
       exact ⟨by first|rfl|(simp [errW_none,errW_some] <;> rfl)|(simp [*,errW_none,errW_some] <;> rfl),by repeat (first|(with_reducible first|exact HB.out|apply below_alloc|apply pw_below_drewN|apply below_drew1|refine below_set ?_ Qv.out)|exact HB.out)⟩
      ·rw [if_neg c15] at H
       have c15b0 : decide (Qe < Qy) = false:=decide_eq_false c15
       clear c15
       by_cases c17 : Qy < (wrap64 (-Qe))
       ·rw [if_pos c17] at H
        have c17b0 : decide (Qy < (wrap64 (-Qe))) = true:=decide_eq_true c17
        clear c17
        simp only [Option.some.injEq,Prod.mk.injEq] at H
        obtain ⟨rfl,rfl⟩:=H
        obtain ⟨hcz18_0,hcz18_1,hcz18_2,hcz18_3,hcz18_4,hcz18_5,hcz18_6,hcz18_7,hcz18_8,hcz18_9,hcz18_10,hcz18_11,hcz18_12,hcz18_13,hcz18_14,hcz18_15⟩:=bc16_ (w:=wr) (g:=Qu) (.int .i64 Qd) (.int .i64 Qc) (.int .i64 Qf) (.int .i64 Qg) (.int .i64 Qo) (.int .i64 Qp) (.int .i64 Qq) (.int .i64 Qr) (.int .i64 Qs) (.int .i64 Qt) (.int .i64 Qe) (.int .i64 Qh) (.int .i64 Qi) (.int .i64 Qj) (.int .i64 Qk) (.int .i64 Ql) Qm.out
        obtain ⟨hfz18_0,hfz18_1,hfz18_2,hfz18_3,hfz18_4,hfz18_5,hfz18_6,hfz18_7,hfz18_8,hfz18_9,hfz18_10,hfz18_11,hfz18_12,hfz18_13,hfz18_14,hfz18_15⟩:=bf16_ Qm.out
        go_wp2_with (first|((with_reducible refine gate_callee (f:=21) rfl ?_);refine goesL_ (some 40) rfl rfl Try.func21 (by kernel_rfl) rfl #[.slice A1 l1.length c1,.int .i64 Qc] rfl (by (try simp only [List.map_toArray,List.map_cons,List.map_nil]);first|done|rfl|(simp only [List.length_drop,List.length_take];rfl)) ?_;(with_reducible refine (vespersref14_Of.calls k1 _ _ l1 Qc Qy t193 _ ?side1 ?side2 A14.out).mono ?_);(case side1=>repeat (first|exact (Kd.C_below HR1.out HB.out)|(with_reducible refine Kd.C_alloc ?_ _)|(with_reducible refine Kd.C_drewN ?_ _)|(with_reducible refine Kd.C_drew ?_)));(case side2=>exact HC1.out);rintro e w' ⟨rfl,⟨nd,rfl⟩⟩;refine ⟨_,rfl,?_⟩))
        go_ret2
        exact ⟨by first|rfl|(simp [errW_none,errW_some] <;> rfl)|(simp [*,errW_none,errW_some] <;> rfl),by repeat (first|(with_reducible first|exact HB.out|apply below_alloc|apply pw_below_drewN|apply below_drew1|refine below_set ?_ Qv.out)|exact HB.out)⟩
       ·rw [if_neg c17] at H
        have c17b0 : decide (Qy < (wrap64 (-Qe))) = false:=decide_eq_false c17
        clear c17
        simp only [Option.some.injEq,Prod.mk.injEq] at H
        obtain ⟨rfl,rfl⟩:=H
        obtain ⟨hcz19_0,hcz19_1,hcz19_2,hcz19_3,hcz19_4,hcz19_5,hcz19_6,hcz19_7,hcz19_8,hcz19_9,hcz19_10,hcz19_11,hcz19_12,hcz19_13,hcz19_14,hcz19_15⟩:=bc16_ (w:=wr) (g:=Qu) (.int .i64 Qd) (.int .i64 Qc) (.int .i64 Qf) (.int .i64 Qg) (.int .i64 Qo) (.int .i64 Qp) (.int .i64 Qq) (.int .i64 Qr) (.int .i64 Qs) (.int .i64 Qt) (.int .i64 Qe) (.int .i64 Qh) (.int .i64 Qi) (.int .i64 Qj) (.int .i64 Qk) (.int .i64 Ql) Qm.out
        obtain ⟨hfz19_0,hfz19_1,hfz19_2,hfz19_3,hfz19_4,hfz19_5,hfz19_6,hfz19_7,hfz19_8,hfz19_9,hfz19_10,hfz19_11,hfz19_12,hfz19_13,hfz19_14,hfz19_15⟩:=bf16_ Qm.out
        go_wp2_with (first|((with_reducible refine gate_callee (f:=21) rfl ?_);refine goesL_ (some 40) rfl rfl Try.func21 (by kernel_rfl) rfl #[.slice A1 l1.length c1,.int .i64 Qc] rfl (by (try simp only [List.map_toArray,List.map_cons,List.map_nil]);first|done|rfl|(simp only [List.length_drop,List.length_take];rfl)) ?_;(with_reducible refine (vespersref14_Of.calls k1 _ _ l1 Qc Qy t193 _ ?side1 ?side2 A14.out).mono ?_);(case side1=>repeat (first|exact (Kd.C_below HR1.out HB.out)|(with_reducible refine Kd.C_alloc ?_ _)|(with_reducible refine Kd.C_drewN ?_ _)|(with_reducible refine Kd.C_drew ?_)));(case side2=>exact HC1.out);rintro e w' ⟨rfl,⟨nd,rfl⟩⟩;refine ⟨_,rfl,?_⟩))
        go_ret2
        exact ⟨by first|rfl|(simp [errW_none,errW_some] <;> rfl)|(simp [*,errW_none,errW_some] <;> rfl),by repeat (first|(with_reducible first|exact HB.out|apply below_alloc|apply pw_below_drewN|apply below_drew1|refine below_set ?_ Qv.out)|exact HB.out)⟩
 ·rw [if_neg c4] at H
  have c4b0 : (Qx == 0) = false:=beq_eq_false_iff_ne.mpr c4
  have c4b1 : (Qx != 0) = true:=bne_iff_ne.mpr c4
  simp only [Option.some.injEq,Prod.mk.injEq] at H
  obtain ⟨rfl,rfl⟩:=H
  go_enter Try.func8,Try.ntmps8
  go_wp2_with (first|((with_reducible refine gate_dst (N:=2) rfl ?_);refine box_event ?hg (N:=2) ?hd (cs:=#[.int .i64 Qd,.int .i64 Qc,.int .i64 Qf,.int .i64 Qg,.int .i64 Qo,.int .i64 Qp,.int .i64 Qq,.int .i64 Qr,.int .i64 Qs,.int .i64 Qt,.int .i64 Qe,.int .i64 Qh,.int .i64 Qi,.int .i64 Qj,.int .i64 Qk,.int .i64 Ql]) (t:=23) ?hr ?_;(case hd=>rfl);(case hg=>rfl);(case hr=>first|(go_simp;done)|(go_simp;rfl));intro Qu hg w20 hbox hb;have n0_:=Aside0.mk (below_step (by repeat (first|(with_reducible first|exact HB.out|apply below_alloc|apply pw_below_drewN|apply below_drew1)|exact HB.out)) hb);have n1_:=Aside0.mk (hbox);have n2_:=Aside0.mk ((by rw [hg];exact (below_size (by repeat (first|(with_reducible first|exact HB.out|apply below_alloc|apply pw_below_drewN|apply below_drew1)|exact HB.out))) : w.heap.size ≤ Qu));have n3_:=Aside0.mk ((by rw [hg];exact (below_size (by repeat (first|(with_reducible first|exact HB.out|apply below_alloc|apply pw_below_drewN|apply below_drew1)|exact HB.out))) : w.heap.size ≤ Qu));clear HB;have HB:=n0_;have Qm:=n1_;have GW188:=n2_;have Qv:=n3_;clear n0_ n1_ n2_ n3_;clear hb hbox hg;obtain ⟨hcz21_0,hcz21_1,hcz21_2,hcz21_3,hcz21_4,hcz21_5,hcz21_6,hcz21_7,hcz21_8,hcz21_9,hcz21_10,hcz21_11,hcz21_12,hcz21_13,hcz21_14,hcz21_15⟩:=bc16_ (w:=w20) (g:=Qu) (.int .i64 Qd) (.int .i64 Qc) (.int .i64 Qf) (.int .i64 Qg) (.int .i64 Qo) (.int .i64 Qp) (.int .i64 Qq) (.int .i64 Qr) (.int .i64 Qs) (.int .i64 Qt) (.int .i64 Qe) (.int .i64 Qh) (.int .i64 Qi) (.int .i64 Qj) (.int .i64 Qk) (.int .i64 Ql) Qm.out;obtain ⟨hfz21_0,hfz21_1,hfz21_2,hfz21_3,hfz21_4,hfz21_5,hfz21_6,hfz21_7,hfz21_8,hfz21_9,hfz21_10,hfz21_11,hfz21_12,hfz21_13,hfz21_14,hfz21_15⟩:=bf16_ Qm.out)|((with_reducible refine gate_callee (f:=13) rfl ?_);refine goesL_ (some 10) rfl rfl Try.func13 (by kernel_rfl) rfl #[.agg #[.int .i64 Qd,.int .i64 Qc,.int .i64 Qf,.int .i64 Qg,.int .i64 Qo,.int .i64 Qp,.int .i64 Qq,.int .i64 Qr,.int .i64 Qs,.int .i64 Qt,.int .i64 Qe,.int .i64 Qh,.int .i64 Qi,.int .i64 Qj,.int .i64 Qk,.int .i64 Ql]] rfl (by (try simp only [List.map_toArray,List.map_cons,List.map_nil]);first|done|rfl|(simp only [List.length_drop,List.length_take];rfl)) ?_;(with_reducible refine (vespersref07_Check.calls k Qd Qc Qf Qg Qo Qp Qq Qr Qs Qt Qe Qh Qi Qj Qk Ql Qx _ A3.out).mono ?_);rintro e w22 ⟨rfl,hb⟩;refine ⟨_,rfl,?_⟩;have n0_:=Aside0.mk (blk_below (g:=Qu) (o:=.cells #[.int .i64 Qd,.int .i64 Qc,.int .i64 Qf,.int .i64 Qg,.int .i64 Qo,.int .i64 Qp,.int .i64 Qq,.int .i64 Qr,.int .i64 Qs,.int .i64 Qt,.int .i64 Qe,.int .i64 Qh,.int .i64 Qi,.int .i64 Qj,.int .i64 Qk,.int .i64 Ql] 23 (0,0)) (by (with_reducible repeat (first|refine blk_drewN ?_ _|refine blk_drew ?_|refine blk_alloc ?_ _));exact Qm.out) hb);have n1_:=Aside0.mk (below_step (by repeat (first|(with_reducible first|exact HB.out|apply below_alloc|apply pw_below_drewN|apply below_drew1|refine below_set ?_ Qv.out)|exact HB.out)) hb);clear Qm;clear HB;have Qm:=n0_;have HB:=n1_;clear n0_ n1_;(try clear hb);(try clear hb2);(try clear hk);(try clear hi)))
  go_ret2
  exact ⟨by first|rfl|(simp [errW_none,errW_some] <;> rfl)|(simp [*,errW_none,errW_some] <;> rfl),by repeat (first|(with_reducible first|exact HB.out|apply below_alloc|apply pw_below_drewN|apply below_drew1|refine below_set ?_ Qv.out)|exact HB.out)⟩
/-! ### vespersref15_may: function 23 -/
def vespersref15_may.f (Qd : Int) (Qc : Int) (Qf : Int) (Qg : Bool) : Option (Bool):=if Qd < 0 then (some false) else (if Qd > 2147483647 then (some false) else (if Qc < 0 then (some false) else (if Qc > Qd then (some false) else (if Qf ≤ 4294967296 then (some (decide (Qf ≥ (-4294967296)))) else (some false)))))
set_option maxHeartbeats 8000000 in
set_option maxRecDepth 100000 in
theorem vespersref15_may.calls (Qd : Int) (Qc : Int) (Qf : Int) (Qg : Bool) (r : Bool) (w : World) (h : vespersref15_may.f Qd Qc Qf Qg = some r) :
  Calls Try.prog 23 #[.agg #[.int .i64 Qd,.int .i64 Qc,.int .i64 Qf,.bool Qg]] w fun e w'=>e = .returned (.bool r)∧Below w.heap.size w w':=by
 have hu25:=Try.underlying25
 have HB:=Aside0.mk (Below.refl w.heap.size w)
 have H : (if Qd < 0 then (some false) else (if Qd > 2147483647 then (some false) else (if Qc < 0 then (some false) else (if Qc > Qd then (some false) else (if Qf ≤ 4294967296 then (some (decide (Qf ≥ (-4294967296)))) else (some false)))))) = some r:=h
 clear h
 by_cases c2 : Qd < 0
 ·rw [if_pos c2] at H
  have c2b0 : decide (Qd < 0) = true:=decide_eq_true c2
  clear c2
  obtain rfl:=Option.some.inj H
  go_enter Try.func23,Try.ntmps23
  go_wp2_with (first|((with_reducible refine gate_dst (N:=1) rfl ?_);refine box_event ?hg (N:=1) ?hd (cs:=#[.int .i64 Qd,.int .i64 Qc,.int .i64 Qf,.bool Qg]) (t:=25) ?hr ?_;(case hd=>rfl);(case hg=>rfl);(case hr=>first|(go_simp;done)|(go_simp;rfl));intro Qb hg w3 hbox hb;have n0_:=Aside0.mk (below_step (by repeat (first|(with_reducible first|exact HB.out|apply below_alloc|apply pw_below_drewN|apply below_drew1)|exact HB.out)) hb);have n1_:=Aside0.mk (hbox);have n2_:=Aside0.mk ((by rw [hg];exact (below_size (by repeat (first|(with_reducible first|exact HB.out|apply below_alloc|apply pw_below_drewN|apply below_drew1)|exact HB.out))) : w.heap.size ≤ Qb));have n3_:=Aside0.mk ((by rw [hg];exact (below_size (by repeat (first|(with_reducible first|exact HB.out|apply below_alloc|apply pw_below_drewN|apply below_drew1)|exact HB.out))) : w.heap.size ≤ Qb));clear HB;have HB:=n0_;have Qa:=n1_;have GW194:=n2_;have Qw:=n3_;clear n0_ n1_ n2_ n3_;clear hb hbox hg;have hcz4_0 : w3.cell? ⟨Qb,0,none⟩ = some (.int .i64 Qd):=(blk_cell Qa.out 0).trans rfl;have hcz4_1 : w3.cell? ⟨Qb,1,none⟩ = some (.int .i64 Qc):=(blk_cell Qa.out 1).trans rfl;have hcz4_2 : w3.cell? ⟨Qb,2,none⟩ = some (.int .i64 Qf):=(blk_cell Qa.out 2).trans rfl;have hcz4_3 : w3.cell? ⟨Qb,3,none⟩ = some (.bool Qg):=(blk_cell Qa.out 3).trans rfl;have hfz4_0:=blk_frozen Qa.out 0;have hfz4_1:=blk_frozen Qa.out 1;have hfz4_2:=blk_frozen Qa.out 2;have hfz4_3:=blk_frozen Qa.out 3))
  go_ret
  exact ⟨by first|rfl|(simp [errW_none,errW_some] <;> rfl)|(simp [*,errW_none,errW_some] <;> rfl),by repeat (first|(with_reducible first|exact HB.out|apply below_alloc|apply pw_below_drewN|apply below_drew1|refine below_set ?_ Qw.out)|exact HB.out)⟩
 ·rw [if_neg c2] at H
  have c2b0 : decide (Qd < 0) = false:=decide_eq_false c2
  clear c2
  by_cases c5 : Qd > 2147483647
  ·rw [if_pos c5] at H
   have c5b0 : decide (2147483647 < Qd) = true:=decide_eq_true c5
   clear c5
   obtain rfl:=Option.some.inj H
   go_enter Try.func23,Try.ntmps23
   go_wp2_with (first|((with_reducible refine gate_dst (N:=1) rfl ?_);refine box_event ?hg (N:=1) ?hd (cs:=#[.int .i64 Qd,.int .i64 Qc,.int .i64 Qf,.bool Qg]) (t:=25) ?hr ?_;(case hd=>rfl);(case hg=>rfl);(case hr=>first|(go_simp;done)|(go_simp;rfl));intro Qb hg w6 hbox hb;have n0_:=Aside0.mk (below_step (by repeat (first|(with_reducible first|exact HB.out|apply below_alloc|apply pw_below_drewN|apply below_drew1)|exact HB.out)) hb);have n1_:=Aside0.mk (hbox);have n2_:=Aside0.mk ((by rw [hg];exact (below_size (by repeat (first|(with_reducible first|exact HB.out|apply below_alloc|apply pw_below_drewN|apply below_drew1)|exact HB.out))) : w.heap.size ≤ Qb));have n3_:=Aside0.mk ((by rw [hg];exact (below_size (by repeat (first|(with_reducible first|exact HB.out|apply below_alloc|apply pw_below_drewN|apply below_drew1)|exact HB.out))) : w.heap.size ≤ Qb));clear HB;have HB:=n0_;have Qa:=n1_;have GW194:=n2_;have Qw:=n3_;clear n0_ n1_ n2_ n3_;clear hb hbox hg;have hcz7_0 : w6.cell? ⟨Qb,0,none⟩ = some (.int .i64 Qd):=(blk_cell Qa.out 0).trans rfl;have hcz7_1 : w6.cell? ⟨Qb,1,none⟩ = some (.int .i64 Qc):=(blk_cell Qa.out 1).trans rfl;have hcz7_2 : w6.cell? ⟨Qb,2,none⟩ = some (.int .i64 Qf):=(blk_cell Qa.out 2).trans rfl;have hcz7_3 : w6.cell? ⟨Qb,3,none⟩ = some (.bool Qg):=(blk_cell Qa.out 3).trans rfl;have hfz7_0:=blk_frozen Qa.out 0;have hfz7_1:=blk_frozen Qa.out 1;have hfz7_2:=blk_frozen Qa.out 2;have hfz7_3:=blk_frozen Qa.out 3))
   go_ret
   exact ⟨by first|rfl|(simp [errW_none,errW_some] <;> rfl)|(simp [*,errW_none,errW_some] <;> rfl),by repeat (first|(with_reducible first|exact HB.out|apply below_alloc|apply pw_below_drewN|apply below_drew1|refine below_set ?_ Qw.out)|exact HB.out)⟩
  ·rw [if_neg c5] at H
   have c5b0 : decide (2147483647 < Qd) = false:=decide_eq_false c5
   clear c5
   by_cases c8 : Qc < 0
   ·rw [if_pos c8] at H
    have c8b0 : decide (Qc < 0) = true:=decide_eq_true c8
    clear c8
    obtain rfl:=Option.some.inj H
    go_enter Try.func23,Try.ntmps23
    go_wp2_with (first|((with_reducible refine gate_dst (N:=1) rfl ?_);refine box_event ?hg (N:=1) ?hd (cs:=#[.int .i64 Qd,.int .i64 Qc,.int .i64 Qf,.bool Qg]) (t:=25) ?hr ?_;(case hd=>rfl);(case hg=>rfl);(case hr=>first|(go_simp;done)|(go_simp;rfl));intro Qb hg w9 hbox hb;have n0_:=Aside0.mk (below_step (by repeat (first|(with_reducible first|exact HB.out|apply below_alloc|apply pw_below_drewN|apply below_drew1)|exact HB.out)) hb);have n1_:=Aside0.mk (hbox);have n2_:=Aside0.mk ((by rw [hg];exact (below_size (by repeat (first|(with_reducible first|exact HB.out|apply below_alloc|apply pw_below_drewN|apply below_drew1)|exact HB.out))) : w.heap.size ≤ Qb));have n3_:=Aside0.mk ((by rw [hg];exact (below_size (by repeat (first|(with_reducible first|exact HB.out|apply below_alloc|apply pw_below_drewN|apply below_drew1)|exact HB.out))) : w.heap.size ≤ Qb));clear HB;have HB:=n0_;have Qa:=n1_;have GW194:=n2_;have Qw:=n3_;clear n0_ n1_ n2_ n3_;clear hb hbox hg;have hcz10_0 : w9.cell? ⟨Qb,0,none⟩ = some (.int .i64 Qd):=(blk_cell Qa.out 0).trans rfl;have hcz10_1 : w9.cell? ⟨Qb,1,none⟩ = some (.int .i64 Qc):=(blk_cell Qa.out 1).trans rfl;have hcz10_2 : w9.cell? ⟨Qb,2,none⟩ = some (.int .i64 Qf):=(blk_cell Qa.out 2).trans rfl;have hcz10_3 : w9.cell? ⟨Qb,3,none⟩ = some (.bool Qg):=(blk_cell Qa.out 3).trans rfl;have hfz10_0:=blk_frozen Qa.out 0;have hfz10_1:=blk_frozen Qa.out 1;have hfz10_2:=blk_frozen Qa.out 2;have hfz10_3:=blk_frozen Qa.out 3))
    go_ret
    exact ⟨by first|rfl|(simp [errW_none,errW_some] <;> rfl)|(simp [*,errW_none,errW_some] <;> rfl),by repeat (first|(with_reducible first|exact HB.out|apply below_alloc|apply pw_below_drewN|apply below_drew1|refine below_set ?_ Qw.out)|exact HB.out)⟩
   ·rw [if_neg c8] at H
    have c8b0 : decide (Qc < 0) = false:=decide_eq_false c8
    clear c8
    by_cases c11 : Qc > Qd
    ·rw [if_pos c11] at H
     have c11b0 : decide (Qd < Qc) = true:=decide_eq_true c11
     clear c11
     obtain rfl:=Option.some.inj H
     go_enter Try.func23,Try.ntmps23
     go_wp2_with (first|((with_reducible refine gate_dst (N:=1) rfl ?_);refine box_event ?hg (N:=1) ?hd (cs:=#[.int .i64 Qd,.int .i64 Qc,.int .i64 Qf,.bool Qg]) (t:=25) ?hr ?_;(case hd=>rfl);(case hg=>rfl);(case hr=>first|(go_simp;done)|(go_simp;rfl));intro Qb hg w12 hbox hb;have n0_:=Aside0.mk (below_step (by repeat (first|(with_reducible first|exact HB.out|apply below_alloc|apply pw_below_drewN|apply below_drew1)|exact HB.out)) hb);have n1_:=Aside0.mk (hbox);have n2_:=Aside0.mk ((by rw [hg];exact (below_size (by repeat (first|(with_reducible first|exact HB.out|apply below_alloc|apply pw_below_drewN|apply below_drew1)|exact HB.out))) : w.heap.size ≤ Qb));have n3_:=Aside0.mk ((by rw [hg];exact (below_size (by repeat (first|(with_reducible first|exact HB.out|apply below_alloc|apply pw_below_drewN|apply below_drew1)|exact HB.out))) : w.heap.size ≤ Qb));clear HB;have HB:=n0_;have Qa:=n1_;have GW194:=n2_;have Qw:=n3_;clear n0_ n1_ n2_ n3_;clear hb hbox hg;have hcz13_0 : w12.cell? ⟨Qb,0,none⟩ = some (.int .i64 Qd):=(blk_cell Qa.out 0).trans rfl;have hcz13_1 : w12.cell? ⟨Qb,1,none⟩ = some (.int .i64 Qc):=(blk_cell Qa.out 1).trans rfl;have hcz13_2 : w12.cell? ⟨Qb,2,none⟩ = some (.int .i64 Qf):=(blk_cell Qa.out 2).trans rfl;have hcz13_3 : w12.cell? ⟨Qb,3,none⟩ = some (.bool Qg):=(blk_cell Qa.out 3).trans rfl;have hfz13_0:=blk_frozen Qa.out 0;have hfz13_1:=blk_frozen Qa.out 1;have hfz13_2:=blk_frozen Qa.out 2;have hfz13_3:=blk_frozen Qa.out 3))
     go_ret
     exact ⟨by first|rfl|(simp [errW_none,errW_some] <;> rfl)|(simp [*,errW_none,errW_some] <;> rfl),by repeat (first|(with_reducible first|exact HB.out|apply below_alloc|apply pw_below_drewN|apply below_drew1|refine below_set ?_ Qw.out)|exact HB.out)⟩
    ·rw [if_neg c11] at H
     have c11b0 : decide (Qd < Qc) = false:=decide_eq_false c11
     clear c11
     by_cases c14 : Qf ≤ 4294967296
     ·rw [if_pos c14] at H
      have c14b0 : decide (Qf ≤ 4294967296) = true:=decide_eq_true c14
      clear c14
      obtain rfl:=Option.some.inj H
      go_enter Try.func23,Try.ntmps23
      go_wp2_with (first|((with_reducible refine gate_dst (N:=1) rfl ?_);refine box_event ?hg (N:=1) ?hd (cs:=#[.int .i64 Qd,.int .i64 Qc,.int .i64 Qf,.bool Qg]) (t:=25) ?hr ?_;(case hd=>rfl);(case hg=>rfl);(case hr=>first|(go_simp;done)|(go_simp;rfl));intro Qb hg w15 hbox hb;have n0_:=Aside0.mk (below_step (by repeat (first|(with_reducible first|exact HB.out|apply below_alloc|apply pw_below_drewN|apply below_drew1)|exact HB.out)) hb);have n1_:=Aside0.mk (hbox);have n2_:=Aside0.mk ((by rw [hg];exact (below_size (by repeat (first|(with_reducible first|exact HB.out|apply below_alloc|apply pw_below_drewN|apply below_drew1)|exact HB.out))) : w.heap.size ≤ Qb));have n3_:=Aside0.mk ((by rw [hg];exact (below_size (by repeat (first|(with_reducible first|exact HB.out|apply below_alloc|apply pw_below_drewN|apply below_drew1)|exact HB.out))) : w.heap.size ≤ Qb));clear HB;have HB:=n0_;have Qa:=n1_;have GW194:=n2_;have Qw:=n3_;clear n0_ n1_ n2_ n3_;clear hb hbox hg;have hcz16_0 : w15.cell? ⟨Qb,0,none⟩ = some (.int .i64 Qd):=(blk_cell Qa.out 0).trans rfl;have hcz16_1 : w15.cell? ⟨Qb,1,none⟩ = some (.int .i64 Qc):=(blk_cell Qa.out 1).trans rfl;have hcz16_2 : w15.cell? ⟨Qb,2,none⟩ = some (.int .i64 Qf):=(blk_cell Qa.out 2).trans rfl;have hcz16_3 : w15.cell? ⟨Qb,3,none⟩ = some (.bool Qg):=(blk_cell Qa.out 3).trans rfl;have hfz16_0:=blk_frozen Qa.out 0;have hfz16_1:=blk_frozen Qa.out 1;have hfz16_2:=blk_frozen Qa.out 2;have hfz16_3:=blk_frozen Qa.out 3))
      go_ret
      exact ⟨by first|rfl|(simp [errW_none,errW_some] <;> rfl)|(simp [*,errW_none,errW_some] <;> rfl),by repeat (first|(with_reducible first|exact HB.out|apply below_alloc|apply pw_below_drewN|apply below_drew1|refine below_set ?_ Qw.out)|exact HB.out)⟩
     ·rw [if_neg c14] at H
      have c14b0 : decide (Qf ≤ 4294967296) = false:=decide_eq_false c14
      clear c14
      obtain rfl:=Option.some.inj H
      go_enter Try.func23,Try.ntmps23
      go_wp2_with (first|((with_reducible refine gate_dst (N:=1) rfl ?_);refine box_event ?hg (N:=1) ?hd (cs:=#[.int .i64 Qd,.int .i64 Qc,.int .i64 Qf,.bool Qg]) (t:=25) ?hr ?_;(case hd=>rfl);(case hg=>rfl);(case hr=>first|(go_simp;done)|(go_simp;rfl));intro Qb hg w17 hbox hb;have n0_:=Aside0.mk (below_step (by repeat (first|(with_reducible first|exact HB.out|apply below_alloc|apply pw_below_drewN|apply below_drew1)|exact HB.out)) hb);have n1_:=Aside0.mk (hbox);have n2_:=Aside0.mk ((by rw [hg];exact (below_size (by repeat (first|(with_reducible first|exact HB.out|apply below_alloc|apply pw_below_drewN|apply below_drew1)|exact HB.out))) : w.heap.size ≤ Qb));have n3_:=Aside0.mk ((by rw [hg];exact (below_size (by repeat (first|(with_reducible first|exact HB.out|apply below_alloc|apply pw_below_drewN|apply below_drew1)|exact HB.out))) : w.heap.size ≤ Qb));clear HB;have HB:=n0_;have Qa:=n1_;have GW194:=n2_;have Qw:=n3_;clear n0_ n1_ n2_ n3_;clear hb hbox hg;have hcz18_0 : w17.cell? ⟨Qb,0,none⟩ = some (.int .i64 Qd):=(blk_cell Qa.out 0).trans rfl;have hcz18_1 : w17.cell? ⟨Qb,1,none⟩ = some (.int .i64 Qc):=(blk_cell Qa.out 1).trans rfl;have hcz18_2 : w17.cell? ⟨Qb,2,none⟩ = some (.int .i64 Qf):=(blk_cell Qa.out 2).trans rfl;have hcz18_3 : w17.cell? ⟨Qb,3,none⟩ = some (.bool Qg):=(blk_cell Qa.out 3).trans rfl;have hfz18_0:=blk_frozen Qa.out 0;have hfz18_1:=blk_frozen Qa.out 1;have hfz18_2:=blk_frozen Qa.out 2;have hfz18_3:=blk_frozen Qa.out 3))
      go_ret
      exact ⟨by first|rfl|(simp [errW_none,errW_some] <;> rfl)|(simp [*,errW_none,errW_some] <;> rfl),by repeat (first|(with_reducible first|exact HB.out|apply below_alloc|apply pw_below_drewN|apply below_drew1|refine below_set ?_ Qw.out)|exact HB.out)⟩
end Go.Proofs.Ytnmephdamgofnaa.PA
