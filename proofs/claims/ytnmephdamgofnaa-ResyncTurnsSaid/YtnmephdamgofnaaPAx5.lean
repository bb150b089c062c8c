/- Written by a program of this session (wip/jprint.py, over the printer of the kit): functions that a law comes to, as plain Lean functions, and walks; Lean checks it. -/
import Derived.Test.YtnmephdamgofnaaPAx0
namespace Go.Proofs.Ytnmephdamgofnaa.PA
open Go.RowKit Go.Proofs.YtnmephdamgofnaaW.PrintWords Go.Proofs.YtnmephdamgofnaaW.PrintLast Go.Proofs.YtnmephdamgofnaaW.PrintMore
attribute [local go_sem] max2_int min2_int max_two min_two max_three min_three max_four min_four   -- for this text's walks alone
set_option linter.unusedVariables false
set_option linter.unusedSimpArgs false

/-! ### vespersref07_first: function 33 -/
mutual
def vespersref07_first.j0 : Nat→Bool→Int→Int→Int→Int→Int→Int→Int→Int→Int→Int→Int→Int→Int→Int→Int→Int→Option (Int)
 | 0,_,_,_,_,_,_,_,_,_,_,_,_,_,_,_,_,_=>none
 | k + 1,x29,Qy,Qz,Qt,QA,QB,Qu,Qv,Qw,Qx,QC,QD,QE,QF,QG,QH,QI=>if x29 = true then (some 1) else (if Qu < 1 then (vespersref07_first.j1 k true Qy Qz Qt QA QB Qu Qv Qw Qx QC QD QE QF QG QH QI) else (if Qu > 1048576 then (vespersref07_first.j1 k true Qy Qz Qt QA QB Qu Qv Qw Qx QC QD QE QF QG QH QI) else (if Qv < 0 then (vespersref07_first.j1 k true Qy Qz Qt QA QB Qu Qv Qw Qx QC QD QE QF QG QH QI) else (if Qw < Qv then (vespersref07_first.j1 k true Qy Qz Qt QA QB Qu Qv Qw Qx QC QD QE QF QG QH QI) else (vespersref07_first.j1 k (decide (Qw > 1048576)) Qy Qz Qt QA QB Qu Qv Qw Qx QC QD QE QF QG QH QI)))))
def vespersref07_first.j1 : Nat→Bool→Int→Int→Int→Int→Int→Int→Int→Int→Int→Int→Int→Int→Int→Int→Int→Int→Option (Int)
 | 0,_,_,_,_,_,_,_,_,_,_,_,_,_,_,_,_,_=>none
 | k + 1,x54,Qy,Qz,Qt,QA,QB,Qu,Qv,Qw,Qx,QC,QD,QE,QF,QG,QH,QI=>if x54 = true then (some 2) else (if Qt < 1 then (some 3) else (if Qt > 1048576 then (some 3) else (if Qx < 4 then (some 3) else (if Qx > 1048576 then (some 3) else (some 0)))))
end
def vespersref07_first.f (k : Nat) (Qh : Int) (Qi : Int) (Qj : Int) (Qo : Int) (Qp : Int) (Qk : Int) (Ql : Int) (Qn : Int) (Qm : Int) (Qq : Int) (Qb : Int) (Qc : Int) (Qd : Int) (Qe : Int) (Qf : Int) (Qg : Int) : Option (Int):=if Qh < 4 then (vespersref07_first.j0 k true Qh Qi Qj Qo Qp Qk Ql Qn Qm Qq Qb Qc Qd Qe Qf Qg) else (if Qh > 16 then (vespersref07_first.j0 k true Qh Qi Qj Qo Qp Qk Ql Qn Qm Qq Qb Qc Qd Qe Qf Qg) else (if Qi < 0 then (vespersref07_first.j0 k true Qh Qi Qj Qo Qp Qk Ql Qn Qm Qq Qb Qc Qd Qe Qf Qg) else (if Qi > 16 then (vespersref07_first.j0 k true Qh Qi Qj Qo Qp Qk Ql Qn Qm Qq Qb Qc Qd Qe Qf Qg) else (vespersref07_first.j0 k (decide (Qh < (wrap64 ((wrap64 (2 * Qi)) + 2)))) Qh Qi Qj Qo Qp Qk Ql Qn Qm Qq Qb Qc Qd Qe Qf Qg))))
theorem vespersref07_first.mono_l : ∀ k,(∀ y0 y1 y2 y3 y4 y5 y6 y7 y8 y9 y10 y11 y12 y13 y14 y15 y16,LeO (vespersref07_first.j0 k y0 y1 y2 y3 y4 y5 y6 y7 y8 y9 y10 y11 y12 y13 y14 y15 y16) (vespersref07_first.j0 (k + 1) y0 y1 y2 y3 y4 y5 y6 y7 y8 y9 y10 y11 y12 y13 y14 y15 y16))∧(∀ y0 y1 y2 y3 y4 y5 y6 y7 y8 y9 y10 y11 y12 y13 y14 y15 y16,LeO (vespersref07_first.j1 k y0 y1 y2 y3 y4 y5 y6 y7 y8 y9 y10 y11 y12 y13 y14 y15 y16) (vespersref07_first.j1 (k + 1) y0 y1 y2 y3 y4 y5 y6 y7 y8 y9 y10 y11 y12 y13 y14 y15 y16))
 | 0=>⟨fun _ _ _ _ _ _ _ _ _ _ _ _ _ _ _ _ _ r h=>by simp [vespersref07_first.j0] at h,fun _ _ _ _ _ _ _ _ _ _ _ _ _ _ _ _ _ r h=>by simp [vespersref07_first.j1] at h⟩
 | k + 1=>by
  obtain ⟨ih0,ih1⟩:=vespersref07_first.mono_l k
  refine ⟨?_,?_⟩
  ·intro y0 y1 y2 y3 y4 y5 y6 y7 y8 y9 y10 y11 y12 y13 y14 y15 y16
   unfold vespersref07_first.j0
   repeat' first
   | (with_reducible exact ih0 _ _ _ _ _ _ _ _ _ _ _ _ _ _ _ _ _)
   | (with_reducible exact ih1 _ _ _ _ _ _ _ _ _ _ _ _ _ _ _ _ _)
   | (with_reducible exact LeO.refl _)
   | (with_reducible exact LeO.none _)
   | (with_reducible refine LeO.ite ?_ ?_)
   | (with_reducible refine LeO.bind ?_ (fun _=>?_))
   | exact ih0 _ _ _ _ _ _ _ _ _ _ _ _ _ _ _ _ _
   | exact ih1 _ _ _ _ _ _ _ _ _ _ _ _ _ _ _ _ _
   | exact LeO.none _
   | refine LeO.ite ?_ ?_
   | refine LeO.bind ?_ (fun _=>?_)
  ·intro y0 y1 y2 y3 y4 y5 y6 y7 y8 y9 y10 y11 y12 y13 y14 y15 y16
   unfold vespersref07_first.j1
   repeat' first
   | (with_reducible exact ih0 _ _ _ _ _ _ _ _ _ _ _ _ _ _ _ _ _)
   | (with_reducible exact ih1 _ _ _ _ _ _ _ _ _ _ _ _ _ _ _ _ _)
   | (with_reducible exact LeO.refl _)
   | (with_reducible exact LeO.none _)
   | (with_reducible refine LeO.ite ?_ ?_)
   | (with_reducible refine LeO.bind ?_ (fun _=>?_))
   | exact ih0 _ _ _ _ _ _ _ _ _ _ _ _ _ _ _ _ _
   | exact ih1 _ _ _ _ _ _ _ _ _ _ _ _ _ _ _ _ _
   | exact LeO.none _
   | refine LeO.ite ?_ ?_
   | refine LeO.bind ?_ (fun _=>?_)
theorem vespersref07_first.mono : ∀ a0 a1 a2 a3 a4 a5 a6 a7 a8 a9 a10 a11 a12 a13 a14 a15 k,LeO (vespersref07_first.f k a0 a1 a2 a3 a4 a5 a6 a7 a8 a9 a10 a11 a12 a13 a14 a15) (vespersref07_first.f (k + 1) a0 a1 a2 a3 a4 a5 a6 a7 a8 a9 a10 a11 a12 a13 a14 a15):=by
 intro a0 a1 a2 a3 a4 a5 a6 a7 a8 a9 a10 a11 a12 a13 a14 a15 k
 obtain ⟨ih0,ih1⟩:=vespersref07_first.mono_l k
 unfold vespersref07_first.f
 repeat' first
   | (with_reducible exact ih0 _ _ _ _ _ _ _ _ _ _ _ _ _ _ _ _ _)
   | (with_reducible exact ih1 _ _ _ _ _ _ _ _ _ _ _ _ _ _ _ _ _)
   | (with_reducible exact LeO.refl _)
   | (with_reducible exact LeO.none _)
   | (with_reducible refine LeO.ite ?_ ?_)
   | (with_reducible refine LeO.bind ?_ (fun _=>?_))
   | exact ih0 _ _ _ _ _ _ _ _ _ _ _ _ _ _ _ _ _
   | exact ih1 _ _ _ _ _ _ _ _ _ _ _ _ _ _ _ _ _
   | exact LeO.none _
   | refine LeO.ite ?_ ?_
   | refine LeO.bind ?_ (fun _=>?_)
set_option maxHeartbeats 8000000 in
set_option maxRecDepth 100000 in
theorem vespersref07_first.calls (k : Nat) (Qh : Int) (Qi : Int) (Qj : Int) (Qo : Int) (Qp : Int) (Qk : Int) (Ql : Int) (Qn : Int) (Qm : Int) (Qq : Int) (Qb : Int) (Qc : Int) (Qd : Int) (Qe : Int) (Qf : Int) (Qg : Int) (r : Int) (w : World) (h : vespersref07_first.f k Qh Qi Qj Qo Qp Qk Ql Qn Qm Qq Qb Qc Qd Qe Qf Qg = some r) :
  Calls Try.prog 33 #[.agg #[.int .i64 Qh,.int .i64 Qi,.int .i64 Qj,.int .i64 Qo,.int .i64 Qp,.int .i64 Qk,.int .i64 Ql,.int .i64 Qn,.int .i64 Qm,.int .i64 Qq,.int .i64 Qb,.int .i64 Qc,.int .i64 Qd,.int .i64 Qe,.int .i64 Qf,.int .i64 Qg]] w fun e w'=>e = .returned (.int .i64 r)∧Below w.heap.size w w':=by
 have hu23:=Try.underlying23
 have HB:=Aside0.mk (Below.refl w.heap.size w)
 have H : (if Qh < 4 then (vespersref07_first.j0 k true Qh Qi Qj Qo Qp Qk Ql Qn Qm Qq Qb Qc Qd Qe Qf Qg) else (if Qh > 16 then (vespersref07_first.j0 k true Qh Qi Qj Qo Qp Qk Ql Qn Qm Qq Qb Qc Qd Qe Qf Qg) else (if Qi < 0 then (vespersref07_first.j0 k true Qh Qi Qj Qo Qp Qk Ql Qn Qm Qq Qb Qc Qd Qe Qf Qg) else (if Qi > 16 then (vespersref07_first.j0 k true Qh Qi Qj Qo Qp Qk Ql Qn Qm Qq Qb Qc Qd Qe Qf Qg) else (vespersref07_first.j0 k (decide (Qh < (wrap64 ((wrap64 (2 * Qi)) + 2)))) Qh Qi Qj Qo Qp Qk Ql Qn Qm Qq Qb Qc Qd Qe Qf Qg))))) = some r:=h
 clear h
 have HC2:=Aside0.mk H
 clear H
 go_enter Try.func33,Try.ntmps33
 go_upto_region 1 with (first|((with_reducible refine gate_dst (N:=1) rfl ?_);refine box_event ?hg (N:=1) ?hd (cs:=#[.int .i64 Qh,.int .i64 Qi,.int .i64 Qj,.int .i64 Qo,.int .i64 Qp,.int .i64 Qk,.int .i64 Ql,.int .i64 Qn,.int .i64 Qm,.int .i64 Qq,.int .i64 Qb,.int .i64 Qc,.int .i64 Qd,.int .i64 Qe,.int .i64 Qf,.int .i64 Qg]) (t:=23) ?hr ?_;(case hd=>rfl);(case hg=>rfl);(case hr=>first|(go_simp;done)|(go_simp;rfl));intro Qr hg w3 hbox hb;have n0_:=Aside0.mk (below_step (by repeat (first|(with_reducible first|exact HB.out|apply below_alloc|apply pw_below_drewN|apply below_drew1)|exact HB.out)) hb);have n1_:=Aside0.mk (hbox);have n2_:=Aside0.mk ((by rw [hg];exact (below_size (by repeat (first|(with_reducible first|exact HB.out|apply below_alloc|apply pw_below_drewN|apply below_drew1)|exact HB.out))) : w.heap.size ≤ Qr));have n3_:=Aside0.mk ((by rw [hg];exact (below_size (by repeat (first|(with_reducible first|exact HB.out|apply below_alloc|apply pw_below_drewN|apply below_drew1)|exact HB.out))) : w.heap.size ≤ Qr));clear HB;have HB:=n0_;have Qa:=n1_;have GW166:=n2_;have Qs:=n3_;clear n0_ n1_ n2_ n3_;clear hb hbox hg))
 (try simp only [Act.put,List.setIfInBounds_toArray,List.set_cons_zero,List.set_cons_succ])
 go_cut [29] (fun v29 wc=>∃ (kq : Nat) (x29_1 : Bool),v29 = .bool x29_1∧Aside0 (vespersref07_first.j0 kq x29_1 Qh Qi Qj Qo Qp Qk Ql Qn Qm Qq Qb Qc Qd Qe Qf Qg = some r)∧Aside0 (kq ≤ k)∧Aside0 (wc.heap[Qr]? = some (.cells #[.int .i64 Qh,.int .i64 Qi,.int .i64 Qj,.int .i64 Qo,.int .i64 Qp,.int .i64 Qk,.int .i64 Ql,.int .i64 Qn,.int .i64 Qm,.int .i64 Qq,.int .i64 Qb,.int .i64 Qc,.int .i64 Qd,.int .i64 Qe,.int .i64 Qf,.int .i64 Qg] 23 (0,0)))∧Aside0 (Below w.heap.size w wc))
 case first =>
  have H:=HC2.out
  clear HC2
  by_cases c4 : Qh < 4
  ·rw [if_pos c4] at H
   have c4b0 : decide (Qh < 4) = true:=decide_eq_true c4
   clear c4
   (first|rw [c4b0]|(simp only [i64_w,i32_w];rw [c4b0])|skip)
   have H':=Aside0.mk H
   clear H
   obtain ⟨hcz5_0,hcz5_1,hcz5_2,hcz5_3,hcz5_4,hcz5_5,hcz5_6,hcz5_7,hcz5_8,hcz5_9,hcz5_10,hcz5_11,hcz5_12,hcz5_13,hcz5_14,hcz5_15⟩:=bc16_ (w:=w3) (g:=Qr) (.int .i64 Qh) (.int .i64 Qi) (.int .i64 Qj) (.int .i64 Qo) (.int .i64 Qp) (.int .i64 Qk) (.int .i64 Ql) (.int .i64 Qn) (.int .i64 Qm) (.int .i64 Qq) (.int .i64 Qb) (.int .i64 Qc) (.int .i64 Qd) (.int .i64 Qe) (.int .i64 Qf) (.int .i64 Qg) Qa.out
   obtain ⟨hfz5_0,hfz5_1,hfz5_2,hfz5_3,hfz5_4,hfz5_5,hfz5_6,hfz5_7,hfz5_8,hfz5_9,hfz5_10,hfz5_11,hfz5_12,hfz5_13,hfz5_14,hfz5_15⟩:=bf16_ Qa.out
   go_wp2
   go_meet
   case rel=>exact ⟨_,(true),(by first|rfl|(simp;done)|(simp [*];done)),H',⟨by first|omega|exact Nat.le_refl _⟩,⟨by (with_reducible repeat (first|refine blk_drewN ?_ _|refine blk_drew ?_|refine blk_alloc ?_ _));exact Qa.out⟩,⟨by repeat (first|(with_reducible first|exact HB.out|apply below_alloc|apply pw_below_drewN|apply below_drew1|refine below_set ?_ Qs.out)|exact HB.out)⟩⟩
  ·rw [if_neg c4] at H
   have c4b0 : decide (Qh < 4) = false:=decide_eq_false c4
   clear c4
   (first|rw [c4b0]|(simp only [i64_w,i32_w];rw [c4b0])|skip)
   by_cases c6 : Qh > 16
   ·rw [if_pos c6] at H
    have c6b0 : decide (16 < Qh) = true:=decide_eq_true c6
    clear c6
    have H':=Aside0.mk H
    clear H
    obtain ⟨hcz7_0,hcz7_1,hcz7_2,hcz7_3,hcz7_4,hcz7_5,hcz7_6,hcz7_7,hcz7_8,hcz7_9,hcz7_10,hcz7_11,hcz7_12,hcz7_13,hcz7_14,hcz7_15⟩:=bc16_ (w:=w3) (g:=Qr) (.int .i64 Qh) (.int .i64 Qi) (.int .i64 Qj) (.int .i64 Qo) (.int .i64 Qp) (.int .i64 Qk) (.int .i64 Ql) (.int .i64 Qn) (.int .i64 Qm) (.int .i64 Qq) (.int .i64 Qb) (.int .i64 Qc) (.int .i64 Qd) (.int .i64 Qe) (.int .i64 Qf) (.int .i64 Qg) Qa.out
    obtain ⟨hfz7_0,hfz7_1,hfz7_2,hfz7_3,hfz7_4,hfz7_5,hfz7_6,hfz7_7,hfz7_8,hfz7_9,hfz7_10,hfz7_11,hfz7_12,hfz7_13,hfz7_14,hfz7_15⟩:=bf16_ Qa.out
    go_wp2
    go_meet
    case rel=>exact ⟨_,(true),(by first|rfl|(simp;done)|(simp [*];done)),H',⟨by first|omega|exact Nat.le_refl _⟩,⟨by (with_reducible repeat (first|refine blk_drewN ?_ _|refine blk_drew ?_|refine blk_alloc ?_ _));exact Qa.out⟩,⟨by repeat (first|(with_reducible first|exact HB.out|apply below_alloc|apply pw_below_drewN|apply below_drew1|refine below_set ?_ Qs.out)|exact HB.out)⟩⟩
   ·rw [if_neg c6] at H
    have c6b0 : decide (16 < Qh) = false:=decide_eq_false c6
    clear c6
    by_cases c8 : Qi < 0
    ·rw [if_pos c8] at H
     have c8b0 : decide (Qi < 0) = true:=decide_eq_true c8
     clear c8
     have H':=Aside0.mk H
     clear H
     obtain ⟨hcz9_0,hcz9_1,hcz9_2,hcz9_3,hcz9_4,hcz9_5,hcz9_6,hcz9_7,hcz9_8,hcz9_9,hcz9_10,hcz9_11,hcz9_12,hcz9_13,hcz9_14,hcz9_15⟩:=bc16_ (w:=w3) (g:=Qr) (.int .i64 Qh) (.int .i64 Qi) (.int .i64 Qj) (.int .i64 Qo) (.int .i64 Qp) (.int .i64 Qk) (.int .i64 Ql) (.int .i64 Qn) (.int .i64 Qm) (.int .i64 Qq) (.int .i64 Qb) (.int .i64 Qc) (.int .i64 Qd) (.int .i64 Qe) (.int .i64 Qf) (.int .i64 Qg) Qa.out
     obtain ⟨hfz9_0,hfz9_1,hfz9_2,hfz9_3,hfz9_4,hfz9_5,hfz9_6,hfz9_7,hfz9_8,hfz9_9,hfz9_10,hfz9_11,hfz9_12,hfz9_13,hfz9_14,hfz9_15⟩:=bf16_ Qa.out
     go_wp2
     go_meet
     case rel=>exact ⟨_,(true),(by first|rfl|(simp;done)|(simp [*];done)),H',⟨by first|omega|exact Nat.le_refl _⟩,⟨by (with_reducible repeat (first|refine blk_drewN ?_ _|refine blk_drew ?_|refine blk_alloc ?_ _));exact Qa.out⟩,⟨by repeat (first|(with_reducible first|exact HB.out|apply below_alloc|apply pw_below_drewN|apply below_drew1|refine below_set ?_ Qs.out)|exact HB.out)⟩⟩
    ·rw [if_neg c8] at H
     have c8b0 : decide (Qi < 0) = false:=decide_eq_false c8
     clear c8
     by_cases c10 : Qi > 16
     ·rw [if_pos c10] at H
      have c10b0 : decide (16 < Qi) = true:=decide_eq_true c10
      clear c10
      have H':=Aside0.mk H
      clear H
      obtain ⟨hcz11_0,hcz11_1,hcz11_2,hcz11_3,hcz11_4,hcz11_5,hcz11_6,hcz11_7,hcz11_8,hcz11_9,hcz11_10,hcz11_11,hcz11_12,hcz11_13,hcz11_14,hcz11_15⟩:=bc16_ (w:=w3) (g:=Qr) (.int .i64 Qh) (.int .i64 Qi) (.int .i64 Qj) (.int .i64 Qo) (.int .i64 Qp) (.int .i64 Qk) (.int .i64 Ql) (.int .i64 Qn) (.int .i64 Qm) (.int .i64 Qq) (.int .i64 Qb) (.int .i64 Qc) (.int .i64 Qd) (.int .i64 Qe) (.int .i64 Qf) (.int .i64 Qg) Qa.out
      obtain ⟨hfz11_0,hfz11_1,hfz11_2,hfz11_3,hfz11_4,hfz11_5,hfz11_6,hfz11_7,hfz11_8,hfz11_9,hfz11_10,hfz11_11,hfz11_12,hfz11_13,hfz11_14,hfz11_15⟩:=bf16_ Qa.out
      go_wp2
      go_meet
      case rel=>exact ⟨_,(true),(by first|rfl|(simp;done)|(simp [*];done)),H',⟨by first|omega|exact Nat.le_refl _⟩,⟨by (with_reducible repeat (first|refine blk_drewN ?_ _|refine blk_drew ?_|refine blk_alloc ?_ _));exact Qa.out⟩,⟨by repeat (first|(with_reducible first|exact HB.out|apply below_alloc|apply pw_below_drewN|apply below_drew1|refine below_set ?_ Qs.out)|exact HB.out)⟩⟩
     ·rw [if_neg c10] at H
      have c10b0 : decide (16 < Qi) = false:=decide_eq_false c10
      clear c10
      have H':=Aside0.mk H
      clear H
      obtain ⟨hcz12_0,hcz12_1,hcz12_2,hcz12_3,hcz12_4,hcz12_5,hcz12_6,hcz12_7,hcz12_8,hcz12_9,hcz12_10,hcz12_11,hcz12_12,hcz12_13,hcz12_14,hcz12_15⟩:=bc16_ (w:=w3) (g:=Qr) (.int .i64 Qh) (.int .i64 Qi) (.int .i64 Qj) (.int .i64 Qo) (.int .i64 Qp) (.int .i64 Qk) (.int .i64 Ql) (.int .i64 Qn) (.int .i64 Qm) (.int .i64 Qq) (.int .i64 Qb) (.int .i64 Qc) (.int .i64 Qd) (.int .i64 Qe) (.int .i64 Qf) (.int .i64 Qg) Qa.out
      obtain ⟨hfz12_0,hfz12_1,hfz12_2,hfz12_3,hfz12_4,hfz12_5,hfz12_6,hfz12_7,hfz12_8,hfz12_9,hfz12_10,hfz12_11,hfz12_12,hfz12_13,hfz12_14,hfz12_15⟩:=bf16_ Qa.out
      go_wp2
      go_meet
      case rel=>exact ⟨_,(decide (Qh < (wrap64 ((wrap64 (2 * Qi)) + 2)))),(by first|rfl|(simp;done)|(simp [*];done)),H',⟨by first|omega|exact Nat.le_refl _⟩,⟨by (with_reducible repeat (first|refine blk_drewN ?_ _|refine blk_drew ?_|refine blk_alloc ?_ _));exact Qa.out⟩,⟨by repeat (first|(with_reducible first|exact HB.out|apply below_alloc|apply pw_below_drewN|apply below_drew1|refine below_set ?_ Qs.out)|exact HB.out)⟩⟩
 case rest =>
  clear HC2
  try clear c1
  try clear p2
  try clear c3
  try clear c4
  try clear c4b0
  try clear c6
  try clear c6b0
  try clear p6
  try clear c8
  try clear c8b0
  try clear c10
  try clear c10b0
  try clear hcz11_0
  try clear hcz11_1
  try clear hcz11_10
  try clear hcz11_11
  try clear hcz11_12
  try clear hcz11_13
  try clear hcz11_14
  try clear hcz11_15
  try clear hcz11_2
  try clear hcz11_3
  try clear hcz11_4
  try clear hcz11_5
  try clear hcz11_6
  try clear hcz11_7
  try clear hcz11_8
  try clear hcz11_9
  try clear hcz12_0
  try clear hcz12_1
  try clear hcz12_10
  try clear hcz12_11
  try clear hcz12_12
  try clear hcz12_13
  try clear hcz12_14
  try clear hcz12_15
  try clear hcz12_2
  try clear hcz12_3
  try clear hcz12_4
  try clear hcz12_5
  try clear hcz12_6
  try clear hcz12_7
  try clear hcz12_8
  try clear hcz12_9
  try clear hcz5_0
  try clear hcz5_1
  try clear hcz5_10
  try clear hcz5_11
  try clear hcz5_12
  try clear hcz5_13
  try clear hcz5_14
  try clear hcz5_15
  try clear hcz5_2
  try clear hcz5_3
  try clear hcz5_4
  try clear hcz5_5
  try clear hcz5_6
  try clear hcz5_7
  try clear hcz5_8
  try clear hcz5_9
  try clear hcz7_0
  try clear hcz7_1
  try clear hcz7_10
  try clear hcz7_11
  try clear hcz7_12
  try clear hcz7_13
  try clear hcz7_14
  try clear hcz7_15
  try clear hcz7_2
  try clear hcz7_3
  try clear hcz7_4
  try clear hcz7_5
  try clear hcz7_6
  try clear hcz7_7
  try clear hcz7_8
  try clear hcz7_9
  try clear hcz9_0
  try clear hcz9_1
  try clear hcz9_10
  try clear hcz9_11
  try clear hcz9_12
  try clear hcz9_13
  try clear hcz9_14
  try clear hcz9_15
  try clear hcz9_2
  try clear hcz9_3
  try clear hcz9_4
  try clear hcz9_5
  try clear hcz9_6
  try clear hcz9_7
  try clear hcz9_8
  try clear hcz9_9
  try clear hfz11_0
  try clear hfz11_1
  try clear hfz11_10
  try clear hfz11_11
  try clear hfz11_12
  try clear hfz11_13
  try clear hfz11_14
  try clear hfz11_15
  try clear hfz11_2
  try clear hfz11_3
  try clear hfz11_4
  try clear hfz11_5
  try clear hfz11_6
  try clear hfz11_7
  try clear hfz11_8
  try clear hfz11_9
  try clear hfz12_0
  try clear hfz12_1
  try clear hfz12_10
  try clear hfz12_11
  try clear hfz12_12
  try clear hfz12_13
  try clear hfz12_14
  try clear hfz12_15
  try clear hfz12_2
  try clear hfz12_3
  try clear hfz12_4
  try clear hfz12_5
  try clear hfz12_6
  try clear hfz12_7
  try clear hfz12_8
  try clear hfz12_9
  try clear hfz5_0
  try clear hfz5_1
  try clear hfz5_10
  try clear hfz5_11
  try clear hfz5_12
  try clear hfz5_13
  try clear hfz5_14
  try clear hfz5_15
  try clear hfz5_2
  try clear hfz5_3
  try clear hfz5_4
  try clear hfz5_5
  try clear hfz5_6
  try clear hfz5_7
  try clear hfz5_8
  try clear hfz5_9
  try clear hfz7_0
  try clear hfz7_1
  try clear hfz7_10
  try clear hfz7_11
  try clear hfz7_12
  try clear hfz7_13
  try clear hfz7_14
  try clear hfz7_15
  try clear hfz7_2
  try clear hfz7_3
  try clear hfz7_4
  try clear hfz7_5
  try clear hfz7_6
  try clear hfz7_7
  try clear hfz7_8
  try clear hfz7_9
  try clear hfz9_0
  try clear hfz9_1
  try clear hfz9_10
  try clear hfz9_11
  try clear hfz9_12
  try clear hfz9_13
  try clear hfz9_14
  try clear hfz9_15
  try clear hfz9_2
  try clear hfz9_3
  try clear hfz9_4
  try clear hfz9_5
  try clear hfz9_6
  try clear hfz9_7
  try clear hfz9_8
  try clear hfz9_9
  obtain ⟨kq,x29_1,rfl,HA,HJ1,Qa,HB⟩:=hcut
  cases kq with
  | zero=>exact absurd HA.out (by simp [vespersref07_first.j0])
  | succ kj1 =>
   have H:=HA.out
   clear HA
   simp only [vespersref07_first.j0] at H
   by_cases c13 : x29_1 = true
   ·subst c13
    have H1 : (some 1) = some r:=by rw [if_pos rfl] at H;exact H
    clear H
    have H:=H1
    clear H1
    obtain rfl:=Option.some.inj H
    go_wp2
    go_ret
    exact ⟨by first|rfl|(simp [errW_none,errW_some] <;> rfl)|(simp [*,errW_none,errW_some] <;> rfl),by repeat (first|(with_reducible first|exact HB.out|apply below_alloc|apply pw_below_drewN|apply below_drew1|refine below_set ?_ Qs.out)|exact HB.out)⟩
   ·replace c13:=Bool.eq_false_iff.mpr c13
    subst c13
    have H1 : (if Qk < 1 then (vespersref07_first.j1 kj1 true Qh Qi Qj Qo Qp Qk Ql Qn Qm Qq Qb Qc Qd Qe Qf Qg) else (if Qk > 1048576 then (vespersref07_first.j1 kj1 true Qh Qi Qj Qo Qp Qk Ql Qn Qm Qq Qb Qc Qd Qe Qf Qg) else (if Ql < 0 then (vespersref07_first.j1 kj1 true Qh Qi Qj Qo Qp Qk Ql Qn Qm Qq Qb Qc Qd Qe Qf Qg) else (if Qn < Ql then (vespersref07_first.j1 kj1 true Qh Qi Qj Qo Qp Qk Ql Qn Qm Qq Qb Qc Qd Qe Qf Qg) else (vespersref07_first.j1 kj1 (decide (Qn > 1048576)) Qh Qi Qj Qo Qp Qk Ql Qn Qm Qq Qb Qc Qd Qe Qf Qg))))) = some r:=by rw [if_neg (show ¬ (false = true) by decide)] at H;exact H
    clear H
    have H:=H1
    clear H1
    have HC14:=Aside0.mk H
    clear H
    go_upto_region 3 with (fail)
    go_cut [54] (fun v54 wc=>∃ (kq : Nat) (QJ : Bool),v54 = .bool QJ∧Aside0 (vespersref07_first.j1 kq QJ Qh Qi Qj Qo Qp Qk Ql Qn Qm Qq Qb Qc Qd Qe Qf Qg = some r)∧Aside0 (kq ≤ kj1)∧Aside0 (wc.heap[Qr]? = some (.cells #[.int .i64 Qh,.int .i64 Qi,.int .i64 Qj,.int .i64 Qo,.int .i64 Qp,.int .i64 Qk,.int .i64 Ql,.int .i64 Qn,.int .i64 Qm,.int .i64 Qq,.int .i64 Qb,.int .i64 Qc,.int .i64 Qd,.int .i64 Qe,.int .i64 Qf,.int .i64 Qg] 23 (0,0)))∧Aside0 (Below w.heap.size w wc))
    case first =>
     have H:=HC14.out
     clear HC14
     by_cases c15 : Qk < 1
     ·rw [if_pos c15] at H
      have c15b0 : decide (Qk < 1) = true:=decide_eq_true c15
      clear c15
      (first|rw [c15b0]|(simp only [i64_w,i32_w];rw [c15b0])|skip)
      have H':=Aside0.mk H
      clear H
      obtain ⟨hcz16_0,hcz16_1,hcz16_2,hcz16_3,hcz16_4,hcz16_5,hcz16_6,hcz16_7,hcz16_8,hcz16_9,hcz16_10,hcz16_11,hcz16_12,hcz16_13,hcz16_14,hcz16_15⟩:=bc16_ (w:=wc) (g:=Qr) (.int .i64 Qh) (.int .i64 Qi) (.int .i64 Qj) (.int .i64 Qo) (.int .i64 Qp) (.int .i64 Qk) (.int .i64 Ql) (.int .i64 Qn) (.int .i64 Qm) (.int .i64 Qq) (.int .i64 Qb) (.int .i64 Qc) (.int .i64 Qd) (.int .i64 Qe) (.int .i64 Qf) (.int .i64 Qg) Qa.out
      obtain ⟨hfz16_0,hfz16_1,hfz16_2,hfz16_3,hfz16_4,hfz16_5,hfz16_6,hfz16_7,hfz16_8,hfz16_9,hfz16_10,hfz16_11,hfz16_12,hfz16_13,hfz16_14,hfz16_15⟩:=bf16_ Qa.out
      go_wp2
      go_meet
      case rel=>exact ⟨_,(true),(by first|rfl|(simp;done)|(simp [*];done)),H',⟨by have:=HJ1.out;first|omega|exact Nat.le_refl _⟩,⟨by (with_reducible repeat (first|refine blk_drewN ?_ _|refine blk_drew ?_|refine blk_alloc ?_ _));exact Qa.out⟩,⟨by repeat (first|(with_reducible first|exact HB.out|apply below_alloc|apply pw_below_drewN|apply below_drew1|refine below_set ?_ Qs.out)|exact HB.out)⟩⟩
     ·rw [if_neg c15] at H
      have c15b0 : decide (Qk < 1) = false:=decide_eq_false c15
      clear c15
      (first|rw [c15b0]|(simp only [i64_w,i32_w];rw [c15b0])|skip)
      by_cases c17 : Qk > 1048576
      ·rw [if_pos c17] at H
       have c17b0 : decide (1048576 < Qk) = true:=decide_eq_true c17
       clear c17
       have H':=Aside0.mk H
       clear H
       obtain ⟨hcz18_0,hcz18_1,hcz18_2,hcz18_3,hcz18_4,hcz18_5,hcz18_6,hcz18_7,hcz18_8,hcz18_9,hcz18_10,hcz18_11,hcz18_12,hcz18_13,hcz18_14,hcz18_15⟩:=bc16_ (w:=wc) (g:=Qr) (.int .i64 Qh) (.int .i64 Qi) (.int .i64 Qj) (.int .i64 Qo) (.int .i64 Qp) (.int .i64 Qk) (.int .i64 Ql) (.int .i64 Qn) (.int .i64 Qm) (.int .i64 Qq) (.int .i64 Qb) (.int .i64 Qc) (.int .i64 Qd) (.int .i64 Qe) (.int .i64 Qf) (.int .i64 Qg) Qa.out
       obtain ⟨hfz18_0,hfz18_1,hfz18_2,hfz18_3,hfz18_4,hfz18_5,hfz18_6,hfz18_7,hfz18_8,hfz18_9,hfz18_10,hfz18_11,hfz18_12,hfz18_13,hfz18_14,hfz18_15⟩:=bf16_ Qa.out
       go_wp2
       go_meet
       case rel=>exact ⟨_,(true),(by first|rfl|(simp;done)|(simp [*];done)),H',⟨by have:=HJ1.out;first|omega|exact Nat.le_refl _⟩,⟨by (with_reducible repeat (first|refine blk_drewN ?_ _|refine blk_drew ?_|refine blk_alloc ?_ _));exact Qa.out⟩,⟨by repeat (first|(with_reducible first|exact HB.out|apply below_alloc|apply pw_below_drewN|apply below_drew1|refine below_set ?_ Qs.out)|exact HB.out)⟩⟩
      ·rw [if_neg c17] at H
       have c17b0 : decide (1048576 < Qk) = false:=decide_eq_false c17
       clear c17
       by_cases c19 : Ql < 0
       ·rw [if_pos c19] at H
        have c19b0 : decide (Ql < 0) = true:=decide_eq_true c19
        clear c19
        have H':=Aside0.mk H
        clear H
        obtain ⟨hcz20_0,hcz20_1,hcz20_2,hcz20_3,hcz20_4,hcz20_5,hcz20_6,hcz20_7,hcz20_8,hcz20_9,hcz20_10,hcz20_11,hcz20_12,hcz20_13,hcz20_14,hcz20_15⟩:=bc16_ (w:=wc) (g:=Qr) (.int .i64 Qh) (.int .i64 Qi) (.int .i64 Qj) (.int .i64 Qo) (.int .i64 Qp) (.int .i64 Qk) (.int .i64 Ql) (.int .i64 Qn) (.int .i64 Qm) (.int .i64 Qq) (.int .i64 Qb) (.int .i64 Qc) (.int .i64 Qd) (.int .i64 Qe) (.int .i64 Qf) (.int .i64 Qg) Qa.out
        obtain ⟨hfz20_0,hfz20_1,hfz20_2,hfz20_3,hfz20_4,hfz20_5,hfz20_6,hfz20_7,hfz20_8,hfz20_9,hfz20_10,hfz20_11,hfz20_12,hfz20_13,hfz20_14,hfz20_15⟩:=bf16_ Qa.out
        go_wp2
        go_meet
        case rel=>exact ⟨_,(true),(by first|rfl|(simp;done)|(simp [*];done)),H',⟨by have:=HJ1.out;first|omega|exact Nat.le_refl _⟩,⟨by (with_reducible repeat (first|refine blk_drewN ?_ _|refine blk_drew ?_|refine blk_alloc ?_ _));exact Qa.out⟩,⟨by repeat (first|(with_reducible first|exact HB.out|apply below_alloc|apply pw_below_drewN|apply below_drew1|refine below_set ?_ Qs.out)|exact HB.out)⟩⟩
       ·rw [if_neg c19] at H
        have c19b0 : decide (Ql < 0) = false:=decide_eq_false c19
        clear c19
        by_cases c21 : Qn < Ql
        ·rw [if_pos c21] at H
         have c21b0 : decide (Qn < Ql) = true:=decide_eq_true c21
         clear c21
         have H':=Aside0.mk H
         clear H
         obtain ⟨hcz22_0,hcz22_1,hcz22_2,hcz22_3,hcz22_4,hcz22_5,hcz22_6,hcz22_7,hcz22_8,hcz22_9,hcz22_10,hcz22_11,hcz22_12,hcz22_13,hcz22_14,hcz22_15⟩:=bc16_ (w:=wc) (g:=Qr) (.int .i64 Qh) (.int .i64 Qi) (.int .i64 Qj) (.int .i64 Qo) (.int .i64 Qp) (.int .i64 Qk) (.int .i64 Ql) (.int .i64 Qn) (.int .i64 Qm) (.int .i64 Qq) (.int .i64 Qb) (.int .i64 Qc) (.int .i64 Qd) (.int .i64 Qe) (.int .i64 Qf) (.int .i64 Qg) Qa.out
         obtain ⟨hfz22_0,hfz22_1,hfz22_2,hfz22_3,hfz22_4,hfz22_5,hfz22_6,hfz22_7,hfz22_8,hfz22_9,hfz22_10,hfz22_11,hfz22_12,hfz22_13,hfz22_14,hfz22_15⟩:=bf16_ Qa.out
         go_wp2
         go_meet
         case rel=>exact ⟨_,(true),(by first|rfl|(simp;done)|(simp [*];done)),H',⟨by have:=HJ1.out;first|omega|exact Nat.le_refl _⟩,⟨by (with_reducible repeat (first|refine blk_drewN ?_ _|refine blk_drew ?_|refine blk_alloc ?_ _));exact Qa.out⟩,⟨by repeat (first|(with_reducible first|exact HB.out|apply below_alloc|apply pw_below_drewN|apply below_drew1|refine below_set ?_ Qs.out)|exact HB.out)⟩⟩
        ·rw [if_neg c21] at H
         have c21b0 : decide (Qn < Ql) = false:=decide_eq_false c21
         clear c21
         have H':=Aside0.mk H
         clear H
         obtain ⟨hcz23_0,hcz23_1,hcz23_2,hcz23_3,hcz23_4,hcz23_5,hcz23_6,hcz23_7,hcz23_8,hcz23_9,hcz23_10,hcz23_11,hcz23_12,hcz23_13,hcz23_14,hcz23_15⟩:=bc16_ (w:=wc) (g:=Qr) (.int .i64 Qh) (.int .i64 Qi) (.int .i64 Qj) (.int .i64 Qo) (.int .i64 Qp) (.int .i64 Qk) (.int .i64 Ql) (.int .i64 Qn) (.int .i64 Qm) (.int .i64 Qq) (.int .i64 Qb) (.int .i64 Qc) (.int .i64 Qd) (.int .i64 Qe) (.int .i64 Qf) (.int .i64 Qg) Qa.out
         obtain ⟨hfz23_0,hfz23_1,hfz23_2,hfz23_3,hfz23_4,hfz23_5,hfz23_6,hfz23_7,hfz23_8,hfz23_9,hfz23_10,hfz23_11,hfz23_12,hfz23_13,hfz23_14,hfz23_15⟩:=bf16_ Qa.out
         go_wp2
         go_meet
         case rel=>exact ⟨_,(decide (Qn > 1048576)),(by first|rfl|(simp;done)|(simp [*];done)),H',⟨by have:=HJ1.out;first|omega|exact Nat.le_refl _⟩,⟨by (with_reducible repeat (first|refine blk_drewN ?_ _|refine blk_drew ?_|refine blk_alloc ?_ _));exact Qa.out⟩,⟨by repeat (first|(with_reducible first|exact HB.out|apply below_alloc|apply pw_below_drewN|apply below_drew1|refine below_set ?_ Qs.out)|exact HB.out)⟩⟩
    case rest =>
     clear HC14
     try clear c1
     try clear c2
     try clear p2
     try clear c3
     try clear c4
     try clear c4b0
     try clear c6
     try clear c6b0
     try clear p6
     try clear c8
     try clear c8b0
     try clear c10
     try clear c10b0
     try clear c13
     try clear c15
     try clear c15b0
     try clear c17
     try clear c17b0
     try clear c19
     try clear c19b0
     try clear c21
     try clear c21b0
     try clear hcz11_0
     try clear hcz11_1
     try clear hcz11_10
     try clear hcz11_11
     try clear hcz11_12
     try clear hcz11_13
     try clear hcz11_14
     try clear hcz11_15
     try clear hcz11_2
     try clear hcz11_3
     try clear hcz11_4
     try clear hcz11_5
     try clear hcz11_6
     try clear hcz11_7
     try clear hcz11_8
     try clear hcz11_9
     try clear hcz12_0
     try clear hcz12_1
     try clear hcz12_10
     try clear hcz12_11
     try clear hcz12_12
     try clear hcz12_13
     try clear hcz12_14
     try clear hcz12_15
     try clear hcz12_2
     try clear hcz12_3
     try clear hcz12_4
     try clear hcz12_5
     try clear hcz12_6
     try clear hcz12_7
     try clear hcz12_8
     try clear hcz12_9
     try clear hcz16_0
     try clear hcz16_1
     try clear hcz16_10
     try clear hcz16_11
     try clear hcz16_12
     try clear hcz16_13
     try clear hcz16_14
     try clear hcz16_15
     try clear hcz16_2
     try clear hcz16_3
     try clear hcz16_4
     try clear hcz16_5
     try clear hcz16_6
     try clear hcz16_7
     try clear hcz16_8
     try clear hcz16_9
     try clear hcz18_0
     try clear hcz18_1
     try clear hcz18_10
     try clear hcz18_11
     try clear hcz18_12
     try clear hcz18_13
     try clear hcz18_14
     try clear hcz18_15
     try clear hcz18_2
     try clear hcz18_3
     try clear hcz18_4
     try clear hcz18_5
     try clear hcz18_6
     try clear hcz18_7
     try clear hcz18_8
     try clear hcz18_9
     try clear hcz20_0
     try clear hcz20_1
     try clear hcz20_10
     try clear hcz20_11
     try clear hcz20_12
     try clear hcz20_13
     try clear hcz20_14
     try clear hcz20_15
     try clear hcz20_2
     try clear hcz20_3
     try clear hcz20_4
     try clear hcz20_5
     try clear hcz20_6
     try clear hcz20_7
     try clear hcz20_8
     try clear hcz20_9
     try clear hcz22_0
     try clear hcz22_1
     try clear hcz22_10
     try clear hcz22_11
     try clear hcz22_12
     try clear hcz22_13
     try clear hcz22_14
     try clear hcz22_15
     try clear hcz22_2
     try clear hcz22_3
     try clear hcz22_4
     try clear hcz22_5
     try clear hcz22_6
     try clear hcz22_7
     try clear hcz22_8
     try clear hcz22_9
     try clear hcz23_0
     try clear hcz23_1
     try clear hcz23_10
     try clear hcz23_11
     try clear hcz23_12
     try clear hcz23_13
     try clear hcz23_14
     try clear hcz23_15
     try clear hcz23_2
     try clear hcz23_3
     try clear hcz23_4
     try clear hcz23_5
     try clear hcz23_6
     try clear hcz23_7
     try clear hcz23_8
     try clear hcz23_9
     try clear hcz5_0
     try clear hcz5_1
     try clear hcz5_10
     try clear hcz5_11
     try clear hcz5_12
     try clear hcz5_13
     try clear hcz5_14
     try clear hcz5_15
     try clear hcz5_2
     try clear hcz5_3
     try clear hcz5_4
     try clear hcz5_5
     try clear hcz5_6
     try clear hcz5_7
     try clear hcz5_8
     try clear hcz5_9
     try clear hcz7_0
     try clear hcz7_1
     try clear hcz7_10
     try clear hcz7_11
     try clear hcz7_12
     try clear hcz7_13
     try clear hcz7_14
     try clear hcz7_15
     try clear hcz7_2
     try clear hcz7_3
     try clear hcz7_4
     try clear hcz7_5
     try clear hcz7_6
     try clear hcz7_7
     try clear hcz7_8
     try clear hcz7_9
     try clear hcz9_0
     try clear hcz9_1
     try clear hcz9_10
     try clear hcz9_11
     try clear hcz9_12
     try clear hcz9_13
     try clear hcz9_14
     try clear hcz9_15
     try clear hcz9_2
     try clear hcz9_3
     try clear hcz9_4
     try clear hcz9_5
     try clear hcz9_6
     try clear hcz9_7
     try clear hcz9_8
     try clear hcz9_9
     try clear hfz11_0
     try clear hfz11_1
     try clear hfz11_10
     try clear hfz11_11
     try clear hfz11_12
     try clear hfz11_13
     try clear hfz11_14
     try clear hfz11_15
     try clear hfz11_2
     try clear hfz11_3
     try clear hfz11_4
     try clear hfz11_5
     try clear hfz11_6
     try clear hfz11_7
     try clear hfz11_8
     try clear hfz11_9
     try clear hfz12_0
     try clear hfz12_1
     try clear hfz12_10
     try clear hfz12_11
     try clear hfz12_12
     try clear hfz12_13
     try clear hfz12_14
     try clear hfz12_15
     try clear hfz12_2
     try clear hfz12_3
     try clear hfz12_4
     try clear hfz12_5
     try clear hfz12_6
     try clear hfz12_7
     try clear hfz12_8
     try clear hfz12_9
     try clear hfz16_0
     try clear hfz16_1
     try clear hfz16_10
     try clear hfz16_11
     try clear hfz16_12
     try clear hfz16_13
     try clear hfz16_14
     try clear hfz16_15
     try clear hfz16_2
     try clear hfz16_3
     try clear hfz16_4
     try clear hfz16_5
     try clear hfz16_6
     try clear hfz16_7
     try clear hfz16_8
     try clear hfz16_9
     try clear hfz18_0
     try clear hfz18_1
     try clear hfz18_10
     try clear hfz18_11
     try clear hfz18_12
     try clear hfz18_13
     try clear hfz18_14
     try clear hfz18_15
     try clear hfz18_2
     try clear hfz18_3
     try clear hfz18_4
     try clear hfz18_5
     try clear hfz18_6
     try clear hfz18_7
     try clear hfz18_8
     try clear hfz18_9
     try clear hfz20_0
     try clear hfz20_1
     try clear hfz20_10
     try clear hfz20_11
     try clear hfz20_12
     try clear hfz20_13
     try clear hfz20_14
     try clear hfz20_15
     try clear hfz20_2
     try clear hfz20_3
     try clear hfz20_4
     try clear hfz20_5
     try clear hfz20_6
     try clear hfz20_7
     try clear hfz20_8
     try clear hfz20_9
     try clear hfz22_0
     try clear hfz22_1
     try clear hfz22_10
     try clear hfz22_11
     try clear hfz22_12
     try clear hfz22_13
     try clear hfz22_14
     try clear hfz22_15
     try clear hfz22_2
     try clear hfz22_3
     try clear hfz22_4
     try clear hfz22_5
     try clear hfz22_6
     try clear hfz22_7
     try clear hfz22_8
     try clear hfz22_9
     try clear hfz23_0
     try clear hfz23_1
     try clear hfz23_10
     try clear hfz23_11
     try clear hfz23_12
     try clear hfz23_13
     try clear hfz23_14
     try clear hfz23_15
     try clear hfz23_2
     try clear hfz23_3
     try clear hfz23_4
     try clear hfz23_5
     try clear hfz23_6
     try clear hfz23_7
     try clear hfz23_8
     try clear hfz23_9
     try clear hfz5_0
     try clear hfz5_1
     try clear hfz5_10
     try clear hfz5_11
     try clear hfz5_12
     try clear hfz5_13
     try clear hfz5_14
     try clear hfz5_15
     try clear hfz5_2
     try clear hfz5_3
     try clear hfz5_4
     try clear hfz5_5
     try clear hfz5_6
     try clear hfz5_7
     try clear hfz5_8
     try clear hfz5_9
     try clear hfz7_0
     try clear hfz7_1
     try clear hfz7_10
     try clear hfz7_11
     try clear hfz7_12
     try clear hfz7_13
     try clear hfz7_14
     try clear hfz7_15
     try clear hfz7_2
     try clear hfz7_3
     try clear hfz7_4
     try clear hfz7_5
     try clear hfz7_6
     try clear hfz7_7
     try clear hfz7_8
     try clear hfz7_9
     try clear hfz9_0
     try clear hfz9_1
     try clear hfz9_10
     try clear hfz9_11
     try clear hfz9_12
     try clear hfz9_13
     try clear hfz9_14
     try clear hfz9_15
     try clear hfz9_2
     try clear hfz9_3
     try clear hfz9_4
     try clear hfz9_5
     try clear hfz9_6
     try clear hfz9_7
     try clear hfz9_8
     try clear hfz9_9
     try clear p2
     try clear p6
     obtain ⟨kq,QJ,rfl,HA,HJ13,Qa,HB⟩:=hcut
     cases kq with
     | zero=>exact absurd HA.out (by simp [vespersref07_first.j1])
     | succ kj13 =>
      have H:=HA.out
      clear HA
      simp only [vespersref07_first.j1] at H
      by_cases c24 : QJ = true
      ·subst c24
       have H1 : (some 2) = some r:=by rw [if_pos rfl] at H;exact H
       clear H
       have H:=H1
       clear H1
       obtain rfl:=Option.some.inj H
       go_wp2
       go_ret
       exact ⟨by first|rfl|(simp [errW_none,errW_some] <;> rfl)|(simp [*,errW_none,errW_some] <;> rfl),by repeat (first|(with_reducible first|exact HB.out|apply below_alloc|apply pw_below_drewN|apply below_drew1|refine below_set ?_ Qs.out)|exact HB.out)⟩
      ·replace c24:=Bool.eq_false_iff.mpr c24
       subst c24
       have H1 : (if Qj < 1 then (some 3) else (if Qj > 1048576 then (some 3) else (if Qm < 4 then (some 3) else (if Qm > 1048576 then (some 3) else (some 0))))) = some r:=by rw [if_neg (show ¬ (false = true) by decide)] at H;exact H
       clear H
       have H:=H1
       clear H1
       by_cases c25 : Qj < 1
       ·rw [if_pos c25] at H
        have c25b0 : decide (Qj < 1) = true:=decide_eq_true c25
        clear c25
        obtain rfl:=Option.some.inj H
        obtain ⟨hcz26_0,hcz26_1,hcz26_2,hcz26_3,hcz26_4,hcz26_5,hcz26_6,hcz26_7,hcz26_8,hcz26_9,hcz26_10,hcz26_11,hcz26_12,hcz26_13,hcz26_14,hcz26_15⟩:=bc16_ (w:=wc) (g:=Qr) (.int .i64 Qh) (.int .i64 Qi) (.int .i64 Qj) (.int .i64 Qo) (.int .i64 Qp) (.int .i64 Qk) (.int .i64 Ql) (.int .i64 Qn) (.int .i64 Qm) (.int .i64 Qq) (.int .i64 Qb) (.int .i64 Qc) (.int .i64 Qd) (.int .i64 Qe) (.int .i64 Qf) (.int .i64 Qg) Qa.out
        obtain ⟨hfz26_0,hfz26_1,hfz26_2,hfz26_3,hfz26_4,hfz26_5,hfz26_6,hfz26_7,hfz26_8,hfz26_9,hfz26_10,hfz26_11,hfz26_12,hfz26_13,hfz26_14,hfz26_15⟩:=bf16_ Qa.out
        go_wp2
        go_ret
        exact ⟨by first|rfl|(simp [errW_none,errW_some] <;> rfl)|(simp [*,errW_none,errW_some] <;> rfl),by repeat (first|(with_reducible first|exact HB.out|apply below_alloc|apply pw_below_drewN|apply below_drew1|refine below_set ?_ Qs.out)|exact HB.out)⟩
       ·rw [if_neg c25] at H
        have c25b0 : decide (Qj < 1) = false:=decide_eq_false c25
        clear c25
        by_cases c27 : Qj > 1048576
        ·rw [if_pos c27] at H
         have c27b0 : decide (1048576 < Qj) = true:=decide_eq_true c27
         clear c27
         obtain rfl:=Option.some.inj H
         obtain ⟨hcz28_0,hcz28_1,hcz28_2,hcz28_3,hcz28_4,hcz28_5,hcz28_6,hcz28_7,hcz28_8,hcz28_9,hcz28_10,hcz28_11,hcz28_12,hcz28_13,hcz28_14,hcz28_15⟩:=bc16_ (w:=wc) (g:=Qr) (.int .i64 Qh) (.int .i64 Qi) (.int .i64 Qj) (.int .i64 Qo) (.int .i64 Qp) (.int .i64 Qk) (.int .i64 Ql) (.int .i64 Qn) (.int .i64 Qm) (.int .i64 Qq) (.int .i64 Qb) (.int .i64 Qc) (.int .i64 Qd) (.int .i64 Qe) (.int .i64 Qf) (.int .i64 Qg) Qa.out
         obtain ⟨hfz28_0,hfz28_1,hfz28_2,hfz28_3,hfz28_4,hfz28_5,hfz28_6,hfz28_7,hfz28_8,hfz28_9,hfz28_10,hfz28_11,hfz28_12,hfz28_13,hfz28_14,hfz28_15⟩:=bf16_ Qa.out
         go_wp2
         go_ret
         exact ⟨by first|rfl|(simp [errW_none,errW_some] <;> rfl)|(simp [*,errW_none,errW_some] <;> rfl),by repeat (first|(with_reducible first|exact HB.out|apply below_alloc|apply pw_below_drewN|apply below_drew1|refine below_set ?_ Qs.out)|exact HB.out)⟩
        ·rw [if_neg c27] at H
         have c27b0 : decide (1048576 < Qj) = false:=decide_eq_false c27
         clear c27
         by_cases c29 : Qm < 4
         ·rw [if_pos c29] at H
          have c29b0 : decide (Qm < 4) = true:=decide_eq_true c29
          clear c29
          obtain rfl:=Option.some.inj H
          obtain ⟨hcz30_0,hcz30_1,hcz30_2,hcz30_3,hcz30_4,hcz30_5,hcz30_6,hcz30_7,hcz30_8,hcz30_9,hcz30_10,hcz30_11,hcz30_12,hcz30_13,hcz30_14,hcz30_15⟩:=bc16_ (w:=wc) (g:=Qr) (.int .i64 Qh) (.int .i64 Qi) (.int .i64 Qj) (.int .i64 Qo) (.int .i64 Qp) (.int .i64 Qk) (.int .i64 Ql) (.int .i64 Qn) (.int .i64 Qm) (.int .i64 Qq) (.int .i64 Qb) (.int .i64 Qc) (.int .i64 Qd) (.int .i64 Qe) (.int .i64 Qf) (.int .i64 Qg) Qa.out
          obtain ⟨hfz30_0,hfz30_1,hfz30_2,hfz30_3,hfz30_4,hfz30_5,hfz30_6,hfz30_7,hfz30_8,hfz30_9,hfz30_10,hfz30_11,hfz30_12,hfz30_13,hfz30_14,hfz30_15⟩:=bf16_ Qa.out
          go_wp2
          go_ret
          exact ⟨by first|rfl|(simp [errW_none,errW_some] <;> rfl)|(simp [*,errW_none,errW_some] <;> rfl),by repeat (first|(with_reducible first|exact HB.out|apply below_alloc|apply pw_below_drewN|apply below_drew1|refine below_set ?_ Qs.out)|exact HB.out)⟩
         ·rw [if_neg c29] at H
          have c29b0 : decide (Qm < 4) = false:=decide_eq_false c29
          clear c29
          by_cases c31 : Qm > 1048576
          ·rw [if_pos c31] at H
           have c31b0 : decide (1048576 < Qm) = true:=decide_eq_true c31
           clear c31
           obtain rfl:=Option.some.inj H
           obtain ⟨hcz32_0,hcz32_1,hcz32_2,hcz32_3,hcz32_4,hcz32_5,hcz32_6,hcz32_7,hcz32_8,hcz32_9,hcz32_10,hcz32_11,hcz32_12,hcz32_13,hcz32_14,hcz32_15⟩:=bc16_ (w:=wc) (g:=Qr) (.int .i64 Qh) (.int .i64 Qi) (.int .i64 Qj) (.int .i64 Qo) (.int .i64 Qp) (.int .i64 Qk) (.int .i64 Ql) (.int .i64 Qn) (.int .i64 Qm) (.int .i64 Qq) (.int .i64 Qb) (.int .i64 Qc) (.int .i64 Qd) (.int .i64 Qe) (.int .i64 Qf) (.int .i64 Qg) Qa.out
           obtain ⟨hfz32_0,hfz32_1,hfz32_2,hfz32_3,hfz32_4,hfz32_5,hfz32_6,hfz32_7,hfz32_8,hfz32_9,hfz32_10,hfz32_11,hfz32_12,hfz32_13,hfz32_14,hfz32_15⟩:=bf16_ Qa.out
           go_wp2
           go_ret
           exact ⟨by first|rfl|(simp [errW_none,errW_some] <;> rfl)|(simp [*,errW_none,errW_some] <;> rfl),by repeat (first|(with_reducible first|exact HB.out|apply below_alloc|apply pw_below_drewN|apply below_drew1|refine below_set ?_ Qs.out)|exact HB.out)⟩
          ·rw [if_neg c31] at H
           have c31b0 : decide (1048576 < Qm) = false:=decide_eq_false c31
           clear c31
           obtain rfl:=Option.some.inj H
           obtain ⟨hcz33_0,hcz33_1,hcz33_2,hcz33_3,hcz33_4,hcz33_5,hcz33_6,hcz33_7,hcz33_8,hcz33_9,hcz33_10,hcz33_11,hcz33_12,hcz33_13,hcz33_14,hcz33_15⟩:=bc16_ (w:=wc) (g:=Qr) (.int .i64 Qh) (.int .i64 Qi) (.int .i64 Qj) (.int .i64 Qo) (.int .i64 Qp) (.int .i64 Qk) (.int .i64 Ql) (.int .i64 Qn) (.int .i64 Qm) (.int .i64 Qq) (.int .i64 Qb) (.int .i64 Qc) (.int .i64 Qd) (.int .i64 Qe) (.int .i64 Qf) (.int .i64 Qg) Qa.out
           obtain ⟨hfz33_0,hfz33_1,hfz33_2,hfz33_3,hfz33_4,hfz33_5,hfz33_6,hfz33_7,hfz33_8,hfz33_9,hfz33_10,hfz33_11,hfz33_12,hfz33_13,hfz33_14,hfz33_15⟩:=bf16_ Qa.out
           go_wp2
           go_ret
           exact ⟨by first|rfl|(simp [errW_none,errW_some] <;> rfl)|(simp [*,errW_none,errW_some] <;> rfl),by repeat (first|(with_reducible first|exact HB.out|apply below_alloc|apply pw_below_drewN|apply below_drew1|refine below_set ?_ Qs.out)|exact HB.out)⟩

end Go.Proofs.Ytnmephdamgofnaa.PA
