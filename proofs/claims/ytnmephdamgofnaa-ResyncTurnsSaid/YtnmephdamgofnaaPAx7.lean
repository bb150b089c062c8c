/- Written by a program of this session (wip/jprint.py, over the printer of the kit): functions that a law comes to, as plain Lean functions, and walks; Lean checks it. -/
import Derived.Test.YtnmephdamgofnaaPAx0
import Derived.Test.YtnmephdamgofnaaPAx5
import Derived.Test.YtnmephdamgofnaaPAx6
namespace Go.Proofs.Ytnmephdamgofnaa.PA
open Go.RowKit Go.Proofs.YtnmephdamgofnaaW.PrintWords Go.Proofs.YtnmephdamgofnaaW.PrintLast Go.Proofs.YtnmephdamgofnaaW.PrintMore
attribute [local go_sem] max2_int min2_int max_two min_two max_three min_three max_four min_four   -- for this text's walks alone
set_option linter.unusedVariables false
set_option linter.unusedSimpArgs false

/-! ### vespersref07_Fails: function 25 -/
mutual
def vespersref07_Fails.j0 : Nat→Int→Int→Int→Int→Bool→Int→Int→Int→Int→Int→Int→Int→Int→Int→Int→Int→Int→Int→Int→Int→Int→Option (Int)
 | 0,_,_,_,_,_,_,_,_,_,_,_,_,_,_,_,_,_,_,_,_,_=>none
 | k + 1,x4,x5,x6,x7,x38,QE,QF,QB,Qw,Qt,QC,QG,QD,QH,Qu,Qv,Qy,Qs,Qr,Qz,QA=>if x38 = true then (some 4) else (if Qt < (wrap64 (Qu + x4)) then (vespersref07_Fails.j1 k x4 x5 x6 x7 true QE QF QB Qw Qt QC QG QD QH Qu Qv Qy Qs Qr Qz QA) else (vespersref07_Fails.j1 k x4 x5 x6 x7 (decide (Qt > 1048576)) QE QF QB Qw Qt QC QG QD QH Qu Qv Qy Qs Qr Qz QA))
def vespersref07_Fails.j1 : Nat→Int→Int→Int→Int→Bool→Int→Int→Int→Int→Int→Int→Int→Int→Int→Int→Int→Int→Int→Int→Int→Int→Option (Int)
 | 0,_,_,_,_,_,_,_,_,_,_,_,_,_,_,_,_,_,_,_,_,_=>none
 | k + 1,x4,x5,x6,x7,x50,QE,QF,QB,Qw,Qt,QC,QG,QD,QH,Qu,Qv,Qy,Qs,Qr,Qz,QA=>if x50 = true then (some 5) else (if Qv < (wrap64 ((wrap64 (x6 + (wrap64 (2 * x5)))) + (wrap64 (2 * x4)))) then (vespersref07_Fails.j2 k x7 true QE QF QB Qw Qt QC QG QD QH Qu Qv Qy Qs Qr Qz QA) else (vespersref07_Fails.j2 k x7 (decide (Qv > 1048576)) QE QF QB Qw Qt QC QG QD QH Qu Qv Qy Qs Qr Qz QA))
def vespersref07_Fails.j2 : Nat→Int→Bool→Int→Int→Int→Int→Int→Int→Int→Int→Int→Int→Int→Int→Int→Int→Int→Int→Option (Int)
 | 0,_,_,_,_,_,_,_,_,_,_,_,_,_,_,_,_,_,_=>none
 | k + 1,x7,x65,QE,QF,QB,Qw,Qt,QC,QG,QD,QH,Qu,Qv,Qy,Qs,Qr,Qz,QA=>if x65 = true then (some 6) else (if Qw < (wrap64 ((wrap64 (Qt + Qv)) + Qu)) then (vespersref07_Fails.j3 k x7 true QE QF QB Qw Qt QC QG QD QH Qu Qv Qy Qs Qr Qz QA) else (vespersref07_Fails.j3 k x7 (decide (Qw > 1048576)) QE QF QB Qw Qt QC QG QD QH Qu Qv Qy Qs Qr Qz QA))
def vespersref07_Fails.j3 : Nat→Int→Bool→Int→Int→Int→Int→Int→Int→Int→Int→Int→Int→Int→Int→Int→Int→Int→Int→Option (Int)
 | 0,_,_,_,_,_,_,_,_,_,_,_,_,_,_,_,_,_,_=>none
 | k + 1,x7,x81,QE,QF,QB,Qw,Qt,QC,QG,QD,QH,Qu,Qv,Qy,Qs,Qr,Qz,QA=>if x81 = true then (some 7) else (if QB < (wrap64 ((wrap64 ((wrap64 ((wrap64 ((wrap64 ((wrap64 (Qw + Qt)) + (wrap64 (2 * QD)))) + (wrap64 (2 * QC)))) + Qv)) + Qu)) + 8)) then (some 8) else (if Qs < 1 then (vespersref07_Fails.j4 k x7 true QE QF QB Qw Qt QC QG QD QH Qu Qv Qy Qs Qr Qz QA) else (if Qs > 64 then (vespersref07_Fails.j4 k x7 true QE QF QB Qw Qt QC QG QD QH Qu Qv Qy Qs Qr Qz QA) else (if Qr < 1 then (vespersref07_Fails.j4 k x7 true QE QF QB Qw Qt QC QG QD QH Qu Qv Qy Qs Qr Qz QA) else (if Qr > 8 then (vespersref07_Fails.j4 k x7 true QE QF QB Qw Qt QC QG QD QH Qu Qv Qy Qs Qr Qz QA) else (if Qz < 1 then (vespersref07_Fails.j4 k x7 true QE QF QB Qw Qt QC QG QD QH Qu Qv Qy Qs Qr Qz QA) else (vespersref07_Fails.j4 k x7 (decide (Qz > 32)) QE QF QB Qw Qt QC QG QD QH Qu Qv Qy Qs Qr Qz QA)))))))
def vespersref07_Fails.j4 : Nat→Int→Bool→Int→Int→Int→Int→Int→Int→Int→Int→Int→Int→Int→Int→Int→Int→Int→Int→Option (Int)
 | 0,_,_,_,_,_,_,_,_,_,_,_,_,_,_,_,_,_,_=>none
 | k + 1,x7,x132,QE,QF,QB,Qw,Qt,QC,QG,QD,QH,Qu,Qv,Qy,Qs,Qr,Qz,QA=>if x132 = true then (some 9) else (if Qr = 0 then (none) else (if (wrap64 ((wrap64 (Int.tdiv Qs Qr)) * Qr)) < Qs then (vespersref07_Fails.j5 k x7 (wrap64 ((wrap64 (Int.tdiv Qs Qr)) + 1)) QE QF QB Qw Qt QC QG QD QH Qu Qv Qy Qs Qr Qz QA) else (vespersref07_Fails.j5 k x7 (wrap64 (Int.tdiv Qs Qr)) QE QF QB Qw Qt QC QG QD QH Qu Qv Qy Qs Qr Qz QA)))
def vespersref07_Fails.j5 : Nat→Int→Int→Int→Int→Int→Int→Int→Int→Int→Int→Int→Int→Int→Int→Int→Int→Int→Int→Option (Int)
 | 0,_,_,_,_,_,_,_,_,_,_,_,_,_,_,_,_,_,_=>none
 | k + 1,x7,x8,QE,QF,QB,Qw,Qt,QC,QG,QD,QH,Qu,Qv,Qy,Qs,Qr,Qz,QA=>if Qy < (wrap64 ((wrap64 ((wrap64 (x8 + 3)) * x7)) + (wrap64 (2 * Qu)))) then (vespersref07_Fails.j6 k x7 true QE QF QB Qw Qt QC QG QD QH Qu Qv Qy Qs Qr Qz QA) else (vespersref07_Fails.j6 k x7 (decide (Qy > (wrap64 (64 * x7)))) QE QF QB Qw Qt QC QG QD QH Qu Qv Qy Qs Qr Qz QA)
def vespersref07_Fails.j6 : Nat→Int→Bool→Int→Int→Int→Int→Int→Int→Int→Int→Int→Int→Int→Int→Int→Int→Int→Int→Option (Int)
 | 0,_,_,_,_,_,_,_,_,_,_,_,_,_,_,_,_,_,_=>none
 | k + 1,x7,x164,QE,QF,QB,Qw,Qt,QC,QG,QD,QH,Qu,Qv,Qy,Qs,Qr,Qz,QA=>if x164 = true then (some 10) else (if QA < (wrap64 (40 * x7)) then (some 11) else (if QA > 2147483648 then (some 11) else (some 0)))
end
def vespersref07_Fails.f (k : Nat) (Qi : Int) (Qo : Int) (Qh : Int) (Ql : Int) (Qk : Int) (Qm : Int) (Qp : Int) (Qn : Int) (Qq : Int) (Qj : Int) (Qc : Int) (Qg : Int) (Qb : Int) (Qa : Int) (Qe : Int) (Qd : Int) : Option (Int):=(vespersref07_first.f k Qi Qo Qh Ql Qk Qm Qp Qn Qq Qj Qc Qg Qb Qa Qe Qd).bind fun QN=>(if QN > 0 then (some QN) else ((vespersref07_numbers.f Qi Qo Qh Ql Qk Qm Qp Qn Qq Qj Qc Qg Qb Qa Qe Qd).bind fun QJ=>(if Qj < (wrap64 ((wrap64 (2 * (wrap64 (QJ.2.2 + QJ.2.1)))) + QJ.1)) then (vespersref07_Fails.j0 k QJ.1 QJ.2.1 QJ.2.2 (wrap64 (Qi * Qh)) true Qi Qo Qh Ql Qk Qm Qp Qn Qq Qj Qc Qg Qb Qa Qe Qd) else (vespersref07_Fails.j0 k QJ.1 QJ.2.1 QJ.2.2 (wrap64 (Qi * Qh)) (decide (Qj > 1048576)) Qi Qo Qh Ql Qk Qm Qp Qn Qq Qj Qc Qg Qb Qa Qe Qd))))
theorem vespersref07_Fails.mono_l : ∀ k,(∀ y0 y1 y2 y3 y4 y5 y6 y7 y8 y9 y10 y11 y12 y13 y14 y15 y16 y17 y18 y19 y20,LeO (vespersref07_Fails.j0 k y0 y1 y2 y3 y4 y5 y6 y7 y8 y9 y10 y11 y12 y13 y14 y15 y16 y17 y18 y19 y20) (vespersref07_Fails.j0 (k + 1) y0 y1 y2 y3 y4 y5 y6 y7 y8 y9 y10 y11 y12 y13 y14 y15 y16 y17 y18 y19 y20))∧(∀ y0 y1 y2 y3 y4 y5 y6 y7 y8 y9 y10 y11 y12 y13 y14 y15 y16 y17 y18 y19 y20,LeO (vespersref07_Fails.j1 k y0 y1 y2 y3 y4 y5 y6 y7 y8 y9 y10 y11 y12 y13 y14 y15 y16 y17 y18 y19 y20) (vespersref07_Fails.j1 (k + 1) y0 y1 y2 y3 y4 y5 y6 y7 y8 y9 y10 y11 y12 y13 y14 y15 y16 y17 y18 y19 y20))∧(∀ y0 y1 y2 y3 y4 y5 y6 y7 y8 y9 y10 y11 y12 y13 y14 y15 y16 y17,LeO (vespersref07_Fails.j2 k y0 y1 y2 y3 y4 y5 y6 y7 y8 y9 y10 y11 y12 y13 y14 y15 y16 y17) (vespersref07_Fails.j2 (k + 1) y0 y1 y2 y3 y4 y5 y6 y7 y8 y9 y10 y11 y12 y13 y14 y15 y16 y17))∧(∀ y0 y1 y2 y3 y4 y5 y6 y7 y8 y9 y10 y11 y12 y13 y14 y15 y16 y17,LeO (vespersref07_Fails.j3 k y0 y1 y2 y3 y4 y5 y6 y7 y8 y9 y10 y11 y12 y13 y14 y15 y16 y17) (vespersref07_Fails.j3 (k + 1) y0 y1 y2 y3 y4 y5 y6 y7 y8 y9 y10 y11 y12 y13 y14 y15 y16 y17))∧(∀ y0 y1 y2 y3 y4 y5 y6 y7 y8 y9 y10 y11 y12 y13 y14 y15 y16 y17,LeO (vespersref07_Fails.j4 k y0 y1 y2 y3 y4 y5 y6 y7 y8 y9 y10 y11 y12 y13 y14 y15 y16 y17) (vespersref07_Fails.j4 (k + 1) y0 y1 y2 y3 y4 y5 y6 y7 y8 y9 y10 y11 y12 y13 y14 y15 y16 y17))∧(∀ y0 y1 y2 y3 y4 y5 y6 y7 y8 y9 y10 y11 y12 y13 y14 y15 y16 y17,LeO (vespersref07_Fails.j5 k y0 y1 y2 y3 y4 y5 y6 y7 y8 y9 y10 y11 y12 y13 y14 y15 y16 y17) (vespersref07_Fails.j5 (k + 1) y0 y1 y2 y3 y4 y5 y6 y7 y8 y9 y10 y11 y12 y13 y14 y15 y16 y17))∧(∀ y0 y1 y2 y3 y4 y5 y6 y7 y8 y9 y10 y11 y12 y13 y14 y15 y16 y17,LeO (vespersref07_Fails.j6 k y0 y1 y2 y3 y4 y5 y6 y7 y8 y9 y10 y11 y12 y13 y14 y15 y16 y17) (vespersref07_Fails.j6 (k + 1) y0 y1 y2 y3 y4 y5 y6 y7 y8 y9 y10 y11 y12 y13 y14 y15 y16 y17))
 | 0=>⟨fun _ _ _ _ _ _ _ _ _ _ _ _ _ _ _ _ _ _ _ _ _ r h=>by simp [vespersref07_Fails.j0] at h,fun _ _ _ _ _ _ _ _ _ _ _ _ _ _ _ _ _ _ _ _ _ r h=>by simp [vespersref07_Fails.j1] at h,fun _ _ _ _ _ _ _ _ _ _ _ _ _ _ _ _ _ _ r h=>by simp [vespersref07_Fails.j2] at h,fun _ _ _ _ _ _ _ _ _ _ _ _ _ _ _ _ _ _ r h=>by simp [vespersref07_Fails.j3] at h,fun _ _ _ _ _ _ _ _ _ _ _ _ _ _ _ _ _ _ r h=>by simp [vespersref07_Fails.j4] at h,fun _ _ _ _ _ _ _ _ _ _ _ _ _ _ _ _ _ _ r h=>by simp [vespersref07_Fails.j5] at h,fun _ _ _ _ _ _ _ _ _ _ _ _ _ _ _ _ _ _ r h=>by simp [vespersref07_Fails.j6] at h⟩
 | k + 1=>by
  obtain ⟨ih0,ih1,ih2,ih3,ih4,ih5,ih6⟩:=vespersref07_Fails.mono_l k
  refine ⟨?_,?_,?_,?_,?_,?_,?_⟩
  ·intro y0 y1 y2 y3 y4 y5 y6 y7 y8 y9 y10 y11 y12 y13 y14 y15 y16 y17 y18 y19 y20
   unfold vespersref07_Fails.j0
   repeat' first
   | (with_reducible exact ih0 _ _ _ _ _ _ _ _ _ _ _ _ _ _ _ _ _ _ _ _ _)
   | (with_reducible exact ih1 _ _ _ _ _ _ _ _ _ _ _ _ _ _ _ _ _ _ _ _ _)
   | (with_reducible exact ih2 _ _ _ _ _ _ _ _ _ _ _ _ _ _ _ _ _ _)
   | (with_reducible exact ih3 _ _ _ _ _ _ _ _ _ _ _ _ _ _ _ _ _ _)
   | (with_reducible exact ih4 _ _ _ _ _ _ _ _ _ _ _ _ _ _ _ _ _ _)
   | (with_reducible exact ih5 _ _ _ _ _ _ _ _ _ _ _ _ _ _ _ _ _ _)
   | (with_reducible exact ih6 _ _ _ _ _ _ _ _ _ _ _ _ _ _ _ _ _ _)
   | (with_reducible exact vespersref07_first.mono _ _ _ _ _ _ _ _ _ _ _ _ _ _ _ _ _)
   | (with_reducible exact LeO.refl _)
   | (with_reducible exact LeO.none _)
   | (with_reducible refine LeO.ite ?_ ?_)
   | (with_reducible refine LeO.bind ?_ (fun _=>?_))
   | exact ih0 _ _ _ _ _ _ _ _ _ _ _ _ _ _ _ _ _ _ _ _ _
   | exact ih1 _ _ _ _ _ _ _ _ _ _ _ _ _ _ _ _ _ _ _ _ _
   | exact ih2 _ _ _ _ _ _ _ _ _ _ _ _ _ _ _ _ _ _
   | exact ih3 _ _ _ _ _ _ _ _ _ _ _ _ _ _ _ _ _ _
   | exact ih4 _ _ _ _ _ _ _ _ _ _ _ _ _ _ _ _ _ _
   | exact ih5 _ _ _ _ _ _ _ _ _ _ _ _ _ _ _ _ _ _
   | exact ih6 _ _ _ _ _ _ _ _ _ _ _ _ _ _ _ _ _ _
   | exact vespersref07_first.mono _ _ _ _ _ _ _ _ _ _ _ _ _ _ _ _ _
   | exact LeO.none _
   | refine LeO.ite ?_ ?_
   | refine LeO.bind ?_ (fun _=>?_)
  ·intro y0 y1 y2 y3 y4 y5 y6 y7 y8 y9 y10 y11 y12 y13 y14 y15 y16 y17 y18 y19 y20
   unfold vespersref07_Fails.j1
   repeat' first
   | (with_reducible exact ih0 _ _ _ _ _ _ _ _ _ _ _ _ _ _ _ _ _ _ _ _ _)
   | (with_reducible exact ih1 _ _ _ _ _ _ _ _ _ _ _ _ _ _ _ _ _ _ _ _ _)
   | (with_reducible exact ih2 _ _ _ _ _ _ _ _ _ _ _ _ _ _ _ _ _ _)
   | (with_reducible exact ih3 _ _ _ _ _ _ _ _ _ _ _ _ _ _ _ _ _ _)
   | (with_reducible exact ih4 _ _ _ _ _ _ _ _ _ _ _ _ _ _ _ _ _ _)
   | (with_reducible exact ih5 _ _ _ _ _ _ _ _ _ _ _ _ _ _ _ _ _ _)
   | (with_reducible exact ih6 _ _ _ _ _ _ _ _ _ _ _ _ _ _ _ _ _ _)
   | (with_reducible exact vespersref07_first.mono _ _ _ _ _ _ _ _ _ _ _ _ _ _ _ _ _)
   | (with_reducible exact LeO.refl _)
   | (with_reducible exact LeO.none _)
   | (with_reducible refine LeO.ite ?_ ?_)
   | (with_reducible refine LeO.bind ?_ (fun _=>?_))
   | exact ih0 _ _ _ _ _ _ _ _ _ _ _ _ _ _ _ _ _ _ _ _ _
   | exact ih1 _ _ _ _ _ _ _ _ _ _ _ _ _ _ _ _ _ _ _ _ _
   | exact ih2 _ _ _ _ _ _ _ _ _ _ _ _ _ _ _ _ _ _
   | exact ih3 _ _ _ _ _ _ _ _ _ _ _ _ _ _ _ _ _ _
   | exact ih4 _ _ _ _ _ _ _ _ _ _ _ _ _ _ _ _ _ _
   | exact ih5 _ _ _ _ _ _ _ _ _ _ _ _ _ _ _ _ _ _
   | exact ih6 _ _ _ _ _ _ _ _ _ _ _ _ _ _ _ _ _ _
   | exact vespersref07_first.mono _ _ _ _ _ _ _ _ _ _ _ _ _ _ _ _ _
   | exact LeO.none _
   | refine LeO.ite ?_ ?_
   | refine LeO.bind ?_ (fun _=>?_)
  ·intro y0 y1 y2 y3 y4 y5 y6 y7 y8 y9 y10 y11 y12 y13 y14 y15 y16 y17
   unfold vespersref07_Fails.j2
   repeat' first
   | (with_reducible exact ih0 _ _ _ _ _ _ _ _ _ _ _ _ _ _ _ _ _ _ _ _ _)
   | (with_reducible exact ih1 _ _ _ _ _ _ _ _ _ _ _ _ _ _ _ _ _ _ _ _ _)
   | (with_reducible exact ih2 _ _ _ _ _ _ _ _ _ _ _ _ _ _ _ _ _ _)
   | (with_reducible exact ih3 _ _ _ _ _ _ _ _ _ _ _ _ _ _ _ _ _ _)
   | (with_reducible exact ih4 _ _ _ _ _ _ _ _ _ _ _ _ _ _ _ _ _ _)
   | (with_reducible exact ih5 _ _ _ _ _ _ _ _ _ _ _ _ _ _ _ _ _ _)
   | (with_reducible exact ih6 _ _ _ _ _ _ _ _ _ _ _ _ _ _ _ _ _ _)
   | (with_reducible exact vespersref07_first.mono _ _ _ _ _ _ _ _ _ _ _ _ _ _ _ _ _)
   | (with_reducible exact LeO.refl _)
   | (with_reducible exact LeO.none _)
   | (with_reducible refine LeO.ite ?_ ?_)
   | (with_reducible refine LeO.bind ?_ (fun _=>?_))
   | exact ih0 _ _ _ _ _ _ _ _ _ _ _ _ _ _ _ _ _ _ _ _ _
   | exact ih1 _ _ _ _ _ _ _ _ _ _ _ _ _ _ _ _ _ _ _ _ _
   | exact ih2 _ _ _ _ _ _ _ _ _ _ _ _ _ _ _ _ _ _
   | exact ih3 _ _ _ _ _ _ _ _ _ _ _ _ _ _ _ _ _ _
   | exact ih4 _ _ _ _ _ _ _ _ _ _ _ _ _ _ _ _ _ _
   | exact ih5 _ _ _ _ _ _ _ _ _ _ _ _ _ _ _ _ _ _
   | exact ih6 _ _ _ _ _ _ _ _ _ _ _ _ _ _ _ _ _ _
   | exact vespersref07_first.mono _ _ _ _ _ _ _ _ _ _ _ _ _ _ _ _ _
   | exact LeO.none _
   | refine LeO.ite ?_ ?_
   | refine LeO.bind ?_ (fun _=>?_)
  ·intro y0 y1 y2 y3 y4 y5 y6 y7 y8 y9 y10 y11 y12 y13 y14 y15 y16 y17
   unfold vespersref07_Fails.j3
   repeat' first
   | (with_reducible exact ih0 _ _ _ _ _ _ _ _ _ _ _ _ _ _ _ _ _ _ _ _ _)
   | (with_reducible exact ih1 _ _ _ _ _ _ _ _ _ _ _ _ _ _ _ _ _ _ _ _ _)
   | (with_reducible exact ih2 _ _ _ _ _ _ _ _ _ _ _ _ _ _ _ _ _ _)
   | (with_reducible exact ih3 _ _ _ _ _ _ _ _ _ _ _ _ _ _ _ _ _ _)
   | (with_reducible exact ih4 _ _ _ _ _ _ _ _ _ _ _ _ _ _ _ _ _ _)
   | (with_reducible exact ih5 _ _ _ _ _ _ _ _ _ _ _ _ _ _ _ _ _ _)
   | (with_reducible exact ih6 _ _ _ _ _ _ _ _ _ _ _ _ _ _ _ _ _ _)
   | (with_reducible exact vespersref07_first.mono _ _ _ _ _ _ _ _ _ _ _ _ _ _ _ _ _)
   | (with_reducible exact LeO.refl _)
   | (with_reducible exact LeO.none _)
   | (with_reducible refine LeO.ite ?_ ?_)
   | (with_reducible refine LeO.bind ?_ (fun _=>?_))
   | exact ih0 _ _ _ _ _ _ _ _ _ _ _ _ _ _ _ _ _ _ _ _ _
   | exact ih1 _ _ _ _ _ _ _ _ _ _ _ _ _ _ _ _ _ _ _ _ _
   | exact ih2 _ _ _ _ _ _ _ _ _ _ _ _ _ _ _ _ _ _
   | exact ih3 _ _ _ _ _ _ _ _ _ _ _ _ _ _ _ _ _ _
   | exact ih4 _ _ _ _ _ _ _ _ _ _ _ _ _ _ _ _ _ _
   | exact ih5 _ _ _ _ _ _ _ _ _ _ _ _ _ _ _ _ _ _
   | exact ih6 _ _ _ _ _ _ _ _ _ _ _ _ _ _ _ _ _ _
   | exact vespersref07_first.mono _ _ _ _ _ _ _ _ _ _ _ _ _ _ _ _ _
   | exact LeO.none _
   | refine LeO.ite ?_ ?_
   | refine LeO.bind ?_ (fun _=>?_)
  ·intro y0 y1 y2 y3 y4 y5 y6 y7 y8 y9 y10 y11 y12 y13 y14 y15 y16 y17
   unfold vespersref07_Fails.j4
   repeat' first
   | (with_reducible exact ih0 _ _ _ _ _ _ _ _ _ _ _ _ _ _ _ _ _ _ _ _ _)
   | (with_reducible exact ih1 _ _ _ _ _ _ _ _ _ _ _ _ _ _ _ _ _ _ _ _ _)
   | (with_reducible exact ih2 _ _ _ _ _ _ _ _ _ _ _ _ _ _ _ _ _ _)
   | (with_reducible exact ih3 _ _ _ _ _ _ _ _ _ _ _ _ _ _ _ _ _ _)
   | (with_reducible exact ih4 _ _ _ _ _ _ _ _ _ _ _ _ _ _ _ _ _ _)
   | (with_reducible exact ih5 _ _ _ _ _ _ _ _ _ _ _ _ _ _ _ _ _ _)
   | (with_reducible exact ih6 _ _ _ _ _ _ _ _ _ _ _ _ _ _ _ _ _ _)
   | (with_reducible exact vespersref07_first.mono _ _ _ _ _ _ _ _ _ _ _ _ _ _ _ _ _)
   | (with_reducible exact LeO.refl _)
   | (with_reducible exact LeO.none _)
   | (with_reducible refine LeO.ite ?_ ?_)
   | (with_reducible refine LeO.bind ?_ (fun _=>?_))
   | exact ih0 _ _ _ _ _ _ _ _ _ _ _ _ _ _ _ _ _ _ _ _ _
   | exact ih1 _ _ _ _ _ _ _ _ _ _ _ _ _ _ _ _ _ _ _ _ _
   | exact ih2 _ _ _ _ _ _ _ _ _ _ _ _ _ _ _ _ _ _
   | exact ih3 _ _ _ _ _ _ _ _ _ _ _ _ _ _ _ _ _ _
   | exact ih4 _ _ _ _ _ _ _ _ _ _ _ _ _ _ _ _ _ _
   | exact ih5 _ _ _ _ _ _ _ _ _ _ _ _ _ _ _ _ _ _
   | exact ih6 _ _ _ _ _ _ _ _ _ _ _ _ _ _ _ _ _ _
   | exact vespersref07_first.mono _ _ _ _ _ _ _ _ _ _ _ _ _ _ _ _ _
   | exact LeO.none _
   | refine LeO.ite ?_ ?_
   | refine LeO.bind ?_ (fun _=>?_)
  ·intro y0 y1 y2 y3 y4 y5 y6 y7 y8 y9 y10 y11 y12 y13 y14 y15 y16 y17
   unfold vespersref07_Fails.j5
   repeat' first
   | (with_reducible exact ih0 _ _ _ _ _ _ _ _ _ _ _ _ _ _ _ _ _ _ _ _ _)
   | (with_reducible exact ih1 _ _ _ _ _ _ _ _ _ _ _ _ _ _ _ _ _ _ _ _ _)
   | (with_reducible exact ih2 _ _ _ _ _ _ _ _ _ _ _ _ _ _ _ _ _ _)
   | (with_reducible exact ih3 _ _ _ _ _ _ _ _ _ _ _ _ _ _ _ _ _ _)
   | (with_reducible exact ih4 _ _ _ _ _ _ _ _ _ _ _ _ _ _ _ _ _ _)
   | (with_reducible exact ih5 _ _ _ _ _ _ _ _ _ _ _ _ _ _ _ _ _ _)
   | (with_reducible exact ih6 _ _ _ _ _ _ _ _ _ _ _ _ _ _ _ _ _ _)
   | (with_reducible exact vespersref07_first.mono _ _ _ _ _ _ _ _ _ _ _ _ _ _ _ _ _)
   | (with_reducible exact LeO.refl _)
   | (with_reducible exact LeO.none _)
   | (with_reducible refine LeO.ite ?_ ?_)
   | (with_reducible refine LeO.bind ?_ (fun _=>?_))
   | exact ih0 _ _ _ _ _ _ _ _ _ _ _ _ _ _ _ _ _ _ _ _ _
   | exact ih1 _ _ _ _ _ _ _ _ _ _ _ _ _ _ _ _ _ _ _ _ _
   | exact ih2 _ _ _ _ _ _ _ _ _ _ _ _ _ _ _ _ _ _
   | exact ih3 _ _ _ _ _ _ _ _ _ _ _ _ _ _ _ _ _ _
   | exact ih4 _ _ _ _ _ _ _ _ _ _ _ _ _ _ _ _ _ _
   | exact ih5 _ _ _ _ _ _ _ _ _ _ _ _ _ _ _ _ _ _
   | exact ih6 _ _ _ _ _ _ _ _ _ _ _ _ _ _ _ _ _ _
   | exact vespersref07_first.mono _ _ _ _ _ _ _ _ _ _ _ _ _ _ _ _ _
   | exact LeO.none _
   | refine LeO.ite ?_ ?_
   | refine LeO.bind ?_ (fun _=>?_)
  ·intro y0 y1 y2 y3 y4 y5 y6 y7 y8 y9 y10 y11 y12 y13 y14 y15 y16 y17
   unfold vespersref07_Fails.j6
   repeat' first
   | (with_reducible exact ih0 _ _ _ _ _ _ _ _ _ _ _ _ _ _ _ _ _ _ _ _ _)
   | (with_reducible exact ih1 _ _ _ _ _ _ _ _ _ _ _ _ _ _ _ _ _ _ _ _ _)
   | (with_reducible exact ih2 _ _ _ _ _ _ _ _ _ _ _ _ _ _ _ _ _ _)
   | (with_reducible exact ih3 _ _ _ _ _ _ _ _ _ _ _ _ _ _ _ _ _ _)
   | (with_reducible exact ih4 _ _ _ _ _ _ _ _ _ _ _ _ _ _ _ _ _ _)
   | (with_reducible exact ih5 _ _ _ _ _ _ _ _ _ _ _ _ _ _ _ _ _ _)
   | (with_reducible exact ih6 _ _ _ _ _ _ _ _ _ _ _ _ _ _ _ _ _ _)
   | (with_reducible exact vespersref07_first.mono _ _ _ _ _ _ _ _ _ _ _ _ _ _ _ _ _)
   | (with_reducible exact LeO.refl _)
   | (with_reducible exact LeO.none _)
   | (with_reducible refine LeO.ite ?_ ?_)
   | (with_reducible refine LeO.bind ?_ (fun _=>?_))
   | exact ih0 _ _ _ _ _ _ _ _ _ _ _ _ _ _ _ _ _ _ _ _ _
   | exact ih1 _ _ _ _ _ _ _ _ _ _ _ _ _ _ _ _ _ _ _ _ _
   | exact ih2 _ _ _ _ _ _ _ _ _ _ _ _ _ _ _ _ _ _
   | exact ih3 _ _ _ _ _ _ _ _ _ _ _ _ _ _ _ _ _ _
   | exact ih4 _ _ _ _ _ _ _ _ _ _ _ _ _ _ _ _ _ _
   | exact ih5 _ _ _ _ _ _ _ _ _ _ _ _ _ _ _ _ _ _
   | exact ih6 _ _ _ _ _ _ _ _ _ _ _ _ _ _ _ _ _ _
   | exact vespersref07_first.mono _ _ _ _ _ _ _ _ _ _ _ _ _ _ _ _ _
   | exact LeO.none _
   | refine LeO.ite ?_ ?_
   | refine LeO.bind ?_ (fun _=>?_)
theorem vespersref07_Fails.mono : ∀ a0 a1 a2 a3 a4 a5 a6 a7 a8 a9 a10 a11 a12 a13 a14 a15 k,LeO (vespersref07_Fails.f k a0 a1 a2 a3 a4 a5 a6 a7 a8 a9 a10 a11 a12 a13 a14 a15) (vespersref07_Fails.f (k + 1) a0 a1 a2 a3 a4 a5 a6 a7 a8 a9 a10 a11 a12 a13 a14 a15):=by
 intro a0 a1 a2 a3 a4 a5 a6 a7 a8 a9 a10 a11 a12 a13 a14 a15 k
 obtain ⟨ih0,ih1,ih2,ih3,ih4,ih5,ih6⟩:=vespersref07_Fails.mono_l k
 unfold vespersref07_Fails.f
 repeat' first
   | (with_reducible exact ih0 _ _ _ _ _ _ _ _ _ _ _ _ _ _ _ _ _ _ _ _ _)
   | (with_reducible exact ih1 _ _ _ _ _ _ _ _ _ _ _ _ _ _ _ _ _ _ _ _ _)
   | (with_reducible exact ih2 _ _ _ _ _ _ _ _ _ _ _ _ _ _ _ _ _ _)
   | (with_reducible exact ih3 _ _ _ _ _ _ _ _ _ _ _ _ _ _ _ _ _ _)
   | (with_reducible exact ih4 _ _ _ _ _ _ _ _ _ _ _ _ _ _ _ _ _ _)
   | (with_reducible exact ih5 _ _ _ _ _ _ _ _ _ _ _ _ _ _ _ _ _ _)
   | (with_reducible exact ih6 _ _ _ _ _ _ _ _ _ _ _ _ _ _ _ _ _ _)
   | (with_reducible exact vespersref07_first.mono _ _ _ _ _ _ _ _ _ _ _ _ _ _ _ _ _)
   | (with_reducible exact LeO.refl _)
   | (with_reducible exact LeO.none _)
   | (with_reducible refine LeO.ite ?_ ?_)
   | (with_reducible refine LeO.bind ?_ (fun _=>?_))
   | exact ih0 _ _ _ _ _ _ _ _ _ _ _ _ _ _ _ _ _ _ _ _ _
   | exact ih1 _ _ _ _ _ _ _ _ _ _ _ _ _ _ _ _ _ _ _ _ _
   | exact ih2 _ _ _ _ _ _ _ _ _ _ _ _ _ _ _ _ _ _
   | exact ih3 _ _ _ _ _ _ _ _ _ _ _ _ _ _ _ _ _ _
   | exact ih4 _ _ _ _ _ _ _ _ _ _ _ _ _ _ _ _ _ _
   | exact ih5 _ _ _ _ _ _ _ _ _ _ _ _ _ _ _ _ _ _
   | exact ih6 _ _ _ _ _ _ _ _ _ _ _ _ _ _ _ _ _ _
   | exact vespersref07_first.mono _ _ _ _ _ _ _ _ _ _ _ _ _ _ _ _ _
   | exact LeO.none _
   | refine LeO.ite ?_ ?_
   | refine LeO.bind ?_ (fun _=>?_)
set_option maxHeartbeats 8000000 in
set_option maxRecDepth 100000 in
theorem vespersref07_Fails.calls (k : Nat) (Qi : Int) (Qo : Int) (Qh : Int) (Ql : Int) (Qk : Int) (Qm : Int) (Qp : Int) (Qn : Int) (Qq : Int) (Qj : Int) (Qc : Int) (Qg : Int) (Qb : Int) (Qa : Int) (Qe : Int) (Qd : Int) (r : Int) (w : World) (h : vespersref07_Fails.f k Qi Qo Qh Ql Qk Qm Qp Qn Qq Qj Qc Qg Qb Qa Qe Qd = some r) :
  Calls Try.prog 25 #[.agg #[.int .i64 Qi,.int .i64 Qo,.int .i64 Qh,.int .i64 Ql,.int .i64 Qk,.int .i64 Qm,.int .i64 Qp,.int .i64 Qn,.int .i64 Qq,.int .i64 Qj,.int .i64 Qc,.int .i64 Qg,.int .i64 Qb,.int .i64 Qa,.int .i64 Qe,.int .i64 Qd]] w fun e w'=>e = .returned (.int .i64 r)∧Below w.heap.size w w':=by
 have hu23:=Try.underlying23
 have HB:=Aside0.mk (Below.refl w.heap.size w)
 have H : ((vespersref07_first.f k Qi Qo Qh Ql Qk Qm Qp Qn Qq Qj Qc Qg Qb Qa Qe Qd).bind fun QN=>(if QN > 0 then (some QN) else ((vespersref07_numbers.f Qi Qo Qh Ql Qk Qm Qp Qn Qq Qj Qc Qg Qb Qa Qe Qd).bind fun QJ=>(if Qj < (wrap64 ((wrap64 (2 * (wrap64 (QJ.2.2 + QJ.2.1)))) + QJ.1)) then (vespersref07_Fails.j0 k QJ.1 QJ.2.1 QJ.2.2 (wrap64 (Qi * Qh)) true Qi Qo Qh Ql Qk Qm Qp Qn Qq Qj Qc Qg Qb Qa Qe Qd) else (vespersref07_Fails.j0 k QJ.1 QJ.2.1 QJ.2.2 (wrap64 (Qi * Qh)) (decide (Qj > 1048576)) Qi Qo Qh Ql Qk Qm Qp Qn Qq Qj Qc Qg Qb Qa Qe Qd))))) = some r:=h
 clear h
 replace H:=Option.bind_eq_some_iff.mp H
 obtain ⟨QN,A20,H⟩:=H
 replace H : (if QN > 0 then (some QN) else ((vespersref07_numbers.f Qi Qo Qh Ql Qk Qm Qp Qn Qq Qj Qc Qg Qb Qa Qe Qd).bind fun QJ=>(if Qj < (wrap64 ((wrap64 (2 * (wrap64 (QJ.2.2 + QJ.2.1)))) + QJ.1)) then (vespersref07_Fails.j0 k QJ.1 QJ.2.1 QJ.2.2 (wrap64 (Qi * Qh)) true Qi Qo Qh Ql Qk Qm Qp Qn Qq Qj Qc Qg Qb Qa Qe Qd) else (vespersref07_Fails.j0 k QJ.1 QJ.2.1 QJ.2.2 (wrap64 (Qi * Qh)) (decide (Qj > 1048576)) Qi Qo Qh Ql Qk Qm Qp Qn Qq Qj Qc Qg Qb Qa Qe Qd)))) = some r:=H
 have A2:=Aside0.mk A20
 clear A20
 by_cases c3 : QN > 0
 ·rw [if_pos c3] at H
  have c3b0 : decide (0 < QN) = true:=decide_eq_true c3
  clear c3
  obtain rfl:=Option.some.inj H
  go_enter Try.func25,Try.ntmps25
  go_wp2_with (first|((with_reducible refine gate_dst (N:=1) rfl ?_);refine box_event ?hg (N:=1) ?hd (cs:=#[.int .i64 Qi,.int .i64 Qo,.int .i64 Qh,.int .i64 Ql,.int .i64 Qk,.int .i64 Qm,.int .i64 Qp,.int .i64 Qn,.int .i64 Qq,.int .i64 Qj,.int .i64 Qc,.int .i64 Qg,.int .i64 Qb,.int .i64 Qa,.int .i64 Qe,.int .i64 Qd]) (t:=23) ?hr ?_;(case hd=>rfl);(case hg=>rfl);(case hr=>first|(go_simp;done)|(go_simp;rfl));intro Qx hg w4 hbox hb;have n0_:=Aside0.mk (below_step (by repeat (first|(with_reducible first|exact HB.out|apply below_alloc|apply pw_below_drewN|apply below_drew1)|exact HB.out)) hb);have n1_:=Aside0.mk (hbox);have n2_:=Aside0.mk ((by rw [hg];exact (below_size (by repeat (first|(with_reducible first|exact HB.out|apply below_alloc|apply pw_below_drewN|apply below_drew1)|exact HB.out))) : w.heap.size ≤ Qx));have n3_:=Aside0.mk ((by rw [hg];exact (below_size (by repeat (first|(with_reducible first|exact HB.out|apply below_alloc|apply pw_below_drewN|apply below_drew1)|exact HB.out))) : w.heap.size ≤ Qx));clear HB;have HB:=n0_;have Qf:=n1_;have GW168:=n2_;have QI:=n3_;clear n0_ n1_ n2_ n3_;clear hb hbox hg;obtain ⟨hcz5_0,hcz5_1,hcz5_2,hcz5_3,hcz5_4,hcz5_5,hcz5_6,hcz5_7,hcz5_8,hcz5_9,hcz5_10,hcz5_11,hcz5_12,hcz5_13,hcz5_14,hcz5_15⟩:=bc16_ (w:=w4) (g:=Qx) (.int .i64 Qi) (.int .i64 Qo) (.int .i64 Qh) (.int .i64 Ql) (.int .i64 Qk) (.int .i64 Qm) (.int .i64 Qp) (.int .i64 Qn) (.int .i64 Qq) (.int .i64 Qj) (.int .i64 Qc) (.int .i64 Qg) (.int .i64 Qb) (.int .i64 Qa) (.int .i64 Qe) (.int .i64 Qd) Qf.out;obtain ⟨hfz5_0,hfz5_1,hfz5_2,hfz5_3,hfz5_4,hfz5_5,hfz5_6,hfz5_7,hfz5_8,hfz5_9,hfz5_10,hfz5_11,hfz5_12,hfz5_13,hfz5_14,hfz5_15⟩:=bf16_ Qf.out)|((with_reducible refine gate_callee (f:=33) rfl ?_);refine goesL_ (some 10) rfl rfl Try.func33 (by kernel_rfl) rfl #[.agg #[.int .i64 Qi,.int .i64 Qo,.int .i64 Qh,.int .i64 Ql,.int .i64 Qk,.int .i64 Qm,.int .i64 Qp,.int .i64 Qn,.int .i64 Qq,.int .i64 Qj,.int .i64 Qc,.int .i64 Qg,.int .i64 Qb,.int .i64 Qa,.int .i64 Qe,.int .i64 Qd]] rfl (by (try simp only [List.map_toArray,List.map_cons,List.map_nil]);first|done|rfl|(simp only [List.length_drop,List.length_take];rfl)) ?_;(with_reducible refine (vespersref07_first.calls k Qi Qo Qh Ql Qk Qm Qp Qn Qq Qj Qc Qg Qb Qa Qe Qd QN _ A2.out).mono ?_);rintro e w6 ⟨rfl,hb⟩;refine ⟨_,rfl,?_⟩;have n0_:=Aside0.mk (blk_below (g:=Qx) (o:=.cells #[.int .i64 Qi,.int .i64 Qo,.int .i64 Qh,.int .i64 Ql,.int .i64 Qk,.int .i64 Qm,.int .i64 Qp,.int .i64 Qn,.int .i64 Qq,.int .i64 Qj,.int .i64 Qc,.int .i64 Qg,.int .i64 Qb,.int .i64 Qa,.int .i64 Qe,.int .i64 Qd] 23 (0,0)) (by (with_reducible repeat (first|refine blk_drewN ?_ _|refine blk_drew ?_|refine blk_alloc ?_ _));exact Qf.out) hb);have n1_:=Aside0.mk (below_step (by repeat (first|(with_reducible first|exact HB.out|apply below_alloc|apply pw_below_drewN|apply below_drew1|refine below_set ?_ QI.out)|exact HB.out)) hb);clear Qf;clear HB;have Qf:=n0_;have HB:=n1_;clear n0_ n1_;(try clear hb);(try clear hb2);(try clear hk);(try clear hi)))
  go_ret
  exact ⟨by first|rfl|(simp [errW_none,errW_some] <;> rfl)|(simp [*,errW_none,errW_some] <;> rfl),by repeat (first|(with_reducible first|exact HB.out|apply below_alloc|apply pw_below_drewN|apply below_drew1|refine below_set ?_ QI.out)|exact HB.out)⟩
 ·rw [if_neg c3] at H
  have c3b0 : decide (0 < QN) = false:=decide_eq_false c3
  clear c3
  replace H:=Option.bind_eq_some_iff.mp H
  obtain ⟨⟨QK,QL,QM⟩,A70,H⟩:=H
  replace H : (if Qj < (wrap64 ((wrap64 (2 * (wrap64 (QM + QL)))) + QK)) then (vespersref07_Fails.j0 k QK QL QM (wrap64 (Qi * Qh)) true Qi Qo Qh Ql Qk Qm Qp Qn Qq Qj Qc Qg Qb Qa Qe Qd) else (vespersref07_Fails.j0 k QK QL QM (wrap64 (Qi * Qh)) (decide (Qj > 1048576)) Qi Qo Qh Ql Qk Qm Qp Qn Qq Qj Qc Qg Qb Qa Qe Qd)) = some r:=H
  have A7:=Aside0.mk A70
  clear A70
  have HC8:=Aside0.mk H
  clear H
  go_enter Try.func25,Try.ntmps25
  go_upto_region 6 with (first|((with_reducible refine gate_dst (N:=1) rfl ?_);refine box_event ?hg (N:=1) ?hd (cs:=#[.int .i64 Qi,.int .i64 Qo,.int .i64 Qh,.int .i64 Ql,.int .i64 Qk,.int .i64 Qm,.int .i64 Qp,.int .i64 Qn,.int .i64 Qq,.int .i64 Qj,.int .i64 Qc,.int .i64 Qg,.int .i64 Qb,.int .i64 Qa,.int .i64 Qe,.int .i64 Qd]) (t:=23) ?hr ?_;(case hd=>rfl);(case hg=>rfl);(case hr=>first|(go_simp;done)|(go_simp;rfl));intro Qx hg w9 hbox hb;have n0_:=Aside0.mk (below_step (by repeat (first|(with_reducible first|exact HB.out|apply below_alloc|apply pw_below_drewN|apply below_drew1)|exact HB.out)) hb);have n1_:=Aside0.mk (hbox);have n2_:=Aside0.mk ((by rw [hg];exact (below_size (by repeat (first|(with_reducible first|exact HB.out|apply below_alloc|apply pw_below_drewN|apply below_drew1)|exact HB.out))) : w.heap.size ≤ Qx));have n3_:=Aside0.mk ((by rw [hg];exact (below_size (by repeat (first|(with_reducible first|exact HB.out|apply below_alloc|apply pw_below_drewN|apply below_drew1)|exact HB.out))) : w.heap.size ≤ Qx));clear HB;have HB:=n0_;have Qf:=n1_;have GW168:=n2_;have QI:=n3_;clear n0_ n1_ n2_ n3_;clear hb hbox hg;obtain ⟨hcz10_0,hcz10_1,hcz10_2,hcz10_3,hcz10_4,hcz10_5,hcz10_6,hcz10_7,hcz10_8,hcz10_9,hcz10_10,hcz10_11,hcz10_12,hcz10_13,hcz10_14,hcz10_15⟩:=bc16_ (w:=w9) (g:=Qx) (.int .i64 Qi) (.int .i64 Qo) (.int .i64 Qh) (.int .i64 Ql) (.int .i64 Qk) (.int .i64 Qm) (.int .i64 Qp) (.int .i64 Qn) (.int .i64 Qq) (.int .i64 Qj) (.int .i64 Qc) (.int .i64 Qg) (.int .i64 Qb) (.int .i64 Qa) (.int .i64 Qe) (.int .i64 Qd) Qf.out;obtain ⟨hfz10_0,hfz10_1,hfz10_2,hfz10_3,hfz10_4,hfz10_5,hfz10_6,hfz10_7,hfz10_8,hfz10_9,hfz10_10,hfz10_11,hfz10_12,hfz10_13,hfz10_14,hfz10_15⟩:=bf16_ Qf.out)|((with_reducible refine gate_callee (f:=33) rfl ?_);refine goesL_ (some 10) rfl rfl Try.func33 (by kernel_rfl) rfl #[.agg #[.int .i64 Qi,.int .i64 Qo,.int .i64 Qh,.int .i64 Ql,.int .i64 Qk,.int .i64 Qm,.int .i64 Qp,.int .i64 Qn,.int .i64 Qq,.int .i64 Qj,.int .i64 Qc,.int .i64 Qg,.int .i64 Qb,.int .i64 Qa,.int .i64 Qe,.int .i64 Qd]] rfl (by (try simp only [List.map_toArray,List.map_cons,List.map_nil]);first|done|rfl|(simp only [List.length_drop,List.length_take];rfl)) ?_;(with_reducible refine (vespersref07_first.calls k Qi Qo Qh Ql Qk Qm Qp Qn Qq Qj Qc Qg Qb Qa Qe Qd QN _ A2.out).mono ?_);rintro e w11 ⟨rfl,hb⟩;refine ⟨_,rfl,?_⟩;have n0_:=Aside0.mk (blk_below (g:=Qx) (o:=.cells #[.int .i64 Qi,.int .i64 Qo,.int .i64 Qh,.int .i64 Ql,.int .i64 Qk,.int .i64 Qm,.int .i64 Qp,.int .i64 Qn,.int .i64 Qq,.int .i64 Qj,.int .i64 Qc,.int .i64 Qg,.int .i64 Qb,.int .i64 Qa,.int .i64 Qe,.int .i64 Qd] 23 (0,0)) (by (with_reducible repeat (first|refine blk_drewN ?_ _|refine blk_drew ?_|refine blk_alloc ?_ _));exact Qf.out) hb);have n1_:=Aside0.mk (below_step (by repeat (first|(with_reducible first|exact HB.out|apply below_alloc|apply pw_below_drewN|apply below_drew1|refine below_set ?_ QI.out)|exact HB.out)) hb);clear Qf;clear HB;have Qf:=n0_;have HB:=n1_;clear n0_ n1_;(try clear hb);(try clear hb2);(try clear hk);(try clear hi);obtain ⟨hcz12_0,hcz12_1,hcz12_2,hcz12_3,hcz12_4,hcz12_5,hcz12_6,hcz12_7,hcz12_8,hcz12_9,hcz12_10,hcz12_11,hcz12_12,hcz12_13,hcz12_14,hcz12_15⟩:=bc16_ (w:=w11) (g:=Qx) (.int .i64 Qi) (.int .i64 Qo) (.int .i64 Qh) (.int .i64 Ql) (.int .i64 Qk) (.int .i64 Qm) (.int .i64 Qp) (.int .i64 Qn) (.int .i64 Qq) (.int .i64 Qj) (.int .i64 Qc) (.int .i64 Qg) (.int .i64 Qb) (.int .i64 Qa) (.int .i64 Qe) (.int .i64 Qd) Qf.out;obtain ⟨hfz12_0,hfz12_1,hfz12_2,hfz12_3,hfz12_4,hfz12_5,hfz12_6,hfz12_7,hfz12_8,hfz12_9,hfz12_10,hfz12_11,hfz12_12,hfz12_13,hfz12_14,hfz12_15⟩:=bf16_ Qf.out)|((with_reducible refine gate_callee (f:=34) rfl ?_);refine goesL_ (some 16) rfl rfl Try.func34 (by kernel_rfl) rfl #[.agg #[.int .i64 Qi,.int .i64 Qo,.int .i64 Qh,.int .i64 Ql,.int .i64 Qk,.int .i64 Qm,.int .i64 Qp,.int .i64 Qn,.int .i64 Qq,.int .i64 Qj,.int .i64 Qc,.int .i64 Qg,.int .i64 Qb,.int .i64 Qa,.int .i64 Qe,.int .i64 Qd]] rfl (by (try simp only [List.map_toArray,List.map_cons,List.map_nil]);first|done|rfl|(simp only [List.length_drop,List.length_take];rfl)) ?_;(with_reducible refine (vespersref07_numbers.calls Qi Qo Qh Ql Qk Qm Qp Qn Qq Qj Qc Qg Qb Qa Qe Qd QK QL QM _ A7.out).mono ?_);rintro e w13 ⟨rfl,hb⟩;refine ⟨_,rfl,?_⟩;have n0_:=Aside0.mk (blk_below (g:=Qx) (o:=.cells #[.int .i64 Qi,.int .i64 Qo,.int .i64 Qh,.int .i64 Ql,.int .i64 Qk,.int .i64 Qm,.int .i64 Qp,.int .i64 Qn,.int .i64 Qq,.int .i64 Qj,.int .i64 Qc,.int .i64 Qg,.int .i64 Qb,.int .i64 Qa,.int .i64 Qe,.int .i64 Qd] 23 (0,0)) (by (with_reducible repeat (first|refine blk_drewN ?_ _|refine blk_drew ?_|refine blk_alloc ?_ _));exact Qf.out) hb);have n1_:=Aside0.mk (below_step (by repeat (first|(with_reducible first|exact HB.out|apply below_alloc|apply pw_below_drewN|apply below_drew1|refine below_set ?_ QI.out)|exact HB.out)) hb);clear Qf;clear HB;have Qf:=n0_;have HB:=n1_;clear n0_ n1_;(try clear hb);(try clear hb2);(try clear hk);(try clear hi);obtain ⟨hcz14_0,hcz14_1,hcz14_2,hcz14_3,hcz14_4,hcz14_5,hcz14_6,hcz14_7,hcz14_8,hcz14_9,hcz14_10,hcz14_11,hcz14_12,hcz14_13,hcz14_14,hcz14_15⟩:=bc16_ (w:=w13) (g:=Qx) (.int .i64 Qi) (.int .i64 Qo) (.int .i64 Qh) (.int .i64 Ql) (.int .i64 Qk) (.int .i64 Qm) (.int .i64 Qp) (.int .i64 Qn) (.int .i64 Qq) (.int .i64 Qj) (.int .i64 Qc) (.int .i64 Qg) (.int .i64 Qb) (.int .i64 Qa) (.int .i64 Qe) (.int .i64 Qd) Qf.out;obtain ⟨hfz14_0,hfz14_1,hfz14_2,hfz14_3,hfz14_4,hfz14_5,hfz14_6,hfz14_7,hfz14_8,hfz14_9,hfz14_10,hfz14_11,hfz14_12,hfz14_13,hfz14_14,hfz14_15⟩:=bf16_ Qf.out))
  (try simp only [Act.put,List.setIfInBounds_toArray,List.set_cons_zero,List.set_cons_succ])
  go_cut [38] (fun v38 wc=>∃ (kq : Nat) (x38_7 : Bool),v38 = .bool x38_7∧Aside0 (vespersref07_Fails.j0 kq QK QL QM (wrap64 (Qi * Qh)) x38_7 Qi Qo Qh Ql Qk Qm Qp Qn Qq Qj Qc Qg Qb Qa Qe Qd = some r)∧Aside0 (kq ≤ k)∧Aside0 (wc.heap[Qx]? = some (.cells #[.int .i64 Qi,.int .i64 Qo,.int .i64 Qh,.int .i64 Ql,.int .i64 Qk,.int .i64 Qm,.int .i64 Qp,.int .i64 Qn,.int .i64 Qq,.int .i64 Qj,.int .i64 Qc,.int .i64 Qg,.int .i64 Qb,.int .i64 Qa,.int .i64 Qe,.int .i64 Qd] 23 (0,0)))∧Aside0 (Below w.heap.size w wc))
  case first=>as_aux_lemma =>
   have H:=HC8.out
   clear HC8
   by_cases c15 : Qj < (wrap64 ((wrap64 (2 * (wrap64 (QM + QL)))) + QK))
   ·rw [if_pos c15] at H
    have c15b0 : decide (Qj < (wrap64 ((wrap64 (2 * (wrap64 (QM + QL)))) + QK))) = true:=decide_eq_true c15
    clear c15
    (first|rw [c15b0]|(simp only [i64_w,i32_w];rw [c15b0])|skip)
    have H':=Aside0.mk H
    clear H
    obtain ⟨hcz16_0,hcz16_1,hcz16_2,hcz16_3,hcz16_4,hcz16_5,hcz16_6,hcz16_7,hcz16_8,hcz16_9,hcz16_10,hcz16_11,hcz16_12,hcz16_13,hcz16_14,hcz16_15⟩:=bc16_ (w:=w13) (g:=Qx) (.int .i64 Qi) (.int .i64 Qo) (.int .i64 Qh) (.int .i64 Ql) (.int .i64 Qk) (.int .i64 Qm) (.int .i64 Qp) (.int .i64 Qn) (.int .i64 Qq) (.int .i64 Qj) (.int .i64 Qc) (.int .i64 Qg) (.int .i64 Qb) (.int .i64 Qa) (.int .i64 Qe) (.int .i64 Qd) Qf.out
    obtain ⟨hfz16_0,hfz16_1,hfz16_2,hfz16_3,hfz16_4,hfz16_5,hfz16_6,hfz16_7,hfz16_8,hfz16_9,hfz16_10,hfz16_11,hfz16_12,hfz16_13,hfz16_14,hfz16_15⟩:=bf16_ Qf.out
    go_wp2
    go_meet
    case rel=>exact ⟨_,(true),(by first|rfl|(simp;done)|(simp [*];done)),H',⟨by first|omega|exact Nat.le_refl _⟩,⟨by (with_reducible repeat (first|refine blk_drewN ?_ _|refine blk_drew ?_|refine blk_alloc ?_ _));exact Qf.out⟩,⟨by repeat (first|(with_reducible first|exact HB.out|apply below_alloc|apply pw_below_drewN|apply below_drew1|refine below_set ?_ QI.out)|exact HB.out)⟩⟩
   ·rw [if_neg c15] at H
    have c15b0 : decide (Qj < (wrap64 ((wrap64 (2 * (wrap64 (QM + QL)))) + QK))) = false:=decide_eq_false c15
    clear c15
    (first|rw [c15b0]|(simp only [i64_w,i32_w];rw [c15b0])|skip)
    have H':=Aside0.mk H
    clear H
    obtain ⟨hcz17_0,hcz17_1,hcz17_2,hcz17_3,hcz17_4,hcz17_5,hcz17_6,hcz17_7,hcz17_8,hcz17_9,hcz17_10,hcz17_11,hcz17_12,hcz17_13,hcz17_14,hcz17_15⟩:=bc16_ (w:=w13) (g:=Qx) (.int .i64 Qi) (.int .i64 Qo) (.int .i64 Qh) (.int .i64 Ql) (.int .i64 Qk) (.int .i64 Qm) (.int .i64 Qp) (.int .i64 Qn) (.int .i64 Qq) (.int .i64 Qj) (.int .i64 Qc) (.int .i64 Qg) (.int .i64 Qb) (.int .i64 Qa) (.int .i64 Qe) (.int .i64 Qd) Qf.out
    obtain ⟨hfz17_0,hfz17_1,hfz17_2,hfz17_3,hfz17_4,hfz17_5,hfz17_6,hfz17_7,hfz17_8,hfz17_9,hfz17_10,hfz17_11,hfz17_12,hfz17_13,hfz17_14,hfz17_15⟩:=bf16_ Qf.out
    go_wp2
    go_meet
    case rel=>exact ⟨_,(decide (Qj > 1048576)),(by first|rfl|(simp;done)|(simp [*];done)),H',⟨by first|omega|exact Nat.le_refl _⟩,⟨by (with_reducible repeat (first|refine blk_drewN ?_ _|refine blk_drew ?_|refine blk_alloc ?_ _));exact Qf.out⟩,⟨by repeat (first|(with_reducible first|exact HB.out|apply below_alloc|apply pw_below_drewN|apply below_drew1|refine below_set ?_ QI.out)|exact HB.out)⟩⟩
  case rest=>as_aux_lemma =>
   clear HC8
   try clear c1
   try clear c2
   try clear p2
   try clear c3
   try clear c3b0
   try clear p6
   try clear c15
   try clear c15b0
   try clear hcz10_0
   try clear hcz10_1
   try clear hcz10_10
   try clear hcz10_11
   try clear hcz10_12
   try clear hcz10_13
   try clear hcz10_14
   try clear hcz10_15
   try clear hcz10_2
   try clear hcz10_3
   try clear hcz10_4
   try clear hcz10_5
   try clear hcz10_6
   try clear hcz10_7
   try clear hcz10_8
   try clear hcz10_9
   try clear hcz12_0
   try clear hcz12_1
   try clear hcz12_10
   try clear hcz12_11
   try clear hcz12_12
   try clear hcz12_13
   try clear hcz12_14
   try clear hcz12_15
   try clear hcz12_2
   try clear hcz12_3
   try clear hcz12_4
   try clear hcz12_5
   try clear hcz12_6
   try clear hcz12_7
   try clear hcz12_8
   try clear hcz12_9
   try clear hcz14_0
   try clear hcz14_1
   try clear hcz14_10
   try clear hcz14_11
   try clear hcz14_12
   try clear hcz14_13
   try clear hcz14_14
   try clear hcz14_15
   try clear hcz14_2
   try clear hcz14_3
   try clear hcz14_4
   try clear hcz14_5
   try clear hcz14_6
   try clear hcz14_7
   try clear hcz14_8
   try clear hcz14_9
   try clear hcz16_0
   try clear hcz16_1
   try clear hcz16_10
   try clear hcz16_11
   try clear hcz16_12
   try clear hcz16_13
   try clear hcz16_14
   try clear hcz16_15
   try clear hcz16_2
   try clear hcz16_3
   try clear hcz16_4
   try clear hcz16_5
   try clear hcz16_6
   try clear hcz16_7
   try clear hcz16_8
   try clear hcz16_9
   try clear hcz17_0
   try clear hcz17_1
   try clear hcz17_10
   try clear hcz17_11
   try clear hcz17_12
   try clear hcz17_13
   try clear hcz17_14
   try clear hcz17_15
   try clear hcz17_2
   try clear hcz17_3
   try clear hcz17_4
   try clear hcz17_5
   try clear hcz17_6
   try clear hcz17_7
   try clear hcz17_8
   try clear hcz17_9
   try clear hcz5_0
   try clear hcz5_1
   try clear hcz5_10
   try clear hcz5_11
   try clear hcz5_12
   try clear hcz5_13
   try clear hcz5_14
   try clear hcz5_15
   try clear hcz5_2
   try clear hcz5_3
   try clear hcz5_4
   try clear hcz5_5
   try clear hcz5_6
   try clear hcz5_7
   try clear hcz5_8
   try clear hcz5_9
   try clear hfz10_0
   try clear hfz10_1
   try clear hfz10_10
   try clear hfz10_11
   try clear hfz10_12
   try clear hfz10_13
   try clear hfz10_14
   try clear hfz10_15
   try clear hfz10_2
   try clear hfz10_3
   try clear hfz10_4
   try clear hfz10_5
   try clear hfz10_6
   try clear hfz10_7
   try clear hfz10_8
   try clear hfz10_9
   try clear hfz12_0
   try clear hfz12_1
   try clear hfz12_10
   try clear hfz12_11
   try clear hfz12_12
   try clear hfz12_13
   try clear hfz12_14
   try clear hfz12_15
   try clear hfz12_2
   try clear hfz12_3
   try clear hfz12_4
   try clear hfz12_5
   try clear hfz12_6
   try clear hfz12_7
   try clear hfz12_8
   try clear hfz12_9
   try clear hfz14_0
   try clear hfz14_1
   try clear hfz14_10
   try clear hfz14_11
   try clear hfz14_12
   try clear hfz14_13
   try clear hfz14_14
   try clear hfz14_15
   try clear hfz14_2
   try clear hfz14_3
   try clear hfz14_4
   try clear hfz14_5
   try clear hfz14_6
   try clear hfz14_7
   try clear hfz14_8
   try clear hfz14_9
   try clear hfz16_0
   try clear hfz16_1
   try clear hfz16_10
   try clear hfz16_11
   try clear hfz16_12
   try clear hfz16_13
   try clear hfz16_14
   try clear hfz16_15
   try clear hfz16_2
   try clear hfz16_3
   try clear hfz16_4
   try clear hfz16_5
   try clear hfz16_6
   try clear hfz16_7
   try clear hfz16_8
   try clear hfz16_9
   try clear hfz17_0
   try clear hfz17_1
   try clear hfz17_10
   try clear hfz17_11
   try clear hfz17_12
   try clear hfz17_13
   try clear hfz17_14
   try clear hfz17_15
   try clear hfz17_2
   try clear hfz17_3
   try clear hfz17_4
   try clear hfz17_5
   try clear hfz17_6
   try clear hfz17_7
   try clear hfz17_8
   try clear hfz17_9
   try clear hfz5_0
   try clear hfz5_1
   try clear hfz5_10
   try clear hfz5_11
   try clear hfz5_12
   try clear hfz5_13
   try clear hfz5_14
   try clear hfz5_15
   try clear hfz5_2
   try clear hfz5_3
   try clear hfz5_4
   try clear hfz5_5
   try clear hfz5_6
   try clear hfz5_7
   try clear hfz5_8
   try clear hfz5_9
   obtain ⟨kq,x38_7,rfl,HA,HJ7,Qf,HB⟩:=hcut
   cases kq with
   | zero=>exact absurd HA.out (by simp [vespersref07_Fails.j0])
   | succ kj7 =>
    have H:=HA.out
    clear HA
    simp only [vespersref07_Fails.j0] at H
    by_cases c18 : x38_7 = true
    ·subst c18
     have H1 : (some 4) = some r:=by rw [if_pos rfl] at H;exact H
     clear H
     have H:=H1
     clear H1
     obtain rfl:=Option.some.inj H
     go_wp2
     go_ret
     exact ⟨by first|rfl|(simp [errW_none,errW_some] <;> rfl)|(simp [*,errW_none,errW_some] <;> rfl),by repeat (first|(with_reducible first|exact HB.out|apply below_alloc|apply pw_below_drewN|apply below_drew1|refine below_set ?_ QI.out)|exact HB.out)⟩
    ·replace c18:=Bool.eq_false_iff.mpr c18
     subst c18
     have H1 : (if Qk < (wrap64 (Qj + QK)) then (vespersref07_Fails.j1 kj7 QK QL QM (wrap64 (Qi * Qh)) true Qi Qo Qh Ql Qk Qm Qp Qn Qq Qj Qc Qg Qb Qa Qe Qd) else (vespersref07_Fails.j1 kj7 QK QL QM (wrap64 (Qi * Qh)) (decide (Qk > 1048576)) Qi Qo Qh Ql Qk Qm Qp Qn Qq Qj Qc Qg Qb Qa Qe Qd)) = some r:=by rw [if_neg (show ¬ (false = true) by decide)] at H;exact H
     clear H
     have H:=H1
     clear H1
     have HC19:=Aside0.mk H
     clear H
     go_upto_region 8 with (fail)
     go_cut [50] (fun v50 wc=>∃ (kq : Nat) (QR : Bool),v50 = .bool QR∧Aside0 (vespersref07_Fails.j1 kq QK QL QM (wrap64 (Qi * Qh)) QR Qi Qo Qh Ql Qk Qm Qp Qn Qq Qj Qc Qg Qb Qa Qe Qd = some r)∧Aside0 (kq ≤ kj7)∧Aside0 (wc.heap[Qx]? = some (.cells #[.int .i64 Qi,.int .i64 Qo,.int .i64 Qh,.int .i64 Ql,.int .i64 Qk,.int .i64 Qm,.int .i64 Qp,.int .i64 Qn,.int .i64 Qq,.int .i64 Qj,.int .i64 Qc,.int .i64 Qg,.int .i64 Qb,.int .i64 Qa,.int .i64 Qe,.int .i64 Qd] 23 (0,0)))∧Aside0 (Below w.heap.size w wc))
     case first=>as_aux_lemma =>
      have H:=HC19.out
      clear HC19
      by_cases c20 : Qk < (wrap64 (Qj + QK))
      ·rw [if_pos c20] at H
       have c20b0 : decide (Qk < (wrap64 (Qj + QK))) = true:=decide_eq_true c20
       clear c20
       (first|rw [c20b0]|(simp only [i64_w,i32_w];rw [c20b0])|skip)
       have H':=Aside0.mk H
       clear H
       obtain ⟨hcz21_0,hcz21_1,hcz21_2,hcz21_3,hcz21_4,hcz21_5,hcz21_6,hcz21_7,hcz21_8,hcz21_9,hcz21_10,hcz21_11,hcz21_12,hcz21_13,hcz21_14,hcz21_15⟩:=bc16_ (w:=wc) (g:=Qx) (.int .i64 Qi) (.int .i64 Qo) (.int .i64 Qh) (.int .i64 Ql) (.int .i64 Qk) (.int .i64 Qm) (.int .i64 Qp) (.int .i64 Qn) (.int .i64 Qq) (.int .i64 Qj) (.int .i64 Qc) (.int .i64 Qg) (.int .i64 Qb) (.int .i64 Qa) (.int .i64 Qe) (.int .i64 Qd) Qf.out
       obtain ⟨hfz21_0,hfz21_1,hfz21_2,hfz21_3,hfz21_4,hfz21_5,hfz21_6,hfz21_7,hfz21_8,hfz21_9,hfz21_10,hfz21_11,hfz21_12,hfz21_13,hfz21_14,hfz21_15⟩:=bf16_ Qf.out
       go_wp2
       go_meet
       case rel=>exact ⟨_,(true),(by first|rfl|(simp;done)|(simp [*];done)),H',⟨by have:=HJ7.out;first|omega|exact Nat.le_refl _⟩,⟨by (with_reducible repeat (first|refine blk_drewN ?_ _|refine blk_drew ?_|refine blk_alloc ?_ _));exact Qf.out⟩,⟨by repeat (first|(with_reducible first|exact HB.out|apply below_alloc|apply pw_below_drewN|apply below_drew1|refine below_set ?_ QI.out)|exact HB.out)⟩⟩
      ·rw [if_neg c20] at H
       have c20b0 : decide (Qk < (wrap64 (Qj + QK))) = false:=decide_eq_false c20
       clear c20
       (first|rw [c20b0]|(simp only [i64_w,i32_w];rw [c20b0])|skip)
       have H':=Aside0.mk H
       clear H
       obtain ⟨hcz22_0,hcz22_1,hcz22_2,hcz22_3,hcz22_4,hcz22_5,hcz22_6,hcz22_7,hcz22_8,hcz22_9,hcz22_10,hcz22_11,hcz22_12,hcz22_13,hcz22_14,hcz22_15⟩:=bc16_ (w:=wc) (g:=Qx) (.int .i64 Qi) (.int .i64 Qo) (.int .i64 Qh) (.int .i64 Ql) (.int .i64 Qk) (.int .i64 Qm) (.int .i64 Qp) (.int .i64 Qn) (.int .i64 Qq) (.int .i64 Qj) (.int .i64 Qc) (.int .i64 Qg) (.int .i64 Qb) (.int .i64 Qa) (.int .i64 Qe) (.int .i64 Qd) Qf.out
       obtain ⟨hfz22_0,hfz22_1,hfz22_2,hfz22_3,hfz22_4,hfz22_5,hfz22_6,hfz22_7,hfz22_8,hfz22_9,hfz22_10,hfz22_11,hfz22_12,hfz22_13,hfz22_14,hfz22_15⟩:=bf16_ Qf.out
       go_wp2
       go_meet
       case rel=>exact ⟨_,(decide (Qk > 1048576)),(by first|rfl|(simp;done)|(simp [*];done)),H',⟨by have:=HJ7.out;first|omega|exact Nat.le_refl _⟩,⟨by (with_reducible repeat (first|refine blk_drewN ?_ _|refine blk_drew ?_|refine blk_alloc ?_ _));exact Qf.out⟩,⟨by repeat (first|(with_reducible first|exact HB.out|apply below_alloc|apply pw_below_drewN|apply below_drew1|refine below_set ?_ QI.out)|exact HB.out)⟩⟩
     case rest=>as_aux_lemma =>
      clear HC19
      try clear c1
      try clear c2
      try clear p2
      try clear c3
      try clear c3b0
      try clear p6
      try clear c15
      try clear c15b0
      try clear c18
      try clear c20
      try clear c20b0
      try clear hcz10_0
      try clear hcz10_1
      try clear hcz10_10
      try clear hcz10_11
      try clear hcz10_12
      try clear hcz10_13
      try clear hcz10_14
      try clear hcz10_15
      try clear hcz10_2
      try clear hcz10_3
      try clear hcz10_4
      try clear hcz10_5
      try clear hcz10_6
      try clear hcz10_7
      try clear hcz10_8
      try clear hcz10_9
      try clear hcz12_0
      try clear hcz12_1
      try clear hcz12_10
      try clear hcz12_11
      try clear hcz12_12
      try clear hcz12_13
      try clear hcz12_14
      try clear hcz12_15
      try clear hcz12_2
      try clear hcz12_3
      try clear hcz12_4
      try clear hcz12_5
      try clear hcz12_6
      try clear hcz12_7
      try clear hcz12_8
      try clear hcz12_9
      try clear hcz14_0
      try clear hcz14_1
      try clear hcz14_10
      try clear hcz14_11
      try clear hcz14_12
      try clear hcz14_13
      try clear hcz14_14
      try clear hcz14_15
      try clear hcz14_2
      try clear hcz14_3
      try clear hcz14_4
      try clear hcz14_5
      try clear hcz14_6
      try clear hcz14_7
      try clear hcz14_8
      try clear hcz14_9
      try clear hcz16_0
      try clear hcz16_1
      try clear hcz16_10
      try clear hcz16_11
      try clear hcz16_12
      try clear hcz16_13
      try clear hcz16_14
      try clear hcz16_15
      try clear hcz16_2
      try clear hcz16_3
      try clear hcz16_4
      try clear hcz16_5
      try clear hcz16_6
      try clear hcz16_7
      try clear hcz16_8
      try clear hcz16_9
      try clear hcz17_0
      try clear hcz17_1
      try clear hcz17_10
      try clear hcz17_11
      try clear hcz17_12
      try clear hcz17_13
      try clear hcz17_14
      try clear hcz17_15
      try clear hcz17_2
      try clear hcz17_3
      try clear hcz17_4
      try clear hcz17_5
      try clear hcz17_6
      try clear hcz17_7
      try clear hcz17_8
      try clear hcz17_9
      try clear hcz21_0
      try clear hcz21_1
      try clear hcz21_10
      try clear hcz21_11
      try clear hcz21_12
      try clear hcz21_13
      try clear hcz21_14
      try clear hcz21_15
      try clear hcz21_2
      try clear hcz21_3
      try clear hcz21_4
      try clear hcz21_5
      try clear hcz21_6
      try clear hcz21_7
      try clear hcz21_8
      try clear hcz21_9
      try clear hcz22_0
      try clear hcz22_1
      try clear hcz22_10
      try clear hcz22_11
      try clear hcz22_12
      try clear hcz22_13
      try clear hcz22_14
      try clear hcz22_15
      try clear hcz22_2
      try clear hcz22_3
      try clear hcz22_4
      try clear hcz22_5
      try clear hcz22_6
      try clear hcz22_7
      try clear hcz22_8
      try clear hcz22_9
      try clear hcz5_0
      try clear hcz5_1
      try clear hcz5_10
      try clear hcz5_11
      try clear hcz5_12
      try clear hcz5_13
      try clear hcz5_14
      try clear hcz5_15
      try clear hcz5_2
      try clear hcz5_3
      try clear hcz5_4
      try clear hcz5_5
      try clear hcz5_6
      try clear hcz5_7
      try clear hcz5_8
      try clear hcz5_9
      try clear hfz10_0
      try clear hfz10_1
      try clear hfz10_10
      try clear hfz10_11
      try clear hfz10_12
      try clear hfz10_13
      try clear hfz10_14
      try clear hfz10_15
      try clear hfz10_2
      try clear hfz10_3
      try clear hfz10_4
      try clear hfz10_5
      try clear hfz10_6
      try clear hfz10_7
      try clear hfz10_8
      try clear hfz10_9
      try clear hfz12_0
      try clear hfz12_1
      try clear hfz12_10
      try clear hfz12_11
      try clear hfz12_12
      try clear hfz12_13
      try clear hfz12_14
      try clear hfz12_15
      try clear hfz12_2
      try clear hfz12_3
      try clear hfz12_4
      try clear hfz12_5
      try clear hfz12_6
      try clear hfz12_7
      try clear hfz12_8
      try clear hfz12_9
      try clear hfz14_0
      try clear hfz14_1
      try clear hfz14_10
      try clear hfz14_11
      try clear hfz14_12
      try clear hfz14_13
      try clear hfz14_14
      try clear hfz14_15
      try clear hfz14_2
      try clear hfz14_3
      try clear hfz14_4
      try clear hfz14_5
      try clear hfz14_6
      try clear hfz14_7
      try clear hfz14_8
      try clear hfz14_9
      try clear hfz16_0
      try clear hfz16_1
      try clear hfz16_10
      try clear hfz16_11
      try clear hfz16_12
      try clear hfz16_13
      try clear hfz16_14
      try clear hfz16_15
      try clear hfz16_2
      try clear hfz16_3
      try clear hfz16_4
      try clear hfz16_5
      try clear hfz16_6
      try clear hfz16_7
      try clear hfz16_8
      try clear hfz16_9
      try clear hfz17_0
      try clear hfz17_1
      try clear hfz17_10
      try clear hfz17_11
      try clear hfz17_12
      try clear hfz17_13
      try clear hfz17_14
      try clear hfz17_15
      try clear hfz17_2
      try clear hfz17_3
      try clear hfz17_4
      try clear hfz17_5
      try clear hfz17_6
      try clear hfz17_7
      try clear hfz17_8
      try clear hfz17_9
      try clear hfz21_0
      try clear hfz21_1
      try clear hfz21_10
      try clear hfz21_11
      try clear hfz21_12
      try clear hfz21_13
      try clear hfz21_14
      try clear hfz21_15
      try clear hfz21_2
      try clear hfz21_3
      try clear hfz21_4
      try clear hfz21_5
      try clear hfz21_6
      try clear hfz21_7
      try clear hfz21_8
      try clear hfz21_9
      try clear hfz22_0
      try clear hfz22_1
      try clear hfz22_10
      try clear hfz22_11
      try clear hfz22_12
      try clear hfz22_13
      try clear hfz22_14
      try clear hfz22_15
      try clear hfz22_2
      try clear hfz22_3
      try clear hfz22_4
      try clear hfz22_5
      try clear hfz22_6
      try clear hfz22_7
      try clear hfz22_8
      try clear hfz22_9
      try clear hfz5_0
      try clear hfz5_1
      try clear hfz5_10
      try clear hfz5_11
      try clear hfz5_12
      try clear hfz5_13
      try clear hfz5_14
      try clear hfz5_15
      try clear hfz5_2
      try clear hfz5_3
      try clear hfz5_4
      try clear hfz5_5
      try clear hfz5_6
      try clear hfz5_7
      try clear hfz5_8
      try clear hfz5_9
      try clear p2
      try clear p6
      obtain ⟨kq,QR,rfl,HA,HJ18,Qf,HB⟩:=hcut
      cases kq with
      | zero=>exact absurd HA.out (by simp [vespersref07_Fails.j1])
      | succ kj18 =>
       have H:=HA.out
       clear HA
       simp only [vespersref07_Fails.j1] at H
       by_cases c23 : QR = true
       ·subst c23
        have H1 : (some 5) = some r:=by rw [if_pos rfl] at H;exact H
        clear H
        have H:=H1
        clear H1
        obtain rfl:=Option.some.inj H
        go_wp2
        go_ret
        exact ⟨by first|rfl|(simp [errW_none,errW_some] <;> rfl)|(simp [*,errW_none,errW_some] <;> rfl),by repeat (first|(with_reducible first|exact HB.out|apply below_alloc|apply pw_below_drewN|apply below_drew1|refine below_set ?_ QI.out)|exact HB.out)⟩
       ·replace c23:=Bool.eq_false_iff.mpr c23
        subst c23
        have H1 : (if Qc < (wrap64 ((wrap64 (QM + (wrap64 (2 * QL)))) + (wrap64 (2 * QK)))) then (vespersref07_Fails.j2 kj18 (wrap64 (Qi * Qh)) true Qi Qo Qh Ql Qk Qm Qp Qn Qq Qj Qc Qg Qb Qa Qe Qd) else (vespersref07_Fails.j2 kj18 (wrap64 (Qi * Qh)) (decide (Qc > 1048576)) Qi Qo Qh Ql Qk Qm Qp Qn Qq Qj Qc Qg Qb Qa Qe Qd)) = some r:=by rw [if_neg (show ¬ (false = true) by decide)] at H;exact H
        clear H
        have H:=H1
        clear H1
        have HC24:=Aside0.mk H
        clear H
        go_upto_region 10 with (fail)
        go_cut [65] (fun v65 wc=>∃ (kq : Nat) (QS : Bool),v65 = .bool QS∧Aside0 (vespersref07_Fails.j2 kq (wrap64 (Qi * Qh)) QS Qi Qo Qh Ql Qk Qm Qp Qn Qq Qj Qc Qg Qb Qa Qe Qd = some r)∧Aside0 (kq ≤ kj18)∧Aside0 (wc.heap[Qx]? = some (.cells #[.int .i64 Qi,.int .i64 Qo,.int .i64 Qh,.int .i64 Ql,.int .i64 Qk,.int .i64 Qm,.int .i64 Qp,.int .i64 Qn,.int .i64 Qq,.int .i64 Qj,.int .i64 Qc,.int .i64 Qg,.int .i64 Qb,.int .i64 Qa,.int .i64 Qe,.int .i64 Qd] 23 (0,0)))∧Aside0 (Below w.heap.size w wc))
        case first=>as_aux_lemma =>
         have H:=HC24.out
         clear HC24
         by_cases c25 : Qc < (wrap64 ((wrap64 (QM + (wrap64 (2 * QL)))) + (wrap64 (2 * QK))))
         ·rw [if_pos c25] at H
          have c25b0 : decide (Qc < (wrap64 ((wrap64 (QM + (wrap64 (2 * QL)))) + (wrap64 (2 * QK))))) = true:=decide_eq_true c25
          clear c25
          (first|rw [c25b0]|(simp only [i64_w,i32_w];rw [c25b0])|skip)
          have H':=Aside0.mk H
          clear H
          obtain ⟨hcz26_0,hcz26_1,hcz26_2,hcz26_3,hcz26_4,hcz26_5,hcz26_6,hcz26_7,hcz26_8,hcz26_9,hcz26_10,hcz26_11,hcz26_12,hcz26_13,hcz26_14,hcz26_15⟩:=bc16_ (w:=wc) (g:=Qx) (.int .i64 Qi) (.int .i64 Qo) (.int .i64 Qh) (.int .i64 Ql) (.int .i64 Qk) (.int .i64 Qm) (.int .i64 Qp) (.int .i64 Qn) (.int .i64 Qq) (.int .i64 Qj) (.int .i64 Qc) (.int .i64 Qg) (.int .i64 Qb) (.int .i64 Qa) (.int .i64 Qe) (.int .i64 Qd) Qf.out
          obtain ⟨hfz26_0,hfz26_1,hfz26_2,hfz26_3,hfz26_4,hfz26_5,hfz26_6,hfz26_7,hfz26_8,hfz26_9,hfz26_10,hfz26_11,hfz26_12,hfz26_13,hfz26_14,hfz26_15⟩:=bf16_ Qf.out
          go_wp2
          go_meet
          case rel=>exact ⟨_,(true),(by first|rfl|(simp;done)|(simp [*];done)),H',⟨by have:=HJ7.out;have:=HJ18.out;first|omega|exact Nat.le_refl _⟩,⟨by (with_reducible repeat (first|refine blk_drewN ?_ _|refine blk_drew ?_|refine blk_alloc ?_ _));exact Qf.out⟩,⟨by repeat (first|(with_reducible first|exact HB.out|apply below_alloc|apply pw_below_drewN|apply below_drew1|refine below_set ?_ QI.out)|exact HB.out)⟩⟩
         ·rw [if_neg c25] at H
          have c25b0 : decide (Qc < (wrap64 ((wrap64 (QM + (wrap64 (2 * QL)))) + (wrap64 (2 * QK))))) = false:=decide_eq_false c25
          clear c25
          (first|rw [c25b0]|(simp only [i64_w,i32_w];rw [c25b0])|skip)
          have H':=Aside0.mk H
          clear H
          obtain ⟨hcz27_0,hcz27_1,hcz27_2,hcz27_3,hcz27_4,hcz27_5,hcz27_6,hcz27_7,hcz27_8,hcz27_9,hcz27_10,hcz27_11,hcz27_12,hcz27_13,hcz27_14,hcz27_15⟩:=bc16_ (w:=wc) (g:=Qx) (.int .i64 Qi) (.int .i64 Qo) (.int .i64 Qh) (.int .i64 Ql) (.int .i64 Qk) (.int .i64 Qm) (.int .i64 Qp) (.int .i64 Qn) (.int .i64 Qq) (.int .i64 Qj) (.int .i64 Qc) (.int .i64 Qg) (.int .i64 Qb) (.int .i64 Qa) (.int .i64 Qe) (.int .i64 Qd) Qf.out
          obtain ⟨hfz27_0,hfz27_1,hfz27_2,hfz27_3,hfz27_4,hfz27_5,hfz27_6,hfz27_7,hfz27_8,hfz27_9,hfz27_10,hfz27_11,hfz27_12,hfz27_13,hfz27_14,hfz27_15⟩:=bf16_ Qf.out
          go_wp2
          go_meet
          case rel=>exact ⟨_,(decide (Qc > 1048576)),(by first|rfl|(simp;done)|(simp [*];done)),H',⟨by have:=HJ7.out;have:=HJ18.out;first|omega|exact Nat.le_refl _⟩,⟨by (with_reducible repeat (first|refine blk_drewN ?_ _|refine blk_drew ?_|refine blk_alloc ?_ _));exact Qf.out⟩,⟨by repeat (first|(with_reducible first|exact HB.out|apply below_alloc|apply pw_below_drewN|apply below_drew1|refine below_set ?_ QI.out)|exact HB.out)⟩⟩
        case rest=>as_aux_lemma =>
         clear HC24
         try clear c1
         try clear c2
         try clear p2
         try clear c3
         try clear c3b0
         try clear p6
         try clear c15
         try clear c15b0
         try clear c18
         try clear c20
         try clear c20b0
         try clear c23
         try clear c25
         try clear c25b0
         try clear hcz10_0
         try clear hcz10_1
         try clear hcz10_10
         try clear hcz10_11
         try clear hcz10_12
         try clear hcz10_13
         try clear hcz10_14
         try clear hcz10_15
         try clear hcz10_2
         try clear hcz10_3
         try clear hcz10_4
         try clear hcz10_5
         try clear hcz10_6
         try clear hcz10_7
         try clear hcz10_8
         try clear hcz10_9
         try clear hcz12_0
         try clear hcz12_1
         try clear hcz12_10
         try clear hcz12_11
         try clear hcz12_12
         try clear hcz12_13
         try clear hcz12_14
         try clear hcz12_15
         try clear hcz12_2
         try clear hcz12_3
         try clear hcz12_4
         try clear hcz12_5
         try clear hcz12_6
         try clear hcz12_7
         try clear hcz12_8
         try clear hcz12_9
         try clear hcz14_0
         try clear hcz14_1
         try clear hcz14_10
         try clear hcz14_11
         try clear hcz14_12
         try clear hcz14_13
         try clear hcz14_14
         try clear hcz14_15
         try clear hcz14_2
         try clear hcz14_3
         try clear hcz14_4
         try clear hcz14_5
         try clear hcz14_6
         try clear hcz14_7
         try clear hcz14_8
         try clear hcz14_9
         try clear hcz16_0
         try clear hcz16_1
         try clear hcz16_10
         try clear hcz16_11
         try clear hcz16_12
         try clear hcz16_13
         try clear hcz16_14
         try clear hcz16_15
         try clear hcz16_2
         try clear hcz16_3
         try clear hcz16_4
         try clear hcz16_5
         try clear hcz16_6
         try clear hcz16_7
         try clear hcz16_8
         try clear hcz16_9
         try clear hcz17_0
         try clear hcz17_1
         try clear hcz17_10
         try clear hcz17_11
         try clear hcz17_12
         try clear hcz17_13
         try clear hcz17_14
         try clear hcz17_15
         try clear hcz17_2
         try clear hcz17_3
         try clear hcz17_4
         try clear hcz17_5
         try clear hcz17_6
         try clear hcz17_7
         try clear hcz17_8
         try clear hcz17_9
         try clear hcz21_0
         try clear hcz21_1
         try clear hcz21_10
         try clear hcz21_11
         try clear hcz21_12
         try clear hcz21_13
         try clear hcz21_14
         try clear hcz21_15
         try clear hcz21_2
         try clear hcz21_3
         try clear hcz21_4
         try clear hcz21_5
         try clear hcz21_6
         try clear hcz21_7
         try clear hcz21_8
         try clear hcz21_9
         try clear hcz22_0
         try clear hcz22_1
         try clear hcz22_10
         try clear hcz22_11
         try clear hcz22_12
         try clear hcz22_13
         try clear hcz22_14
         try clear hcz22_15
         try clear hcz22_2
         try clear hcz22_3
         try clear hcz22_4
         try clear hcz22_5
         try clear hcz22_6
         try clear hcz22_7
         try clear hcz22_8
         try clear hcz22_9
         try clear hcz26_0
         try clear hcz26_1
         try clear hcz26_10
         try clear hcz26_11
         try clear hcz26_12
         try clear hcz26_13
         try clear hcz26_14
         try clear hcz26_15
         try clear hcz26_2
         try clear hcz26_3
         try clear hcz26_4
         try clear hcz26_5
         try clear hcz26_6
         try clear hcz26_7
         try clear hcz26_8
         try clear hcz26_9
         try clear hcz27_0
         try clear hcz27_1
         try clear hcz27_10
         try clear hcz27_11
         try clear hcz27_12
         try clear hcz27_13
         try clear hcz27_14
         try clear hcz27_15
         try clear hcz27_2
         try clear hcz27_3
         try clear hcz27_4
         try clear hcz27_5
         try clear hcz27_6
         try clear hcz27_7
         try clear hcz27_8
         try clear hcz27_9
         try clear hcz5_0
         try clear hcz5_1
         try clear hcz5_10
         try clear hcz5_11
         try clear hcz5_12
         try clear hcz5_13
         try clear hcz5_14
         try clear hcz5_15
         try clear hcz5_2
         try clear hcz5_3
         try clear hcz5_4
         try clear hcz5_5
         try clear hcz5_6
         try clear hcz5_7
         try clear hcz5_8
         try clear hcz5_9
         try clear hfz10_0
         try clear hfz10_1
         try clear hfz10_10
         try clear hfz10_11
         try clear hfz10_12
         try clear hfz10_13
         try clear hfz10_14
         try clear hfz10_15
         try clear hfz10_2
         try clear hfz10_3
         try clear hfz10_4
         try clear hfz10_5
         try clear hfz10_6
         try clear hfz10_7
         try clear hfz10_8
         try clear hfz10_9
         try clear hfz12_0
         try clear hfz12_1
         try clear hfz12_10
         try clear hfz12_11
         try clear hfz12_12
         try clear hfz12_13
         try clear hfz12_14
         try clear hfz12_15
         try clear hfz12_2
         try clear hfz12_3
         try clear hfz12_4
         try clear hfz12_5
         try clear hfz12_6
         try clear hfz12_7
         try clear hfz12_8
         try clear hfz12_9
         try clear hfz14_0
         try clear hfz14_1
         try clear hfz14_10
         try clear hfz14_11
         try clear hfz14_12
         try clear hfz14_13
         try clear hfz14_14
         try clear hfz14_15
         try clear hfz14_2
         try clear hfz14_3
         try clear hfz14_4
         try clear hfz14_5
         try clear hfz14_6
         try clear hfz14_7
         try clear hfz14_8
         try clear hfz14_9
         try clear hfz16_0
         try clear hfz16_1
         try clear hfz16_10
         try clear hfz16_11
         try clear hfz16_12
         try clear hfz16_13
         try clear hfz16_14
         try clear hfz16_15
         try clear hfz16_2
         try clear hfz16_3
         try clear hfz16_4
         try clear hfz16_5
         try clear hfz16_6
         try clear hfz16_7
         try clear hfz16_8
         try clear hfz16_9
         try clear hfz17_0
         try clear hfz17_1
         try clear hfz17_10
         try clear hfz17_11
         try clear hfz17_12
         try clear hfz17_13
         try clear hfz17_14
         try clear hfz17_15
         try clear hfz17_2
         try clear hfz17_3
         try clear hfz17_4
         try clear hfz17_5
         try clear hfz17_6
         try clear hfz17_7
         try clear hfz17_8
         try clear hfz17_9
         try clear hfz21_0
         try clear hfz21_1
         try clear hfz21_10
         try clear hfz21_11
         try clear hfz21_12
         try clear hfz21_13
         try clear hfz21_14
         try clear hfz21_15
         try clear hfz21_2
         try clear hfz21_3
         try clear hfz21_4
         try clear hfz21_5
         try clear hfz21_6
         try clear hfz21_7
         try clear hfz21_8
         try clear hfz21_9
         try clear hfz22_0
         try clear hfz22_1
         try clear hfz22_10
         try clear hfz22_11
         try clear hfz22_12
         try clear hfz22_13
         try clear hfz22_14
         try clear hfz22_15
         try clear hfz22_2
         try clear hfz22_3
         try clear hfz22_4
         try clear hfz22_5
         try clear hfz22_6
         try clear hfz22_7
         try clear hfz22_8
         try clear hfz22_9
         try clear hfz26_0
         try clear hfz26_1
         try clear hfz26_10
         try clear hfz26_11
         try clear hfz26_12
         try clear hfz26_13
         try clear hfz26_14
         try clear hfz26_15
         try clear hfz26_2
         try clear hfz26_3
         try clear hfz26_4
         try clear hfz26_5
         try clear hfz26_6
         try clear hfz26_7
         try clear hfz26_8
         try clear hfz26_9
         try clear hfz27_0
         try clear hfz27_1
         try clear hfz27_10
         try clear hfz27_11
         try clear hfz27_12
         try clear hfz27_13
         try clear hfz27_14
         try clear hfz27_15
         try clear hfz27_2
         try clear hfz27_3
         try clear hfz27_4
         try clear hfz27_5
         try clear hfz27_6
         try clear hfz27_7
         try clear hfz27_8
         try clear hfz27_9
         try clear hfz5_0
         try clear hfz5_1
         try clear hfz5_10
         try clear hfz5_11
         try clear hfz5_12
         try clear hfz5_13
         try clear hfz5_14
         try clear hfz5_15
         try clear hfz5_2
         try clear hfz5_3
         try clear hfz5_4
         try clear hfz5_5
         try clear hfz5_6
         try clear hfz5_7
         try clear hfz5_8
         try clear hfz5_9
         try clear p2
         try clear p6
         obtain ⟨kq,QS,rfl,HA,HJ23,Qf,HB⟩:=hcut
         cases kq with
         | zero=>exact absurd HA.out (by simp [vespersref07_Fails.j2])
         | succ kj23 =>
          have H:=HA.out
          clear HA
          simp only [vespersref07_Fails.j2] at H
          by_cases c28 : QS = true
          ·subst c28
           have H1 : (some 6) = some r:=by rw [if_pos rfl] at H;exact H
           clear H
           have H:=H1
           clear H1
           obtain rfl:=Option.some.inj H
           go_wp2
           go_ret
           exact ⟨by first|rfl|(simp [errW_none,errW_some] <;> rfl)|(simp [*,errW_none,errW_some] <;> rfl),by repeat (first|(with_reducible first|exact HB.out|apply below_alloc|apply pw_below_drewN|apply below_drew1|refine below_set ?_ QI.out)|exact HB.out)⟩
          ·replace c28:=Bool.eq_false_iff.mpr c28
           subst c28
           have H1 : (if Ql < (wrap64 ((wrap64 (Qk + Qc)) + Qj)) then (vespersref07_Fails.j3 kj23 (wrap64 (Qi * Qh)) true Qi Qo Qh Ql Qk Qm Qp Qn Qq Qj Qc Qg Qb Qa Qe Qd) else (vespersref07_Fails.j3 kj23 (wrap64 (Qi * Qh)) (decide (Ql > 1048576)) Qi Qo Qh Ql Qk Qm Qp Qn Qq Qj Qc Qg Qb Qa Qe Qd)) = some r:=by rw [if_neg (show ¬ (false = true) by decide)] at H;exact H
           clear H
           have H:=H1
           clear H1
           have HC29:=Aside0.mk H
           clear H
           go_upto_region 12 with (fail)
           go_cut [81] (fun v81 wc=>∃ (kq : Nat) (QT : Bool),v81 = .bool QT∧Aside0 (vespersref07_Fails.j3 kq (wrap64 (Qi * Qh)) QT Qi Qo Qh Ql Qk Qm Qp Qn Qq Qj Qc Qg Qb Qa Qe Qd = some r)∧Aside0 (kq ≤ kj23)∧Aside0 (wc.heap[Qx]? = some (.cells #[.int .i64 Qi,.int .i64 Qo,.int .i64 Qh,.int .i64 Ql,.int .i64 Qk,.int .i64 Qm,.int .i64 Qp,.int .i64 Qn,.int .i64 Qq,.int .i64 Qj,.int .i64 Qc,.int .i64 Qg,.int .i64 Qb,.int .i64 Qa,.int .i64 Qe,.int .i64 Qd] 23 (0,0)))∧Aside0 (Below w.heap.size w wc))
           case first=>as_aux_lemma =>
            have H:=HC29.out
            clear HC29
            by_cases c30 : Ql < (wrap64 ((wrap64 (Qk + Qc)) + Qj))
            ·rw [if_pos c30] at H
             have c30b0 : decide (Ql < (wrap64 ((wrap64 (Qk + Qc)) + Qj))) = true:=decide_eq_true c30
             clear c30
             (first|rw [c30b0]|(simp only [i64_w,i32_w];rw [c30b0])|skip)
             have H':=Aside0.mk H
             clear H
             obtain ⟨hcz31_0,hcz31_1,hcz31_2,hcz31_3,hcz31_4,hcz31_5,hcz31_6,hcz31_7,hcz31_8,hcz31_9,hcz31_10,hcz31_11,hcz31_12,hcz31_13,hcz31_14,hcz31_15⟩:=bc16_ (w:=wc) (g:=Qx) (.int .i64 Qi) (.int .i64 Qo) (.int .i64 Qh) (.int .i64 Ql) (.int .i64 Qk) (.int .i64 Qm) (.int .i64 Qp) (.int .i64 Qn) (.int .i64 Qq) (.int .i64 Qj) (.int .i64 Qc) (.int .i64 Qg) (.int .i64 Qb) (.int .i64 Qa) (.int .i64 Qe) (.int .i64 Qd) Qf.out
             obtain ⟨hfz31_0,hfz31_1,hfz31_2,hfz31_3,hfz31_4,hfz31_5,hfz31_6,hfz31_7,hfz31_8,hfz31_9,hfz31_10,hfz31_11,hfz31_12,hfz31_13,hfz31_14,hfz31_15⟩:=bf16_ Qf.out
             go_wp2
             go_meet
             case rel=>exact ⟨_,(true),(by first|rfl|(simp;done)|(simp [*];done)),H',⟨by have:=HJ7.out;have:=HJ18.out;have:=HJ23.out;first|omega|exact Nat.le_refl _⟩,⟨by (with_reducible repeat (first|refine blk_drewN ?_ _|refine blk_drew ?_|refine blk_alloc ?_ _));exact Qf.out⟩,⟨by repeat (first|(with_reducible first|exact HB.out|apply below_alloc|apply pw_below_drewN|apply below_drew1|refine below_set ?_ QI.out)|exact HB.out)⟩⟩
            ·rw [if_neg c30] at H
             have c30b0 : decide (Ql < (wrap64 ((wrap64 (Qk + Qc)) + Qj))) = false:=decide_eq_false c30
             clear c30
             (first|rw [c30b0]|(simp only [i64_w,i32_w];rw [c30b0])|skip)
             have H':=Aside0.mk H
             clear H
             obtain ⟨hcz32_0,hcz32_1,hcz32_2,hcz32_3,hcz32_4,hcz32_5,hcz32_6,hcz32_7,hcz32_8,hcz32_9,hcz32_10,hcz32_11,hcz32_12,hcz32_13,hcz32_14,hcz32_15⟩:=bc16_ (w:=wc) (g:=Qx) (.int .i64 Qi) (.int .i64 Qo) (.int .i64 Qh) (.int .i64 Ql) (.int .i64 Qk) (.int .i64 Qm) (.int .i64 Qp) (.int .i64 Qn) (.int .i64 Qq) (.int .i64 Qj) (.int .i64 Qc) (.int .i64 Qg) (.int .i64 Qb) (.int .i64 Qa) (.int .i64 Qe) (.int .i64 Qd) Qf.out
             obtain ⟨hfz32_0,hfz32_1,hfz32_2,hfz32_3,hfz32_4,hfz32_5,hfz32_6,hfz32_7,hfz32_8,hfz32_9,hfz32_10,hfz32_11,hfz32_12,hfz32_13,hfz32_14,hfz32_15⟩:=bf16_ Qf.out
             go_wp2
             go_meet
             case rel=>exact ⟨_,(decide (Ql > 1048576)),(by first|rfl|(simp;done)|(simp [*];done)),H',⟨by have:=HJ7.out;have:=HJ18.out;have:=HJ23.out;first|omega|exact Nat.le_refl _⟩,⟨by (with_reducible repeat (first|refine blk_drewN ?_ _|refine blk_drew ?_|refine blk_alloc ?_ _));exact Qf.out⟩,⟨by repeat (first|(with_reducible first|exact HB.out|apply below_alloc|apply pw_below_drewN|apply below_drew1|refine below_set ?_ QI.out)|exact HB.out)⟩⟩
           case rest=>as_aux_lemma =>
            clear HC29
            try clear c1
            try clear c2
            try clear p2
            try clear c3
            try clear c3b0
            try clear p6
            try clear c15
            try clear c15b0
            try clear c18
            try clear c20
            try clear c20b0
            try clear c23
            try clear c25
            try clear c25b0
            try clear c28
            try clear c30
            try clear c30b0
            try clear hcz10_0
            try clear hcz10_1
            try clear hcz10_10
            try clear hcz10_11
            try clear hcz10_12
            try clear hcz10_13
            try clear hcz10_14
            try clear hcz10_15
            try clear hcz10_2
            try clear hcz10_3
            try clear hcz10_4
            try clear hcz10_5
            try clear hcz10_6
            try clear hcz10_7
            try clear hcz10_8
            try clear hcz10_9
            try clear hcz12_0
            try clear hcz12_1
            try clear hcz12_10
            try clear hcz12_11
            try clear hcz12_12
            try clear hcz12_13
            try clear hcz12_14
            try clear hcz12_15
            try clear hcz12_2
            try clear hcz12_3
            try clear hcz12_4
            try clear hcz12_5
            try clear hcz12_6
            try clear hcz12_7
            try clear hcz12_8
            try clear hcz12_9
            try clear hcz14_0
            try clear hcz14_1
            try clear hcz14_10
            try clear hcz14_11
            try clear hcz14_12
            try clear hcz14_13
            try clear hcz14_14
            try clear hcz14_15
            try clear hcz14_2
            try clear hcz14_3
            try clear hcz14_4
            try clear hcz14_5
            try clear hcz14_6
            try clear hcz14_7
            try clear hcz14_8
            try clear hcz14_9
            try clear hcz16_0
            try clear hcz16_1
            try clear hcz16_10
            try clear hcz16_11
            try clear hcz16_12
            try clear hcz16_13
            try clear hcz16_14
            try clear hcz16_15
            try clear hcz16_2
            try clear hcz16_3
            try clear hcz16_4
            try clear hcz16_5
            try clear hcz16_6
            try clear hcz16_7
            try clear hcz16_8
            try clear hcz16_9
            try clear hcz17_0
            try clear hcz17_1
            try clear hcz17_10
            try clear hcz17_11
            try clear hcz17_12
            try clear hcz17_13
            try clear hcz17_14
            try clear hcz17_15
            try clear hcz17_2
            try clear hcz17_3
            try clear hcz17_4
            try clear hcz17_5
            try clear hcz17_6
            try clear hcz17_7
            try clear hcz17_8
            try clear hcz17_9
            try clear hcz21_0
            try clear hcz21_1
            try clear hcz21_10
            try clear hcz21_11
            try clear hcz21_12
            try clear hcz21_13
            try clear hcz21_14
            try clear hcz21_15
            try clear hcz21_2
            try clear hcz21_3
            try clear hcz21_4
            try clear hcz21_5
            try clear hcz21_6
            try clear hcz21_7
            try clear hcz21_8
            try clear hcz21_9
            try clear hcz22_0
            try clear hcz22_1
            try clear hcz22_10
            try clear hcz22_11
            try clear hcz22_12
            try clear hcz22_13
            try clear hcz22_14
            try clear hcz22_15
            try clear hcz22_2
            try clear hcz22_3
            try clear hcz22_4
            try clear hcz22_5
            try clear hcz22_6
            try clear hcz22_7
            try clear hcz22_8
            try clear hcz22_9
            try clear hcz26_0
            try clear hcz26_1
            try clear hcz26_10
            try clear hcz26_11
            try clear hcz26_12
            try clear hcz26_13
            try clear hcz26_14
            try clear hcz26_15
            try clear hcz26_2
            try clear hcz26_3
            try clear hcz26_4
            try clear hcz26_5
            try clear hcz26_6
            try clear hcz26_7
            try clear hcz26_8
            try clear hcz26_9
            try clear hcz27_0
            try clear hcz27_1
            try clear hcz27_10
            try clear hcz27_11
            try clear hcz27_12
            try clear hcz27_13
            try clear hcz27_14
            try clear hcz27_15
            try clear hcz27_2
            try clear hcz27_3
            try clear hcz27_4
            try clear hcz27_5
            try clear hcz27_6
            try clear hcz27_7
            try clear hcz27_8
            try clear hcz27_9
            try clear hcz31_0
            try clear hcz31_1
            try clear hcz31_10
            try clear hcz31_11
            try clear hcz31_12
            try clear hcz31_13
            try clear hcz31_14
            try clear hcz31_15
            try clear hcz31_2
            try clear hcz31_3
            try clear hcz31_4
            try clear hcz31_5
            try clear hcz31_6
            try clear hcz31_7
            try clear hcz31_8
            try clear hcz31_9
            try clear hcz32_0
            try clear hcz32_1
            try clear hcz32_10
            try clear hcz32_11
            try clear hcz32_12
            try clear hcz32_13
            try clear hcz32_14
            try clear hcz32_15
            try clear hcz32_2
            try clear hcz32_3
            try clear hcz32_4
            try clear hcz32_5
            try clear hcz32_6
            try clear hcz32_7
            try clear hcz32_8
            try clear hcz32_9
            try clear hcz5_0
            try clear hcz5_1
            try clear hcz5_10
            try clear hcz5_11
            try clear hcz5_12
            try clear hcz5_13
            try clear hcz5_14
            try clear hcz5_15
            try clear hcz5_2
            try clear hcz5_3
            try clear hcz5_4
            try clear hcz5_5
            try clear hcz5_6
            try clear hcz5_7
            try clear hcz5_8
            try clear hcz5_9
            try clear hfz10_0
            try clear hfz10_1
            try clear hfz10_10
            try clear hfz10_11
            try clear hfz10_12
            try clear hfz10_13
            try clear hfz10_14
            try clear hfz10_15
            try clear hfz10_2
            try clear hfz10_3
            try clear hfz10_4
            try clear hfz10_5
            try clear hfz10_6
            try clear hfz10_7
            try clear hfz10_8
            try clear hfz10_9
            try clear hfz12_0
            try clear hfz12_1
            try clear hfz12_10
            try clear hfz12_11
            try clear hfz12_12
            try clear hfz12_13
            try clear hfz12_14
            try clear hfz12_15
            try clear hfz12_2
            try clear hfz12_3
            try clear hfz12_4
            try clear hfz12_5
            try clear hfz12_6
            try clear hfz12_7
            try clear hfz12_8
            try clear hfz12_9
            try clear hfz14_0
            try clear hfz14_1
            try clear hfz14_10
            try clear hfz14_11
            try clear hfz14_12
            try clear hfz14_13
            try clear hfz14_14
            try clear hfz14_15
            try clear hfz14_2
            try clear hfz14_3
            try clear hfz14_4
            try clear hfz14_5
            try clear hfz14_6
            try clear hfz14_7
            try clear hfz14_8
            try clear hfz14_9
            try clear hfz16_0
            try clear hfz16_1
            try clear hfz16_10
            try clear hfz16_11
            try clear hfz16_12
            try clear hfz16_13
            try clear hfz16_14
            try clear hfz16_15
            try clear hfz16_2
            try clear hfz16_3
            try clear hfz16_4
            try clear hfz16_5
            try clear hfz16_6
            try clear hfz16_7
            try clear hfz16_8
            try clear hfz16_9
            try clear hfz17_0
            try clear hfz17_1
            try clear hfz17_10
            try clear hfz17_11
            try clear hfz17_12
            try clear hfz17_13
            try clear hfz17_14
            try clear hfz17_15
            try clear hfz17_2
            try clear hfz17_3
            try clear hfz17_4
            try clear hfz17_5
            try clear hfz17_6
            try clear hfz17_7
            try clear hfz17_8
            try clear hfz17_9
            try clear hfz21_0
            try clear hfz21_1
            try clear hfz21_10
            try clear hfz21_11
            try clear hfz21_12
            try clear hfz21_13
            try clear hfz21_14
            try clear hfz21_15
            try clear hfz21_2
            try clear hfz21_3
            try clear hfz21_4
            try clear hfz21_5
            try clear hfz21_6
            try clear hfz21_7
            try clear hfz21_8
            try clear hfz21_9
            try clear hfz22_0
            try clear hfz22_1
            try clear hfz22_10
            try clear hfz22_11
            try clear hfz22_12
            try clear hfz22_13
            try clear hfz22_14
            try clear hfz22_15
            try clear hfz22_2
            try clear hfz22_3
            try clear hfz22_4
            try clear hfz22_5
            try clear hfz22_6
            try clear hfz22_7
            try clear hfz22_8
            try clear hfz22_9
            try clear hfz26_0
            try clear hfz26_1
            try clear hfz26_10
            try clear hfz26_11
            try clear hfz26_12
            try clear hfz26_13
            try clear hfz26_14
            try clear hfz26_15
            try clear hfz26_2
            try clear hfz26_3
            try clear hfz26_4
            try clear hfz26_5
            try clear hfz26_6
            try clear hfz26_7
            try clear hfz26_8
            try clear hfz26_9
            try clear hfz27_0
            try clear hfz27_1
            try clear hfz27_10
            try clear hfz27_11
            try clear hfz27_12
            try clear hfz27_13
            try clear hfz27_14
            try clear hfz27_15
            try clear hfz27_2
            try clear hfz27_3
            try clear hfz27_4
            try clear hfz27_5
            try clear hfz27_6
            try clear hfz27_7
            try clear hfz27_8
            try clear hfz27_9
            try clear hfz31_0
            try clear hfz31_1
            try clear hfz31_10
            try clear hfz31_11
            try clear hfz31_12
            try clear hfz31_13
            try clear hfz31_14
            try clear hfz31_15
            try clear hfz31_2
            try clear hfz31_3
            try clear hfz31_4
            try clear hfz31_5
            try clear hfz31_6
            try clear hfz31_7
            try clear hfz31_8
            try clear hfz31_9
            try clear hfz32_0
            try clear hfz32_1
            try clear hfz32_10
            try clear hfz32_11
            try clear hfz32_12
            try clear hfz32_13
            try clear hfz32_14
            try clear hfz32_15
            try clear hfz32_2
            try clear hfz32_3
            try clear hfz32_4
            try clear hfz32_5
            try clear hfz32_6
            try clear hfz32_7
            try clear hfz32_8
            try clear hfz32_9
            try clear hfz5_0
            try clear hfz5_1
            try clear hfz5_10
            try clear hfz5_11
            try clear hfz5_12
            try clear hfz5_13
            try clear hfz5_14
            try clear hfz5_15
            try clear hfz5_2
            try clear hfz5_3
            try clear hfz5_4
            try clear hfz5_5
            try clear hfz5_6
            try clear hfz5_7
            try clear hfz5_8
            try clear hfz5_9
            try clear p2
            try clear p6
            obtain ⟨kq,QT,rfl,HA,HJ28,Qf,HB⟩:=hcut
            cases kq with
            | zero=>exact absurd HA.out (by simp [vespersref07_Fails.j3])
            | succ kj28 =>
             have H:=HA.out
             clear HA
             simp only [vespersref07_Fails.j3] at H
             by_cases c33 : QT = true
             ·subst c33
              have H1 : (some 7) = some r:=by rw [if_pos rfl] at H;exact H
              clear H
              have H:=H1
              clear H1
              obtain rfl:=Option.some.inj H
              go_wp2
              go_ret
              exact ⟨by first|rfl|(simp [errW_none,errW_some] <;> rfl)|(simp [*,errW_none,errW_some] <;> rfl),by repeat (first|(with_reducible first|exact HB.out|apply below_alloc|apply pw_below_drewN|apply below_drew1|refine below_set ?_ QI.out)|exact HB.out)⟩
             ·replace c33:=Bool.eq_false_iff.mpr c33
              subst c33
              have H1 : (if Qh < (wrap64 ((wrap64 ((wrap64 ((wrap64 ((wrap64 ((wrap64 (Ql + Qk)) + (wrap64 (2 * Qn)))) + (wrap64 (2 * Qm)))) + Qc)) + Qj)) + 8)) then (some 8) else (if Qb < 1 then (vespersref07_Fails.j4 kj28 (wrap64 (Qi * Qh)) true Qi Qo Qh Ql Qk Qm Qp Qn Qq Qj Qc Qg Qb Qa Qe Qd) else (if Qb > 64 then (vespersref07_Fails.j4 kj28 (wrap64 (Qi * Qh)) true Qi Qo Qh Ql Qk Qm Qp Qn Qq Qj Qc Qg Qb Qa Qe Qd) else (if Qa < 1 then (vespersref07_Fails.j4 kj28 (wrap64 (Qi * Qh)) true Qi Qo Qh Ql Qk Qm Qp Qn Qq Qj Qc Qg Qb Qa Qe Qd) else (if Qa > 8 then (vespersref07_Fails.j4 kj28 (wrap64 (Qi * Qh)) true Qi Qo Qh Ql Qk Qm Qp Qn Qq Qj Qc Qg Qb Qa Qe Qd) else (if Qe < 1 then (vespersref07_Fails.j4 kj28 (wrap64 (Qi * Qh)) true Qi Qo Qh Ql Qk Qm Qp Qn Qq Qj Qc Qg Qb Qa Qe Qd) else (vespersref07_Fails.j4 kj28 (wrap64 (Qi * Qh)) (decide (Qe > 32)) Qi Qo Qh Ql Qk Qm Qp Qn Qq Qj Qc Qg Qb Qa Qe Qd))))))) = some r:=by rw [if_neg (show ¬ (false = true) by decide)] at H;exact H
              clear H
              have H:=H1
              clear H1
              by_cases c34 : Qh < (wrap64 ((wrap64 ((wrap64 ((wrap64 ((wrap64 ((wrap64 (Ql + Qk)) + (wrap64 (2 * Qn)))) + (wrap64 (2 * Qm)))) + Qc)) + Qj)) + 8))
              ·rw [if_pos c34] at H
               have c34b0 : decide (Qh < (wrap64 ((wrap64 ((wrap64 ((wrap64 ((wrap64 ((wrap64 (Ql + Qk)) + (wrap64 (2 * Qn)))) + (wrap64 (2 * Qm)))) + Qc)) + Qj)) + 8))) = true:=decide_eq_true c34
               clear c34
               obtain rfl:=Option.some.inj H
               obtain ⟨hcz35_0,hcz35_1,hcz35_2,hcz35_3,hcz35_4,hcz35_5,hcz35_6,hcz35_7,hcz35_8,hcz35_9,hcz35_10,hcz35_11,hcz35_12,hcz35_13,hcz35_14,hcz35_15⟩:=bc16_ (w:=wc) (g:=Qx) (.int .i64 Qi) (.int .i64 Qo) (.int .i64 Qh) (.int .i64 Ql) (.int .i64 Qk) (.int .i64 Qm) (.int .i64 Qp) (.int .i64 Qn) (.int .i64 Qq) (.int .i64 Qj) (.int .i64 Qc) (.int .i64 Qg) (.int .i64 Qb) (.int .i64 Qa) (.int .i64 Qe) (.int .i64 Qd) Qf.out
               obtain ⟨hfz35_0,hfz35_1,hfz35_2,hfz35_3,hfz35_4,hfz35_5,hfz35_6,hfz35_7,hfz35_8,hfz35_9,hfz35_10,hfz35_11,hfz35_12,hfz35_13,hfz35_14,hfz35_15⟩:=bf16_ Qf.out
               go_wp2
               go_ret
               exact ⟨by first|rfl|(simp [errW_none,errW_some] <;> rfl)|(simp [*,errW_none,errW_some] <;> rfl),by repeat (first|(with_reducible first|exact HB.out|apply below_alloc|apply pw_below_drewN|apply below_drew1|refine below_set ?_ QI.out)|exact HB.out)⟩
              ·rw [if_neg c34] at H
               have c34b0 : decide (Qh < (wrap64 ((wrap64 ((wrap64 ((wrap64 ((wrap64 ((wrap64 (Ql + Qk)) + (wrap64 (2 * Qn)))) + (wrap64 (2 * Qm)))) + Qc)) + Qj)) + 8))) = false:=decide_eq_false c34
               clear c34
               have HC36:=Aside0.mk H
               clear H
               obtain ⟨hcz37_0,hcz37_1,hcz37_2,hcz37_3,hcz37_4,hcz37_5,hcz37_6,hcz37_7,hcz37_8,hcz37_9,hcz37_10,hcz37_11,hcz37_12,hcz37_13,hcz37_14,hcz37_15⟩:=bc16_ (w:=wc) (g:=Qx) (.int .i64 Qi) (.int .i64 Qo) (.int .i64 Qh) (.int .i64 Ql) (.int .i64 Qk) (.int .i64 Qm) (.int .i64 Qp) (.int .i64 Qn) (.int .i64 Qq) (.int .i64 Qj) (.int .i64 Qc) (.int .i64 Qg) (.int .i64 Qb) (.int .i64 Qa) (.int .i64 Qe) (.int .i64 Qd) Qf.out
               obtain ⟨hfz37_0,hfz37_1,hfz37_2,hfz37_3,hfz37_4,hfz37_5,hfz37_6,hfz37_7,hfz37_8,hfz37_9,hfz37_10,hfz37_11,hfz37_12,hfz37_13,hfz37_14,hfz37_15⟩:=bf16_ Qf.out
               go_upto_region 16 with (fail)
               go_cut [132] (fun v132 wc=>∃ (kq : Nat) (QO : Bool),v132 = .bool QO∧Aside0 (vespersref07_Fails.j4 kq (wrap64 (Qi * Qh)) QO Qi Qo Qh Ql Qk Qm Qp Qn Qq Qj Qc Qg Qb Qa Qe Qd = some r)∧Aside0 (kq ≤ kj28)∧Aside0 (wc.heap[Qx]? = some (.cells #[.int .i64 Qi,.int .i64 Qo,.int .i64 Qh,.int .i64 Ql,.int .i64 Qk,.int .i64 Qm,.int .i64 Qp,.int .i64 Qn,.int .i64 Qq,.int .i64 Qj,.int .i64 Qc,.int .i64 Qg,.int .i64 Qb,.int .i64 Qa,.int .i64 Qe,.int .i64 Qd] 23 (0,0)))∧Aside0 (Below w.heap.size w wc))
               case first=>as_aux_lemma =>
                have H:=HC36.out
                clear HC36
                by_cases c38 : Qb < 1
                ·rw [if_pos c38] at H
                 have c38b0 : decide (Qb < 1) = true:=decide_eq_true c38
                 clear c38
                 (first|rw [c38b0]|(simp only [i64_w,i32_w];rw [c38b0])|skip)
                 have H':=Aside0.mk H
                 clear H
                 obtain ⟨hcz39_0,hcz39_1,hcz39_2,hcz39_3,hcz39_4,hcz39_5,hcz39_6,hcz39_7,hcz39_8,hcz39_9,hcz39_10,hcz39_11,hcz39_12,hcz39_13,hcz39_14,hcz39_15⟩:=bc16_ (w:=wc) (g:=Qx) (.int .i64 Qi) (.int .i64 Qo) (.int .i64 Qh) (.int .i64 Ql) (.int .i64 Qk) (.int .i64 Qm) (.int .i64 Qp) (.int .i64 Qn) (.int .i64 Qq) (.int .i64 Qj) (.int .i64 Qc) (.int .i64 Qg) (.int .i64 Qb) (.int .i64 Qa) (.int .i64 Qe) (.int .i64 Qd) Qf.out
                 obtain ⟨hfz39_0,hfz39_1,hfz39_2,hfz39_3,hfz39_4,hfz39_5,hfz39_6,hfz39_7,hfz39_8,hfz39_9,hfz39_10,hfz39_11,hfz39_12,hfz39_13,hfz39_14,hfz39_15⟩:=bf16_ Qf.out
                 go_wp2
                 go_meet
                 case rel=>exact ⟨_,(true),(by first|rfl|(simp;done)|(simp [*];done)),H',⟨by have:=HJ7.out;have:=HJ18.out;have:=HJ23.out;have:=HJ28.out;first|omega|exact Nat.le_refl _⟩,⟨by (with_reducible repeat (first|refine blk_drewN ?_ _|refine blk_drew ?_|refine blk_alloc ?_ _));exact Qf.out⟩,⟨by repeat (first|(with_reducible first|exact HB.out|apply below_alloc|apply pw_below_drewN|apply below_drew1|refine below_set ?_ QI.out)|exact HB.out)⟩⟩
                ·rw [if_neg c38] at H
                 have c38b0 : decide (Qb < 1) = false:=decide_eq_false c38
                 clear c38
                 (first|rw [c38b0]|(simp only [i64_w,i32_w];rw [c38b0])|skip)
                 by_cases c40 : Qb > 64
                 ·rw [if_pos c40] at H
                  have c40b0 : decide (64 < Qb) = true:=decide_eq_true c40
                  clear c40
                  have H':=Aside0.mk H
                  clear H
                  obtain ⟨hcz41_0,hcz41_1,hcz41_2,hcz41_3,hcz41_4,hcz41_5,hcz41_6,hcz41_7,hcz41_8,hcz41_9,hcz41_10,hcz41_11,hcz41_12,hcz41_13,hcz41_14,hcz41_15⟩:=bc16_ (w:=wc) (g:=Qx) (.int .i64 Qi) (.int .i64 Qo) (.int .i64 Qh) (.int .i64 Ql) (.int .i64 Qk) (.int .i64 Qm) (.int .i64 Qp) (.int .i64 Qn) (.int .i64 Qq) (.int .i64 Qj) (.int .i64 Qc) (.int .i64 Qg) (.int .i64 Qb) (.int .i64 Qa) (.int .i64 Qe) (.int .i64 Qd) Qf.out
                  obtain ⟨hfz41_0,hfz41_1,hfz41_2,hfz41_3,hfz41_4,hfz41_5,hfz41_6,hfz41_7,hfz41_8,hfz41_9,hfz41_10,hfz41_11,hfz41_12,hfz41_13,hfz41_14,hfz41_15⟩:=bf16_ Qf.out
                  go_wp2
                  go_meet
                  case rel=>exact ⟨_,(true),(by first|rfl|(simp;done)|(simp [*];done)),H',⟨by have:=HJ7.out;have:=HJ18.out;have:=HJ23.out;have:=HJ28.out;first|omega|exact Nat.le_refl _⟩,⟨by (with_reducible repeat (first|refine blk_drewN ?_ _|refine blk_drew ?_|refine blk_alloc ?_ _));exact Qf.out⟩,⟨by repeat (first|(with_reducible first|exact HB.out|apply below_alloc|apply pw_below_drewN|apply below_drew1|refine below_set ?_ QI.out)|exact HB.out)⟩⟩
                 ·rw [if_neg c40] at H
                  have c40b0 : decide (64 < Qb) = false:=decide_eq_false c40
                  clear c40
                  by_cases c42 : Qa < 1
                  ·rw [if_pos c42] at H
                   have c42b0 : decide (Qa < 1) = true:=decide_eq_true c42
                   clear c42
                   have H':=Aside0.mk H
                   clear H
                   obtain ⟨hcz43_0,hcz43_1,hcz43_2,hcz43_3,hcz43_4,hcz43_5,hcz43_6,hcz43_7,hcz43_8,hcz43_9,hcz43_10,hcz43_11,hcz43_12,hcz43_13,hcz43_14,hcz43_15⟩:=bc16_ (w:=wc) (g:=Qx) (.int .i64 Qi) (.int .i64 Qo) (.int .i64 Qh) (.int .i64 Ql) (.int .i64 Qk) (.int .i64 Qm) (.int .i64 Qp) (.int .i64 Qn) (.int .i64 Qq) (.int .i64 Qj) (.int .i64 Qc) (.int .i64 Qg) (.int .i64 Qb) (.int .i64 Qa) (.int .i64 Qe) (.int .i64 Qd) Qf.out
                   obtain ⟨hfz43_0,hfz43_1,hfz43_2,hfz43_3,hfz43_4,hfz43_5,hfz43_6,hfz43_7,hfz43_8,hfz43_9,hfz43_10,hfz43_11,hfz43_12,hfz43_13,hfz43_14,hfz43_15⟩:=bf16_ Qf.out
                   go_wp2
                   go_meet
                   case rel=>exact ⟨_,(true),(by first|rfl|(simp;done)|(simp [*];done)),H',⟨by have:=HJ7.out;have:=HJ18.out;have:=HJ23.out;have:=HJ28.out;first|omega|exact Nat.le_refl _⟩,⟨by (with_reducible repeat (first|refine blk_drewN ?_ _|refine blk_drew ?_|refine blk_alloc ?_ _));exact Qf.out⟩,⟨by repeat (first|(with_reducible first|exact HB.out|apply below_alloc|apply pw_below_drewN|apply below_drew1|refine below_set ?_ QI.out)|exact HB.out)⟩⟩
                  ·rw [if_neg c42] at H
                   have c42b0 : decide (Qa < 1) = false:=decide_eq_false c42
                   clear c42
                   by_cases c44 : Qa > 8
                   ·rw [if_pos c44] at H
                    have c44b0 : decide (8 < Qa) = true:=decide_eq_true c44
                    clear c44
                    have H':=Aside0.mk H
                    clear H
                    obtain ⟨hcz45_0,hcz45_1,hcz45_2,hcz45_3,hcz45_4,hcz45_5,hcz45_6,hcz45_7,hcz45_8,hcz45_9,hcz45_10,hcz45_11,hcz45_12,hcz45_13,hcz45_14,hcz45_15⟩:=bc16_ (w:=wc) (g:=Qx) (.int .i64 Qi) (.int .i64 Qo) (.int .i64 Qh) (.int .i64 Ql) (.int .i64 Qk) (.int .i64 Qm) (.int .i64 Qp) (.int .i64 Qn) (.int .i64 Qq) (.int .i64 Qj) (.int .i64 Qc) (.int .i64 Qg) (.int .i64 Qb) (.int .i64 Qa) (.int .i64 Qe) (.int .i64 Qd) Qf.out
                    obtain ⟨hfz45_0,hfz45_1,hfz45_2,hfz45_3,hfz45_4,hfz45_5,hfz45_6,hfz45_7,hfz45_8,hfz45_9,hfz45_10,hfz45_11,hfz45_12,hfz45_13,hfz45_14,hfz45_15⟩:=bf16_ Qf.out
                    go_wp2
                    go_meet
                    case rel=>exact ⟨_,(true),(by first|rfl|(simp;done)|(simp [*];done)),H',⟨by have:=HJ7.out;have:=HJ18.out;have:=HJ23.out;have:=HJ28.out;first|omega|exact Nat.le_refl _⟩,⟨by (with_reducible repeat (first|refine blk_drewN ?_ _|refine blk_drew ?_|refine blk_alloc ?_ _));exact Qf.out⟩,⟨by repeat (first|(with_reducible first|exact HB.out|apply below_alloc|apply pw_below_drewN|apply below_drew1|refine below_set ?_ QI.out)|exact HB.out)⟩⟩
                   ·rw [if_neg c44] at H
                    have c44b0 : decide (8 < Qa) = false:=decide_eq_false c44
                    clear c44
                    by_cases c46 : Qe < 1
                    ·rw [if_pos c46] at H
                     have c46b0 : decide (Qe < 1) = true:=decide_eq_true c46
                     clear c46
                     have H':=Aside0.mk H
                     clear H
                     obtain ⟨hcz47_0,hcz47_1,hcz47_2,hcz47_3,hcz47_4,hcz47_5,hcz47_6,hcz47_7,hcz47_8,hcz47_9,hcz47_10,hcz47_11,hcz47_12,hcz47_13,hcz47_14,hcz47_15⟩:=bc16_ (w:=wc) (g:=Qx) (.int .i64 Qi) (.int .i64 Qo) (.int .i64 Qh) (.int .i64 Ql) (.int .i64 Qk) (.int .i64 Qm) (.int .i64 Qp) (.int .i64 Qn) (.int .i64 Qq) (.int .i64 Qj) (.int .i64 Qc) (.int .i64 Qg) (.int .i64 Qb) (.int .i64 Qa) (.int .i64 Qe) (.int .i64 Qd) Qf.out
                     obtain ⟨hfz47_0,hfz47_1,hfz47_2,hfz47_3,hfz47_4,hfz47_5,hfz47_6,hfz47_7,hfz47_8,hfz47_9,hfz47_10,hfz47_11,hfz47_12,hfz47_13,hfz47_14,hfz47_15⟩:=bf16_ Qf.out
                     go_wp2
                     go_meet
                     case rel=>exact ⟨_,(true),(by first|rfl|(simp;done)|(simp [*];done)),H',⟨by have:=HJ7.out;have:=HJ18.out;have:=HJ23.out;have:=HJ28.out;first|omega|exact Nat.le_refl _⟩,⟨by (with_reducible repeat (first|refine blk_drewN ?_ _|refine blk_drew ?_|refine blk_alloc ?_ _));exact Qf.out⟩,⟨by repeat (first|(with_reducible first|exact HB.out|apply below_alloc|apply pw_below_drewN|apply below_drew1|refine below_set ?_ QI.out)|exact HB.out)⟩⟩
                    ·rw [if_neg c46] at H
                     have c46b0 : decide (Qe < 1) = false:=decide_eq_false c46
                     clear c46
                     have H':=Aside0.mk H
                     clear H
                     obtain ⟨hcz48_0,hcz48_1,hcz48_2,hcz48_3,hcz48_4,hcz48_5,hcz48_6,hcz48_7,hcz48_8,hcz48_9,hcz48_10,hcz48_11,hcz48_12,hcz48_13,hcz48_14,hcz48_15⟩:=bc16_ (w:=wc) (g:=Qx) (.int .i64 Qi) (.int .i64 Qo) (.int .i64 Qh) (.int .i64 Ql) (.int .i64 Qk) (.int .i64 Qm) (.int .i64 Qp) (.int .i64 Qn) (.int .i64 Qq) (.int .i64 Qj) (.int .i64 Qc) (.int .i64 Qg) (.int .i64 Qb) (.int .i64 Qa) (.int .i64 Qe) (.int .i64 Qd) Qf.out
                     obtain ⟨hfz48_0,hfz48_1,hfz48_2,hfz48_3,hfz48_4,hfz48_5,hfz48_6,hfz48_7,hfz48_8,hfz48_9,hfz48_10,hfz48_11,hfz48_12,hfz48_13,hfz48_14,hfz48_15⟩:=bf16_ Qf.out
                     go_wp2
                     go_meet
                     case rel=>exact ⟨_,(decide (Qe > 32)),(by first|rfl|(simp;done)|(simp [*];done)),H',⟨by have:=HJ7.out;have:=HJ18.out;have:=HJ23.out;have:=HJ28.out;first|omega|exact Nat.le_refl _⟩,⟨by (with_reducible repeat (first|refine blk_drewN ?_ _|refine blk_drew ?_|refine blk_alloc ?_ _));exact Qf.out⟩,⟨by repeat (first|(with_reducible first|exact HB.out|apply below_alloc|apply pw_below_drewN|apply below_drew1|refine below_set ?_ QI.out)|exact HB.out)⟩⟩
               case rest=>as_aux_lemma =>
                clear HC36
                try clear p2
                try clear c3
                try clear c4
                try clear p6
                try clear c33
                try clear c34
                try clear c34b0
                try clear c38
                try clear c38b0
                try clear c40
                try clear c40b0
                try clear c42
                try clear c42b0
                try clear c44
                try clear c44b0
                try clear c46
                try clear c46b0
                try clear hcz31_2
                try clear hcz31_3
                try clear hcz31_4
                try clear hcz31_5
                try clear hcz31_6
                try clear hcz31_7
                try clear hcz31_8
                try clear hcz31_9
                try clear hcz32_0
                try clear hcz32_1
                try clear hcz32_10
                try clear hcz32_11
                try clear hcz32_12
                try clear hcz32_13
                try clear hcz32_14
                try clear hcz32_15
                try clear hcz32_2
                try clear hcz32_3
                try clear hcz32_4
                try clear hcz32_5
                try clear hcz32_6
                try clear hcz32_7
                try clear hcz32_8
                try clear hcz32_9
                try clear hcz35_0
                try clear hcz35_1
                try clear hcz35_10
                try clear hcz35_11
                try clear hcz35_12
                try clear hcz35_13
                try clear hcz35_14
                try clear hcz35_15
                try clear hcz35_2
                try clear hcz35_3
                try clear hcz35_4
                try clear hcz35_5
                try clear hcz35_6
                try clear hcz35_7
                try clear hcz35_8
                try clear hcz35_9
                try clear hcz37_0
                try clear hcz37_1
                try clear hcz37_10
                try clear hcz37_11
                try clear hcz37_12
                try clear hcz37_13
                try clear hcz37_14
                try clear hcz37_15
                try clear hcz37_2
                try clear hcz37_3
                try clear hcz37_4
                try clear hcz37_5
                try clear hcz37_6
                try clear hcz37_7
                try clear hcz37_8
                try clear hcz37_9
                try clear hcz39_0
                try clear hcz39_1
                try clear hcz39_10
                try clear hcz39_11
                try clear hcz39_12
                try clear hcz39_13
                try clear hcz39_14
                try clear hcz39_15
                try clear hcz39_2
                try clear hcz39_3
                try clear hcz39_4
                try clear hcz39_5
                try clear hcz39_6
                try clear hcz39_7
                try clear hcz39_8
                try clear hcz39_9
                try clear hcz41_0
                try clear hcz41_1
                try clear hcz41_10
                try clear hcz41_11
                try clear hcz41_12
                try clear hcz41_13
                try clear hcz41_14
                try clear hcz41_15
                try clear hcz41_2
                try clear hcz41_3
                try clear hcz41_4
                try clear hcz41_5
                try clear hcz41_6
                try clear hcz41_7
                try clear hcz41_8
                try clear hcz41_9
                try clear hcz43_0
                try clear hcz43_1
                try clear hcz43_10
                try clear hcz43_11
                try clear hcz43_12
                try clear hcz43_13
                try clear hcz43_14
                try clear hcz43_15
                try clear hcz43_2
                try clear hcz43_3
                try clear hcz43_4
                try clear hcz43_5
                try clear hcz43_6
                try clear hcz43_7
                try clear hcz43_8
                try clear hcz43_9
                try clear hcz45_0
                try clear hcz45_1
                try clear hcz45_10
                try clear hcz45_11
                try clear hcz45_12
                try clear hcz45_13
                try clear hcz45_14
                try clear hcz45_15
                try clear hcz45_2
                try clear hcz45_3
                try clear hcz45_4
                try clear hcz45_5
                try clear hcz45_6
                try clear hcz45_7
                try clear hcz45_8
                try clear hcz45_9
                try clear hcz47_0
                try clear hcz47_1
                try clear hcz47_10
                try clear hcz47_11
                try clear hcz47_12
                try clear hcz47_13
                try clear hcz47_14
                try clear hcz47_15
                try clear hcz47_2
                try clear hcz47_3
                try clear hcz47_4
                try clear hcz47_5
                try clear hcz47_6
                try clear hcz47_7
                try clear hcz47_8
                try clear hcz47_9
                try clear hcz48_0
                try clear hcz48_1
                try clear hcz48_10
                try clear hcz48_11
                try clear hcz48_12
                try clear hcz48_13
                try clear hcz48_14
                try clear hcz48_15
                try clear hcz48_2
                try clear hcz48_3
                try clear hcz48_4
                try clear hcz48_5
                try clear hcz48_6
                try clear hcz48_7
                try clear hcz48_8
                try clear hcz48_9
                try clear hcz5_0
                try clear hcz5_1
                try clear hcz5_10
                try clear hcz5_11
                try clear hcz5_12
                try clear hcz5_13
                try clear hcz5_14
                try clear hcz5_15
                try clear hcz5_2
                try clear hcz5_3
                try clear hcz5_4
                try clear hcz5_5
                try clear hcz5_6
                try clear hcz5_7
                try clear hcz5_8
                try clear hcz5_9
                try clear hfz10_0
                try clear hfz10_1
                try clear hfz10_10
                try clear hfz10_11
                try clear hfz10_12
                try clear hfz10_13
                try clear hfz10_14
                try clear hfz10_15
                try clear hfz10_2
                try clear hfz10_3
                try clear hfz10_4
                try clear hfz10_5
                try clear hfz10_6
                try clear hfz10_7
                try clear hfz10_8
                try clear hfz10_9
                try clear hfz12_0
                try clear hfz12_1
                try clear hfz12_10
                try clear hfz12_11
                try clear hfz12_12
                try clear hfz12_13
                try clear hfz12_14
                try clear hfz12_15
                try clear hfz12_2
                try clear hfz12_3
                try clear hfz12_4
                try clear hfz12_5
                try clear hfz12_6
                try clear hfz12_7
                try clear hfz12_8
                try clear hfz12_9
                try clear hfz14_0
                try clear hfz14_1
                try clear hfz14_10
                try clear hfz14_11
                try clear hfz14_12
                try clear hfz14_13
                try clear hfz14_14
                try clear hfz14_15
                try clear hfz14_2
                try clear hfz14_3
                try clear hfz14_4
                try clear hfz14_5
                try clear hfz14_6
                try clear hfz14_7
                try clear hfz14_8
                try clear hfz14_9
                try clear hfz16_0
                try clear hfz16_1
                try clear hfz16_10
                try clear hfz16_11
                try clear hfz16_12
                try clear hfz16_13
                try clear hfz16_14
                try clear hfz16_15
                try clear hfz16_2
                try clear hfz16_3
                try clear hfz16_4
                try clear hfz16_5
                try clear hfz16_6
                try clear hfz16_7
                try clear hfz16_8
                try clear hfz16_9
                try clear hfz17_0
                try clear hfz17_1
                try clear hfz17_10
                try clear hfz17_11
                try clear hfz17_12
                try clear hfz17_13
                try clear hfz17_14
                try clear hfz17_15
                try clear hfz17_2
                try clear hfz17_3
                try clear hfz17_4
                try clear hfz17_5
                try clear hfz17_6
                try clear hfz17_7
                try clear hfz17_8
                try clear hfz17_9
                try clear hfz21_0
                try clear hfz21_1
                try clear hfz21_10
                try clear hfz21_11
                try clear hfz21_12
                try clear hfz21_13
                try clear hfz21_14
                try clear hfz21_15
                try clear hfz21_2
                try clear hfz21_3
                try clear hfz21_4
                try clear hfz21_5
                try clear hfz21_6
                try clear hfz21_7
                try clear hfz21_8
                try clear hfz21_9
                try clear hfz22_0
                try clear hfz22_1
                try clear hfz22_10
                try clear hfz22_11
                try clear hfz22_12
                try clear hfz22_13
                try clear hfz22_14
                try clear hfz22_15
                try clear hfz22_2
                try clear hfz22_3
                try clear hfz22_4
                try clear hfz22_5
                try clear hfz22_6
                try clear hfz22_7
                try clear hfz22_8
                try clear hfz22_9
                try clear hfz26_0
                try clear hfz26_1
                try clear hfz26_10
                try clear hfz26_11
                try clear hfz26_12
                try clear hfz26_13
                try clear hfz26_14
                try clear hfz26_15
                try clear hfz26_2
                try clear hfz26_3
                try clear hfz26_4
                try clear hfz26_5
                try clear hfz26_6
                try clear hfz26_7
                try clear hfz26_8
                try clear hfz26_9
                try clear hfz27_0
                try clear hfz27_1
                try clear hfz27_10
                try clear hfz27_11
                try clear hfz27_12
                try clear hfz27_13
                try clear hfz27_14
                try clear hfz27_15
                try clear hfz27_2
                try clear hfz27_3
                try clear hfz27_4
                try clear hfz27_5
                try clear hfz27_6
                try clear hfz27_7
                try clear hfz27_8
                try clear hfz27_9
                try clear hfz31_0
                try clear hfz31_1
                try clear hfz31_10
                try clear hfz31_11
                try clear hfz31_12
                try clear hfz31_13
                try clear hfz31_14
                try clear hfz31_15
                try clear hfz31_2
                try clear hfz31_3
                try clear hfz31_4
                try clear hfz31_5
                try clear hfz31_6
                try clear hfz31_7
                try clear hfz31_8
                try clear hfz31_9
                try clear hfz32_0
                try clear hfz32_1
                try clear hfz32_10
                try clear hfz32_11
                try clear hfz32_12
                try clear hfz32_13
                try clear hfz32_14
                try clear hfz32_15
                try clear hfz32_2
                try clear hfz32_3
                try clear hfz32_4
                try clear hfz32_5
                try clear hfz32_6
                try clear hfz32_7
                try clear hfz32_8
                try clear hfz32_9
                try clear hfz35_0
                try clear hfz35_1
                try clear hfz35_10
                try clear hfz35_11
                try clear hfz35_12
                try clear hfz35_13
                try clear hfz35_14
                try clear hfz35_15
                try clear hfz35_2
                try clear hfz35_3
                try clear hfz35_4
                try clear hfz35_5
                try clear hfz35_6
                try clear hfz35_7
                try clear hfz35_8
                try clear hfz35_9
                try clear hfz37_0
                try clear hfz37_1
                try clear hfz37_10
                try clear hfz37_11
                try clear hfz37_12
                try clear hfz37_13
                try clear hfz37_14
                try clear hfz37_15
                try clear hfz37_2
                try clear hfz37_3
                try clear hfz37_4
                try clear hfz37_5
                try clear hfz37_6
                try clear hfz37_7
                try clear hfz37_8
                try clear hfz37_9
                try clear hfz39_0
                try clear hfz39_1
                try clear hfz39_10
                try clear hfz39_11
                try clear hfz39_12
                try clear hfz39_13
                try clear hfz39_14
                try clear hfz39_15
                try clear hfz39_2
                try clear hfz39_3
                try clear hfz39_4
                try clear hfz39_5
                try clear hfz39_6
                try clear hfz39_7
                try clear hfz39_8
                try clear hfz39_9
                try clear hfz41_0
                try clear hfz41_1
                try clear hfz41_10
                try clear hfz41_11
                try clear hfz41_12
                try clear hfz41_13
                try clear hfz41_14
                try clear hfz41_15
                try clear hfz41_2
                try clear hfz41_3
                try clear hfz41_4
                try clear hfz41_5
                try clear hfz41_6
                try clear hfz41_7
                try clear hfz41_8
                try clear hfz41_9
                try clear hfz43_0
                try clear hfz43_1
                try clear hfz43_10
                try clear hfz43_11
                try clear hfz43_12
                try clear hfz43_13
                try clear hfz43_14
                try clear hfz43_15
                try clear hfz43_2
                try clear hfz43_3
                try clear hfz43_4
                try clear hfz43_5
                try clear hfz43_6
                try clear hfz43_7
                try clear hfz43_8
                try clear hfz43_9
                try clear hfz45_0
                try clear hfz45_1
                try clear hfz45_10
                try clear hfz45_11
                try clear hfz45_12
                try clear hfz45_13
                try clear hfz45_14
                try clear hfz45_15
                try clear hfz45_2
                try clear hfz45_3
                try clear hfz45_4
                try clear hfz45_5
                try clear hfz45_6
                try clear hfz45_7
                try clear hfz45_8
                try clear hfz45_9
                try clear hfz47_0
                try clear hfz47_1
                try clear hfz47_10
                try clear hfz47_11
                try clear hfz47_12
                try clear hfz47_13
                try clear hfz47_14
                try clear hfz47_15
                try clear hfz47_2
                try clear hfz47_3
                try clear hfz47_4
                try clear hfz47_5
                try clear hfz47_6
                try clear hfz47_7
                try clear hfz47_8
                try clear hfz47_9
                try clear hfz48_0
                try clear hfz48_1
                try clear hfz48_10
                try clear hfz48_11
                try clear hfz48_12
                try clear hfz48_13
                try clear hfz48_14
                try clear hfz48_15
                try clear hfz48_2
                try clear hfz48_3
                try clear hfz48_4
                try clear hfz48_5
                try clear hfz48_6
                try clear hfz48_7
                try clear hfz48_8
                try clear hfz48_9
                try clear hfz5_0
                try clear hfz5_1
                try clear hfz5_10
                try clear hfz5_11
                try clear hfz5_12
                try clear hfz5_13
                try clear hfz5_14
                try clear hfz5_15
                try clear hfz5_2
                try clear hfz5_3
                try clear hfz5_4
                try clear hfz5_5
                try clear hfz5_6
                try clear hfz5_7
                try clear hfz5_8
                try clear hfz5_9
                try clear p2
                try clear p6
                obtain ⟨kq,QO,rfl,HA,HJ35,Qf,HB⟩:=hcut
                cases kq with
                | zero=>exact absurd HA.out (by simp [vespersref07_Fails.j4])
                | succ kj35 =>
                 have H:=HA.out
                 clear HA
                 simp only [vespersref07_Fails.j4] at H
                 by_cases c49 : QO = true
                 ·subst c49
                  have H1 : (some 9) = some r:=by rw [if_pos rfl] at H;exact H
                  clear H
                  have H:=H1
                  clear H1
                  obtain rfl:=Option.some.inj H
                  go_wp2
                  go_ret
                  exact ⟨by first|rfl|(simp [errW_none,errW_some] <;> rfl)|(simp [*,errW_none,errW_some] <;> rfl),by repeat (first|(with_reducible first|exact HB.out|apply below_alloc|apply pw_below_drewN|apply below_drew1|refine below_set ?_ QI.out)|exact HB.out)⟩
                 ·replace c49:=Bool.eq_false_iff.mpr c49
                  subst c49
                  have H1 : (if Qa = 0 then (none) else (if (wrap64 ((wrap64 (Int.tdiv Qb Qa)) * Qa)) < Qb then (vespersref07_Fails.j5 kj35 (wrap64 (Qi * Qh)) (wrap64 ((wrap64 (Int.tdiv Qb Qa)) + 1)) Qi Qo Qh Ql Qk Qm Qp Qn Qq Qj Qc Qg Qb Qa Qe Qd) else (vespersref07_Fails.j5 kj35 (wrap64 (Qi * Qh)) (wrap64 (Int.tdiv Qb Qa)) Qi Qo Qh Ql Qk Qm Qp Qn Qq Qj Qc Qg Qb Qa Qe Qd))) = some r:=by rw [if_neg (show ¬ (false = true) by decide)] at H;exact H
                  clear H
                  have H:=H1
                  clear H1
                  by_cases c50 : Qa = 0
                  ·rw [if_pos c50] at H
                   exact absurd H (by simp)
                  ·rw [if_neg c50] at H
                   have c50b0 : (Qa == 0) = false:=beq_eq_false_iff_ne.mpr c50
                   have c50b1 : (Qa != 0) = true:=bne_iff_ne.mpr c50
                   have HC51:=Aside0.mk H
                   clear H
                   obtain ⟨hcz52_0,hcz52_1,hcz52_2,hcz52_3,hcz52_4,hcz52_5,hcz52_6,hcz52_7,hcz52_8,hcz52_9,hcz52_10,hcz52_11,hcz52_12,hcz52_13,hcz52_14,hcz52_15⟩:=bc16_ (w:=wc) (g:=Qx) (.int .i64 Qi) (.int .i64 Qo) (.int .i64 Qh) (.int .i64 Ql) (.int .i64 Qk) (.int .i64 Qm) (.int .i64 Qp) (.int .i64 Qn) (.int .i64 Qq) (.int .i64 Qj) (.int .i64 Qc) (.int .i64 Qg) (.int .i64 Qb) (.int .i64 Qa) (.int .i64 Qe) (.int .i64 Qd) Qf.out
                   obtain ⟨hfz52_0,hfz52_1,hfz52_2,hfz52_3,hfz52_4,hfz52_5,hfz52_6,hfz52_7,hfz52_8,hfz52_9,hfz52_10,hfz52_11,hfz52_12,hfz52_13,hfz52_14,hfz52_15⟩:=bf16_ Qf.out
                   go_upto_if 144 with (fail)
                   go_cut [8] (fun v8 wc=>∃ (kq : Nat) (QQ : Int),v8 = .int .i64 QQ∧Aside0 (vespersref07_Fails.j5 kq (wrap64 (Qi * Qh)) QQ Qi Qo Qh Ql Qk Qm Qp Qn Qq Qj Qc Qg Qb Qa Qe Qd = some r)∧Aside0 (kq ≤ kj35)∧Aside0 (wc.heap[Qx]? = some (.cells #[.int .i64 Qi,.int .i64 Qo,.int .i64 Qh,.int .i64 Ql,.int .i64 Qk,.int .i64 Qm,.int .i64 Qp,.int .i64 Qn,.int .i64 Qq,.int .i64 Qj,.int .i64 Qc,.int .i64 Qg,.int .i64 Qb,.int .i64 Qa,.int .i64 Qe,.int .i64 Qd] 23 (0,0)))∧Aside0 (Below w.heap.size w wc))
                   case first=>as_aux_lemma =>
                    have H:=HC51.out
                    clear HC51
                    by_cases c53 : (wrap64 ((wrap64 (Int.tdiv Qb Qa)) * Qa)) < Qb
                    ·rw [if_pos c53] at H
                     have c53b0 : decide ((wrap64 ((wrap64 (Int.tdiv Qb Qa)) * Qa)) < Qb) = true:=decide_eq_true c53
                     clear c53
                     (first|rw [c53b0]|(simp only [i64_w,i32_w];rw [c53b0])|skip)
                     have H':=Aside0.mk H
                     clear H
                     go_wp2
                     go_meet
                     case rel=>exact ⟨_,(wrap64 ((wrap64 (Int.tdiv Qb Qa)) + 1)),(by first|rfl|(simp;done)|(simp [*];done)),H',⟨by have:=HJ7.out;have:=HJ18.out;have:=HJ23.out;have:=HJ28.out;have:=HJ35.out;first|omega|exact Nat.le_refl _⟩,⟨by (with_reducible repeat (first|refine blk_drewN ?_ _|refine blk_drew ?_|refine blk_alloc ?_ _));exact Qf.out⟩,⟨by repeat (first|(with_reducible first|exact HB.out|apply below_alloc|apply pw_below_drewN|apply below_drew1|refine below_set ?_ QI.out)|exact HB.out)⟩⟩
                    ·rw [if_neg c53] at H
                     have c53b0 : decide ((wrap64 ((wrap64 (Int.tdiv Qb Qa)) * Qa)) < Qb) = false:=decide_eq_false c53
                     clear c53
                     (first|rw [c53b0]|(simp only [i64_w,i32_w];rw [c53b0])|skip)
                     have H':=Aside0.mk H
                     clear H
                     go_wp2
                     go_meet
                     case rel=>exact ⟨_,(wrap64 (Int.tdiv Qb Qa)),(by first|rfl|(simp;done)|(simp [*];done)),H',⟨by have:=HJ7.out;have:=HJ18.out;have:=HJ23.out;have:=HJ28.out;have:=HJ35.out;first|omega|exact Nat.le_refl _⟩,⟨by (with_reducible repeat (first|refine blk_drewN ?_ _|refine blk_drew ?_|refine blk_alloc ?_ _));exact Qf.out⟩,⟨by repeat (first|(with_reducible first|exact HB.out|apply below_alloc|apply pw_below_drewN|apply below_drew1|refine below_set ?_ QI.out)|exact HB.out)⟩⟩
                   case rest=>as_aux_lemma =>
                    clear HC51
                    try clear p2
                    try clear c3
                    try clear c4
                    try clear c5
                    try clear p6
                    try clear c33
                    try clear c34
                    try clear c34b0
                    try clear c38
                    try clear c38b0
                    try clear c40
                    try clear c40b0
                    try clear c42
                    try clear c42b0
                    try clear c44
                    try clear c44b0
                    try clear c46
                    try clear c46b0
                    try clear c49
                    try clear c50
                    try clear c50b0
                    try clear c50b1
                    try clear c53
                    try clear c53b0
                    try clear hcz31_2
                    try clear hcz31_3
                    try clear hcz31_4
                    try clear hcz31_5
                    try clear hcz31_6
                    try clear hcz31_7
                    try clear hcz31_8
                    try clear hcz31_9
                    try clear hcz32_0
                    try clear hcz32_1
                    try clear hcz32_10
                    try clear hcz32_11
                    try clear hcz32_12
                    try clear hcz32_13
                    try clear hcz32_14
                    try clear hcz32_15
                    try clear hcz32_2
                    try clear hcz32_3
                    try clear hcz32_4
                    try clear hcz32_5
                    try clear hcz32_6
                    try clear hcz32_7
                    try clear hcz32_8
                    try clear hcz32_9
                    try clear hcz35_0
                    try clear hcz35_1
                    try clear hcz35_10
                    try clear hcz35_11
                    try clear hcz35_12
                    try clear hcz35_13
                    try clear hcz35_14
                    try clear hcz35_15
                    try clear hcz35_2
                    try clear hcz35_3
                    try clear hcz35_4
                    try clear hcz35_5
                    try clear hcz35_6
                    try clear hcz35_7
                    try clear hcz35_8
                    try clear hcz35_9
                    try clear hcz37_0
                    try clear hcz37_1
                    try clear hcz37_10
                    try clear hcz37_11
                    try clear hcz37_12
                    try clear hcz37_13
                    try clear hcz37_14
                    try clear hcz37_15
                    try clear hcz37_2
                    try clear hcz37_3
                    try clear hcz37_4
                    try clear hcz37_5
                    try clear hcz37_6
                    try clear hcz37_7
                    try clear hcz37_8
                    try clear hcz37_9
                    try clear hcz39_0
                    try clear hcz39_1
                    try clear hcz39_10
                    try clear hcz39_11
                    try clear hcz39_12
                    try clear hcz39_13
                    try clear hcz39_14
                    try clear hcz39_15
                    try clear hcz39_2
                    try clear hcz39_3
                    try clear hcz39_4
                    try clear hcz39_5
                    try clear hcz39_6
                    try clear hcz39_7
                    try clear hcz39_8
                    try clear hcz39_9
                    try clear hcz41_0
                    try clear hcz41_1
                    try clear hcz41_10
                    try clear hcz41_11
                    try clear hcz41_12
                    try clear hcz41_13
                    try clear hcz41_14
                    try clear hcz41_15
                    try clear hcz41_2
                    try clear hcz41_3
                    try clear hcz41_4
                    try clear hcz41_5
                    try clear hcz41_6
                    try clear hcz41_7
                    try clear hcz41_8
                    try clear hcz41_9
                    try clear hcz43_0
                    try clear hcz43_1
                    try clear hcz43_10
                    try clear hcz43_11
                    try clear hcz43_12
                    try clear hcz43_13
                    try clear hcz43_14
                    try clear hcz43_15
                    try clear hcz43_2
                    try clear hcz43_3
                    try clear hcz43_4
                    try clear hcz43_5
                    try clear hcz43_6
                    try clear hcz43_7
                    try clear hcz43_8
                    try clear hcz43_9
                    try clear hcz45_0
                    try clear hcz45_1
                    try clear hcz45_10
                    try clear hcz45_11
                    try clear hcz45_12
                    try clear hcz45_13
                    try clear hcz45_14
                    try clear hcz45_15
                    try clear hcz45_2
                    try clear hcz45_3
                    try clear hcz45_4
                    try clear hcz45_5
                    try clear hcz45_6
                    try clear hcz45_7
                    try clear hcz45_8
                    try clear hcz45_9
                    try clear hcz47_0
                    try clear hcz47_1
                    try clear hcz47_10
                    try clear hcz47_11
                    try clear hcz47_12
                    try clear hcz47_13
                    try clear hcz47_14
                    try clear hcz47_15
                    try clear hcz47_2
                    try clear hcz47_3
                    try clear hcz47_4
                    try clear hcz47_5
                    try clear hcz47_6
                    try clear hcz47_7
                    try clear hcz47_8
                    try clear hcz47_9
                    try clear hcz48_0
                    try clear hcz48_1
                    try clear hcz48_10
                    try clear hcz48_11
                    try clear hcz48_12
                    try clear hcz48_13
                    try clear hcz48_14
                    try clear hcz48_15
                    try clear hcz48_2
                    try clear hcz48_3
                    try clear hcz48_4
                    try clear hcz48_5
                    try clear hcz48_6
                    try clear hcz48_7
                    try clear hcz48_8
                    try clear hcz48_9
                    try clear hcz52_0
                    try clear hcz52_1
                    try clear hcz52_10
                    try clear hcz52_11
                    try clear hcz52_12
                    try clear hcz52_13
                    try clear hcz52_14
                    try clear hcz52_15
                    try clear hcz52_2
                    try clear hcz52_3
                    try clear hcz52_4
                    try clear hcz52_5
                    try clear hcz52_6
                    try clear hcz52_7
                    try clear hcz52_8
                    try clear hcz52_9
                    try clear hcz5_0
                    try clear hcz5_1
                    try clear hcz5_10
                    try clear hcz5_11
                    try clear hcz5_12
                    try clear hcz5_13
                    try clear hcz5_14
                    try clear hcz5_15
                    try clear hcz5_2
                    try clear hcz5_3
                    try clear hcz5_4
                    try clear hcz5_5
                    try clear hcz5_6
                    try clear hcz5_7
                    try clear hcz5_8
                    try clear hcz5_9
                    try clear hfz10_0
                    try clear hfz10_1
                    try clear hfz10_10
                    try clear hfz10_11
                    try clear hfz10_12
                    try clear hfz10_13
                    try clear hfz10_14
                    try clear hfz10_15
                    try clear hfz10_2
                    try clear hfz10_3
                    try clear hfz10_4
                    try clear hfz10_5
                    try clear hfz10_6
                    try clear hfz10_7
                    try clear hfz10_8
                    try clear hfz10_9
                    try clear hfz12_0
                    try clear hfz12_1
                    try clear hfz12_10
                    try clear hfz12_11
                    try clear hfz12_12
                    try clear hfz12_13
                    try clear hfz12_14
                    try clear hfz12_15
                    try clear hfz12_2
                    try clear hfz12_3
                    try clear hfz12_4
                    try clear hfz12_5
                    try clear hfz12_6
                    try clear hfz12_7
                    try clear hfz12_8
                    try clear hfz12_9
                    try clear hfz14_0
                    try clear hfz14_1
                    try clear hfz14_10
                    try clear hfz14_11
                    try clear hfz14_12
                    try clear hfz14_13
                    try clear hfz14_14
                    try clear hfz14_15
                    try clear hfz14_2
                    try clear hfz14_3
                    try clear hfz14_4
                    try clear hfz14_5
                    try clear hfz14_6
                    try clear hfz14_7
                    try clear hfz14_8
                    try clear hfz14_9
                    try clear hfz16_0
                    try clear hfz16_1
                    try clear hfz16_10
                    try clear hfz16_11
                    try clear hfz16_12
                    try clear hfz16_13
                    try clear hfz16_14
                    try clear hfz16_15
                    try clear hfz16_2
                    try clear hfz16_3
                    try clear hfz16_4
                    try clear hfz16_5
                    try clear hfz16_6
                    try clear hfz16_7
                    try clear hfz16_8
                    try clear hfz16_9
                    try clear hfz17_0
                    try clear hfz17_1
                    try clear hfz17_10
                    try clear hfz17_11
                    try clear hfz17_12
                    try clear hfz17_13
                    try clear hfz17_14
                    try clear hfz17_15
                    try clear hfz17_2
                    try clear hfz17_3
                    try clear hfz17_4
                    try clear hfz17_5
                    try clear hfz17_6
                    try clear hfz17_7
                    try clear hfz17_8
                    try clear hfz17_9
                    try clear hfz21_0
                    try clear hfz21_1
                    try clear hfz21_10
                    try clear hfz21_11
                    try clear hfz21_12
                    try clear hfz21_13
                    try clear hfz21_14
                    try clear hfz21_15
                    try clear hfz21_2
                    try clear hfz21_3
                    try clear hfz21_4
                    try clear hfz21_5
                    try clear hfz21_6
                    try clear hfz21_7
                    try clear hfz21_8
                    try clear hfz21_9
                    try clear hfz22_0
                    try clear hfz22_1
                    try clear hfz22_10
                    try clear hfz22_11
                    try clear hfz22_12
                    try clear hfz22_13
                    try clear hfz22_14
                    try clear hfz22_15
                    try clear hfz22_2
                    try clear hfz22_3
                    try clear hfz22_4
                    try clear hfz22_5
                    try clear hfz22_6
                    try clear hfz22_7
                    try clear hfz22_8
                    try clear hfz22_9
                    try clear hfz26_0
                    try clear hfz26_1
                    try clear hfz26_10
                    try clear hfz26_11
                    try clear hfz26_12
                    try clear hfz26_13
                    try clear hfz26_14
                    try clear hfz26_15
                    try clear hfz26_2
                    try clear hfz26_3
                    try clear hfz26_4
                    try clear hfz26_5
                    try clear hfz26_6
                    try clear hfz26_7
                    try clear hfz26_8
                    try clear hfz26_9
                    try clear hfz27_0
                    try clear hfz27_1
                    try clear hfz27_10
                    try clear hfz27_11
                    try clear hfz27_12
                    try clear hfz27_13
                    try clear hfz27_14
                    try clear hfz27_15
                    try clear hfz27_2
                    try clear hfz27_3
                    try clear hfz27_4
                    try clear hfz27_5
                    try clear hfz27_6
                    try clear hfz27_7
                    try clear hfz27_8
                    try clear hfz27_9
                    try clear hfz31_0
                    try clear hfz31_1
                    try clear hfz31_10
                    try clear hfz31_11
                    try clear hfz31_12
                    try clear hfz31_13
                    try clear hfz31_14
                    try clear hfz31_15
                    try clear hfz31_2
                    try clear hfz31_3
                    try clear hfz31_4
                    try clear hfz31_5
                    try clear hfz31_6
                    try clear hfz31_7
                    try clear hfz31_8
                    try clear hfz31_9
                    try clear hfz32_0
                    try clear hfz32_1
                    try clear hfz32_10
                    try clear hfz32_11
                    try clear hfz32_12
                    try clear hfz32_13
                    try clear hfz32_14
                    try clear hfz32_15
                    try clear hfz32_2
                    try clear hfz32_3
                    try clear hfz32_4
                    try clear hfz32_5
                    try clear hfz32_6
                    try clear hfz32_7
                    try clear hfz32_8
                    try clear hfz32_9
                    try clear hfz35_0
                    try clear hfz35_1
                    try clear hfz35_10
                    try clear hfz35_11
                    try clear hfz35_12
                    try clear hfz35_13
                    try clear hfz35_14
                    try clear hfz35_15
                    try clear hfz35_2
                    try clear hfz35_3
                    try clear hfz35_4
                    try clear hfz35_5
                    try clear hfz35_6
                    try clear hfz35_7
                    try clear hfz35_8
                    try clear hfz35_9
                    try clear hfz37_0
                    try clear hfz37_1
                    try clear hfz37_10
                    try clear hfz37_11
                    try clear hfz37_12
                    try clear hfz37_13
                    try clear hfz37_14
                    try clear hfz37_15
                    try clear hfz37_2
                    try clear hfz37_3
                    try clear hfz37_4
                    try clear hfz37_5
                    try clear hfz37_6
                    try clear hfz37_7
                    try clear hfz37_8
                    try clear hfz37_9
                    try clear hfz39_0
                    try clear hfz39_1
                    try clear hfz39_10
                    try clear hfz39_11
                    try clear hfz39_12
                    try clear hfz39_13
                    try clear hfz39_14
                    try clear hfz39_15
                    try clear hfz39_2
                    try clear hfz39_3
                    try clear hfz39_4
                    try clear hfz39_5
                    try clear hfz39_6
                    try clear hfz39_7
                    try clear hfz39_8
                    try clear hfz39_9
                    try clear hfz41_0
                    try clear hfz41_1
                    try clear hfz41_10
                    try clear hfz41_11
                    try clear hfz41_12
                    try clear hfz41_13
                    try clear hfz41_14
                    try clear hfz41_15
                    try clear hfz41_2
                    try clear hfz41_3
                    try clear hfz41_4
                    try clear hfz41_5
                    try clear hfz41_6
                    try clear hfz41_7
                    try clear hfz41_8
                    try clear hfz41_9
                    try clear hfz43_0
                    try clear hfz43_1
                    try clear hfz43_10
                    try clear hfz43_11
                    try clear hfz43_12
                    try clear hfz43_13
                    try clear hfz43_14
                    try clear hfz43_15
                    try clear hfz43_2
                    try clear hfz43_3
                    try clear hfz43_4
                    try clear hfz43_5
                    try clear hfz43_6
                    try clear hfz43_7
                    try clear hfz43_8
                    try clear hfz43_9
                    try clear hfz45_0
                    try clear hfz45_1
                    try clear hfz45_10
                    try clear hfz45_11
                    try clear hfz45_12
                    try clear hfz45_13
                    try clear hfz45_14
                    try clear hfz45_15
                    try clear hfz45_2
                    try clear hfz45_3
                    try clear hfz45_4
                    try clear hfz45_5
                    try clear hfz45_6
                    try clear hfz45_7
                    try clear hfz45_8
                    try clear hfz45_9
                    try clear hfz47_0
                    try clear hfz47_1
                    try clear hfz47_10
                    try clear hfz47_11
                    try clear hfz47_12
                    try clear hfz47_13
                    try clear hfz47_14
                    try clear hfz47_15
                    try clear hfz47_2
                    try clear hfz47_3
                    try clear hfz47_4
                    try clear hfz47_5
                    try clear hfz47_6
                    try clear hfz47_7
                    try clear hfz47_8
                    try clear hfz47_9
                    try clear hfz48_0
                    try clear hfz48_1
                    try clear hfz48_10
                    try clear hfz48_11
                    try clear hfz48_12
                    try clear hfz48_13
                    try clear hfz48_14
                    try clear hfz48_15
                    try clear hfz48_2
                    try clear hfz48_3
                    try clear hfz48_4
                    try clear hfz48_5
                    try clear hfz48_6
                    try clear hfz48_7
                    try clear hfz48_8
                    try clear hfz48_9
                    try clear hfz52_0
                    try clear hfz52_1
                    try clear hfz52_10
                    try clear hfz52_11
                    try clear hfz52_12
                    try clear hfz52_13
                    try clear hfz52_14
                    try clear hfz52_15
                    try clear hfz52_2
                    try clear hfz52_3
                    try clear hfz52_4
                    try clear hfz52_5
                    try clear hfz52_6
                    try clear hfz52_7
                    try clear hfz52_8
                    try clear hfz52_9
                    try clear hfz5_0
                    try clear hfz5_1
                    try clear hfz5_10
                    try clear hfz5_11
                    try clear hfz5_12
                    try clear hfz5_13
                    try clear hfz5_14
                    try clear hfz5_15
                    try clear hfz5_2
                    try clear hfz5_3
                    try clear hfz5_4
                    try clear hfz5_5
                    try clear hfz5_6
                    try clear hfz5_7
                    try clear hfz5_8
                    try clear hfz5_9
                    try clear p2
                    try clear p6
                    obtain ⟨kq,QQ,rfl,HA,HJ50,Qf,HB⟩:=hcut
                    cases kq with
                    | zero=>exact absurd HA.out (by simp [vespersref07_Fails.j5])
                    | succ kj50 =>
                     have H:=HA.out
                     clear HA
                     simp only [vespersref07_Fails.j5] at H
                     have HC54:=Aside0.mk H
                     clear H
                     go_upto_region 21 with (fail)
                     go_cut [164] (fun v164 wc=>∃ (kq : Nat) (QP : Bool),v164 = .bool QP∧Aside0 (vespersref07_Fails.j6 kq (wrap64 (Qi * Qh)) QP Qi Qo Qh Ql Qk Qm Qp Qn Qq Qj Qc Qg Qb Qa Qe Qd = some r)∧Aside0 (kq ≤ kj50)∧Aside0 (wc.heap[Qx]? = some (.cells #[.int .i64 Qi,.int .i64 Qo,.int .i64 Qh,.int .i64 Ql,.int .i64 Qk,.int .i64 Qm,.int .i64 Qp,.int .i64 Qn,.int .i64 Qq,.int .i64 Qj,.int .i64 Qc,.int .i64 Qg,.int .i64 Qb,.int .i64 Qa,.int .i64 Qe,.int .i64 Qd] 23 (0,0)))∧Aside0 (Below w.heap.size w wc))
                     case first=>as_aux_lemma =>
                      have H:=HC54.out
                      clear HC54
                      by_cases c55 : Qg < (wrap64 ((wrap64 ((wrap64 (QQ + 3)) * (wrap64 (Qi * Qh)))) + (wrap64 (2 * Qj))))
                      ·rw [if_pos c55] at H
                       have c55b0 : decide (Qg < (wrap64 ((wrap64 ((wrap64 (QQ + 3)) * (wrap64 (Qi * Qh)))) + (wrap64 (2 * Qj))))) = true:=decide_eq_true c55
                       clear c55
                       (first|rw [c55b0]|(simp only [i64_w,i32_w];rw [c55b0])|skip)
                       have H':=Aside0.mk H
                       clear H
                       obtain ⟨hcz56_0,hcz56_1,hcz56_2,hcz56_3,hcz56_4,hcz56_5,hcz56_6,hcz56_7,hcz56_8,hcz56_9,hcz56_10,hcz56_11,hcz56_12,hcz56_13,hcz56_14,hcz56_15⟩:=bc16_ (w:=wc) (g:=Qx) (.int .i64 Qi) (.int .i64 Qo) (.int .i64 Qh) (.int .i64 Ql) (.int .i64 Qk) (.int .i64 Qm) (.int .i64 Qp) (.int .i64 Qn) (.int .i64 Qq) (.int .i64 Qj) (.int .i64 Qc) (.int .i64 Qg) (.int .i64 Qb) (.int .i64 Qa) (.int .i64 Qe) (.int .i64 Qd) Qf.out
                       obtain ⟨hfz56_0,hfz56_1,hfz56_2,hfz56_3,hfz56_4,hfz56_5,hfz56_6,hfz56_7,hfz56_8,hfz56_9,hfz56_10,hfz56_11,hfz56_12,hfz56_13,hfz56_14,hfz56_15⟩:=bf16_ Qf.out
                       go_wp2
                       go_meet
                       case rel=>exact ⟨_,(true),(by first|rfl|(simp;done)|(simp [*];done)),H',⟨by have:=HJ7.out;have:=HJ18.out;have:=HJ23.out;have:=HJ28.out;have:=HJ35.out;have:=HJ50.out;first|omega|exact Nat.le_refl _⟩,⟨by (with_reducible repeat (first|refine blk_drewN ?_ _|refine blk_drew ?_|refine blk_alloc ?_ _));exact Qf.out⟩,⟨by repeat (first|(with_reducible first|exact HB.out|apply below_alloc|apply pw_below_drewN|apply below_drew1|refine below_set ?_ QI.out)|exact HB.out)⟩⟩
                      ·rw [if_neg c55] at H
                       have c55b0 : decide (Qg < (wrap64 ((wrap64 ((wrap64 (QQ + 3)) * (wrap64 (Qi * Qh)))) + (wrap64 (2 * Qj))))) = false:=decide_eq_false c55
                       clear c55
                       (first|rw [c55b0]|(simp only [i64_w,i32_w];rw [c55b0])|skip)
                       have H':=Aside0.mk H
                       clear H
                       obtain ⟨hcz57_0,hcz57_1,hcz57_2,hcz57_3,hcz57_4,hcz57_5,hcz57_6,hcz57_7,hcz57_8,hcz57_9,hcz57_10,hcz57_11,hcz57_12,hcz57_13,hcz57_14,hcz57_15⟩:=bc16_ (w:=wc) (g:=Qx) (.int .i64 Qi) (.int .i64 Qo) (.int .i64 Qh) (.int .i64 Ql) (.int .i64 Qk) (.int .i64 Qm) (.int .i64 Qp) (.int .i64 Qn) (.int .i64 Qq) (.int .i64 Qj) (.int .i64 Qc) (.int .i64 Qg) (.int .i64 Qb) (.int .i64 Qa) (.int .i64 Qe) (.int .i64 Qd) Qf.out
                       obtain ⟨hfz57_0,hfz57_1,hfz57_2,hfz57_3,hfz57_4,hfz57_5,hfz57_6,hfz57_7,hfz57_8,hfz57_9,hfz57_10,hfz57_11,hfz57_12,hfz57_13,hfz57_14,hfz57_15⟩:=bf16_ Qf.out
                       go_wp2
                       go_meet
                       case rel=>exact ⟨_,(decide (Qg > (wrap64 (64 * (wrap64 (Qi * Qh)))))),(by first|rfl|(simp;done)|(simp [*];done)),H',⟨by have:=HJ7.out;have:=HJ18.out;have:=HJ23.out;have:=HJ28.out;have:=HJ35.out;have:=HJ50.out;first|omega|exact Nat.le_refl _⟩,⟨by (with_reducible repeat (first|refine blk_drewN ?_ _|refine blk_drew ?_|refine blk_alloc ?_ _));exact Qf.out⟩,⟨by repeat (first|(with_reducible first|exact HB.out|apply below_alloc|apply pw_below_drewN|apply below_drew1|refine below_set ?_ QI.out)|exact HB.out)⟩⟩
                     case rest=>as_aux_lemma =>
                      clear HC54
                      try clear p2
                      try clear c5
                      try clear p6
                      try clear c55
                      try clear c55b0
                      try clear hcz32_7
                      try clear hcz32_8
                      try clear hcz32_9
                      try clear hcz35_0
                      try clear hcz35_1
                      try clear hcz35_10
                      try clear hcz35_11
                      try clear hcz35_12
                      try clear hcz35_13
                      try clear hcz35_14
                      try clear hcz35_15
                      try clear hcz35_2
                      try clear hcz35_3
                      try clear hcz35_4
                      try clear hcz35_5
                      try clear hcz35_6
                      try clear hcz35_7
                      try clear hcz35_8
                      try clear hcz35_9
                      try clear hcz37_0
                      try clear hcz37_1
                      try clear hcz37_10
                      try clear hcz37_11
                      try clear hcz37_12
                      try clear hcz37_13
                      try clear hcz37_14
                      try clear hcz37_15
                      try clear hcz37_2
                      try clear hcz37_3
                      try clear hcz37_4
                      try clear hcz37_5
                      try clear hcz37_6
                      try clear hcz37_7
                      try clear hcz37_8
                      try clear hcz37_9
                      try clear hcz39_0
                      try clear hcz39_1
                      try clear hcz39_10
                      try clear hcz39_11
                      try clear hcz39_12
                      try clear hcz39_13
                      try clear hcz39_14
                      try clear hcz39_15
                      try clear hcz39_2
                      try clear hcz39_3
                      try clear hcz39_4
                      try clear hcz39_5
                      try clear hcz39_6
                      try clear hcz39_7
                      try clear hcz39_8
                      try clear hcz39_9
                      try clear hcz41_0
                      try clear hcz41_1
                      try clear hcz41_10
                      try clear hcz41_11
                      try clear hcz41_12
                      try clear hcz41_13
                      try clear hcz41_14
                      try clear hcz41_15
                      try clear hcz41_2
                      try clear hcz41_3
                      try clear hcz41_4
                      try clear hcz41_5
                      try clear hcz41_6
                      try clear hcz41_7
                      try clear hcz41_8
                      try clear hcz41_9
                      try clear hcz43_0
                      try clear hcz43_1
                      try clear hcz43_10
                      try clear hcz43_11
                      try clear hcz43_12
                      try clear hcz43_13
                      try clear hcz43_14
                      try clear hcz43_15
                      try clear hcz43_2
                      try clear hcz43_3
                      try clear hcz43_4
                      try clear hcz43_5
                      try clear hcz43_6
                      try clear hcz43_7
                      try clear hcz43_8
                      try clear hcz43_9
                      try clear hcz45_0
                      try clear hcz45_1
                      try clear hcz45_10
                      try clear hcz45_11
                      try clear hcz45_12
                      try clear hcz45_13
                      try clear hcz45_14
                      try clear hcz45_15
                      try clear hcz45_2
                      try clear hcz45_3
                      try clear hcz45_4
                      try clear hcz45_5
                      try clear hcz45_6
                      try clear hcz45_7
                      try clear hcz45_8
                      try clear hcz45_9
                      try clear hcz47_0
                      try clear hcz47_1
                      try clear hcz47_10
                      try clear hcz47_11
                      try clear hcz47_12
                      try clear hcz47_13
                      try clear hcz47_14
                      try clear hcz47_15
                      try clear hcz47_2
                      try clear hcz47_3
                      try clear hcz47_4
                      try clear hcz47_5
                      try clear hcz47_6
                      try clear hcz47_7
                      try clear hcz47_8
                      try clear hcz47_9
                      try clear hcz48_0
                      try clear hcz48_1
                      try clear hcz48_10
                      try clear hcz48_11
                      try clear hcz48_12
                      try clear hcz48_13
                      try clear hcz48_14
                      try clear hcz48_15
                      try clear hcz48_2
                      try clear hcz48_3
                      try clear hcz48_4
                      try clear hcz48_5
                      try clear hcz48_6
                      try clear hcz48_7
                      try clear hcz48_8
                      try clear hcz48_9
                      try clear hcz52_0
                      try clear hcz52_1
                      try clear hcz52_10
                      try clear hcz52_11
                      try clear hcz52_12
                      try clear hcz52_13
                      try clear hcz52_14
                      try clear hcz52_15
                      try clear hcz52_2
                      try clear hcz52_3
                      try clear hcz52_4
                      try clear hcz52_5
                      try clear hcz52_6
                      try clear hcz52_7
                      try clear hcz52_8
                      try clear hcz52_9
                      try clear hcz56_0
                      try clear hcz56_1
                      try clear hcz56_10
                      try clear hcz56_11
                      try clear hcz56_12
                      try clear hcz56_13
                      try clear hcz56_14
                      try clear hcz56_15
                      try clear hcz56_2
                      try clear hcz56_3
                      try clear hcz56_4
                      try clear hcz56_5
                      try clear hcz56_6
                      try clear hcz56_7
                      try clear hcz56_8
                      try clear hcz56_9
                      try clear hcz57_0
                      try clear hcz57_1
                      try clear hcz57_10
                      try clear hcz57_11
                      try clear hcz57_12
                      try clear hcz57_13
                      try clear hcz57_14
                      try clear hcz57_15
                      try clear hcz57_2
                      try clear hcz57_3
                      try clear hcz57_4
                      try clear hcz57_5
                      try clear hcz57_6
                      try clear hcz57_7
                      try clear hcz57_8
                      try clear hcz57_9
                      try clear hcz5_0
                      try clear hcz5_1
                      try clear hcz5_10
                      try clear hcz5_11
                      try clear hcz5_12
                      try clear hcz5_13
                      try clear hcz5_14
                      try clear hcz5_15
                      try clear hcz5_2
                      try clear hcz5_3
                      try clear hcz5_4
                      try clear hcz5_5
                      try clear hcz5_6
                      try clear hcz5_7
                      try clear hcz5_8
                      try clear hcz5_9
                      try clear hfz10_0
                      try clear hfz10_1
                      try clear hfz10_10
                      try clear hfz10_11
                      try clear hfz10_12
                      try clear hfz10_13
                      try clear hfz10_14
                      try clear hfz10_15
                      try clear hfz10_2
                      try clear hfz10_3
                      try clear hfz10_4
                      try clear hfz10_5
                      try clear hfz10_6
                      try clear hfz10_7
                      try clear hfz10_8
                      try clear hfz10_9
                      try clear hfz12_0
                      try clear hfz12_1
                      try clear hfz12_10
                      try clear hfz12_11
                      try clear hfz12_12
                      try clear hfz12_13
                      try clear hfz12_14
                      try clear hfz12_15
                      try clear hfz12_2
                      try clear hfz12_3
                      try clear hfz12_4
                      try clear hfz12_5
                      try clear hfz12_6
                      try clear hfz12_7
                      try clear hfz12_8
                      try clear hfz12_9
                      try clear hfz14_0
                      try clear hfz14_1
                      try clear hfz14_10
                      try clear hfz14_11
                      try clear hfz14_12
                      try clear hfz14_13
                      try clear hfz14_14
                      try clear hfz14_15
                      try clear hfz14_2
                      try clear hfz14_3
                      try clear hfz14_4
                      try clear hfz14_5
                      try clear hfz14_6
                      try clear hfz14_7
                      try clear hfz14_8
                      try clear hfz14_9
                      try clear hfz16_0
                      try clear hfz16_1
                      try clear hfz16_10
                      try clear hfz16_11
                      try clear hfz16_12
                      try clear hfz16_13
                      try clear hfz16_14
                      try clear hfz16_15
                      try clear hfz16_2
                      try clear hfz16_3
                      try clear hfz16_4
                      try clear hfz16_5
                      try clear hfz16_6
                      try clear hfz16_7
                      try clear hfz16_8
                      try clear hfz16_9
                      try clear hfz17_0
                      try clear hfz17_1
                      try clear hfz17_10
                      try clear hfz17_11
                      try clear hfz17_12
                      try clear hfz17_13
                      try clear hfz17_14
                      try clear hfz17_15
                      try clear hfz17_2
                      try clear hfz17_3
                      try clear hfz17_4
                      try clear hfz17_5
                      try clear hfz17_6
                      try clear hfz17_7
                      try clear hfz17_8
                      try clear hfz17_9
                      try clear hfz21_0
                      try clear hfz21_1
                      try clear hfz21_10
                      try clear hfz21_11
                      try clear hfz21_12
                      try clear hfz21_13
                      try clear hfz21_14
                      try clear hfz21_15
                      try clear hfz21_2
                      try clear hfz21_3
                      try clear hfz21_4
                      try clear hfz21_5
                      try clear hfz21_6
                      try clear hfz21_7
                      try clear hfz21_8
                      try clear hfz21_9
                      try clear hfz22_0
                      try clear hfz22_1
                      try clear hfz22_10
                      try clear hfz22_11
                      try clear hfz22_12
                      try clear hfz22_13
                      try clear hfz22_14
                      try clear hfz22_15
                      try clear hfz22_2
                      try clear hfz22_3
                      try clear hfz22_4
                      try clear hfz22_5
                      try clear hfz22_6
                      try clear hfz22_7
                      try clear hfz22_8
                      try clear hfz22_9
                      try clear hfz26_0
                      try clear hfz26_1
                      try clear hfz26_10
                      try clear hfz26_11
                      try clear hfz26_12
                      try clear hfz26_13
                      try clear hfz26_14
                      try clear hfz26_15
                      try clear hfz26_2
                      try clear hfz26_3
                      try clear hfz26_4
                      try clear hfz26_5
                      try clear hfz26_6
                      try clear hfz26_7
                      try clear hfz26_8
                      try clear hfz26_9
                      try clear hfz27_0
                      try clear hfz27_1
                      try clear hfz27_10
                      try clear hfz27_11
                      try clear hfz27_12
                      try clear hfz27_13
                      try clear hfz27_14
                      try clear hfz27_15
                      try clear hfz27_2
                      try clear hfz27_3
                      try clear hfz27_4
                      try clear hfz27_5
                      try clear hfz27_6
                      try clear hfz27_7
                      try clear hfz27_8
                      try clear hfz27_9
                      try clear hfz31_0
                      try clear hfz31_1
                      try clear hfz31_10
                      try clear hfz31_11
                      try clear hfz31_12
                      try clear hfz31_13
                      try clear hfz31_14
                      try clear hfz31_15
                      try clear hfz31_2
                      try clear hfz31_3
                      try clear hfz31_4
                      try clear hfz31_5
                      try clear hfz31_6
                      try clear hfz31_7
                      try clear hfz31_8
                      try clear hfz31_9
                      try clear hfz32_0
                      try clear hfz32_1
                      try clear hfz32_10
                      try clear hfz32_11
                      try clear hfz32_12
                      try clear hfz32_13
                      try clear hfz32_14
                      try clear hfz32_15
                      try clear hfz32_2
                      try clear hfz32_3
                      try clear hfz32_4
                      try clear hfz32_5
                      try clear hfz32_6
                      try clear hfz32_7
                      try clear hfz32_8
                      try clear hfz32_9
                      try clear hfz35_0
                      try clear hfz35_1
                      try clear hfz35_10
                      try clear hfz35_11
                      try clear hfz35_12
                      try clear hfz35_13
                      try clear hfz35_14
                      try clear hfz35_15
                      try clear hfz35_2
                      try clear hfz35_3
                      try clear hfz35_4
                      try clear hfz35_5
                      try clear hfz35_6
                      try clear hfz35_7
                      try clear hfz35_8
                      try clear hfz35_9
                      try clear hfz37_0
                      try clear hfz37_1
                      try clear hfz37_10
                      try clear hfz37_11
                      try clear hfz37_12
                      try clear hfz37_13
                      try clear hfz37_14
                      try clear hfz37_15
                      try clear hfz37_2
                      try clear hfz37_3
                      try clear hfz37_4
                      try clear hfz37_5
                      try clear hfz37_6
                      try clear hfz37_7
                      try clear hfz37_8
                      try clear hfz37_9
                      try clear hfz39_0
                      try clear hfz39_1
                      try clear hfz39_10
                      try clear hfz39_11
                      try clear hfz39_12
                      try clear hfz39_13
                      try clear hfz39_14
                      try clear hfz39_15
                      try clear hfz39_2
                      try clear hfz39_3
                      try clear hfz39_4
                      try clear hfz39_5
                      try clear hfz39_6
                      try clear hfz39_7
                      try clear hfz39_8
                      try clear hfz39_9
                      try clear hfz41_0
                      try clear hfz41_1
                      try clear hfz41_10
                      try clear hfz41_11
                      try clear hfz41_12
                      try clear hfz41_13
                      try clear hfz41_14
                      try clear hfz41_15
                      try clear hfz41_2
                      try clear hfz41_3
                      try clear hfz41_4
                      try clear hfz41_5
                      try clear hfz41_6
                      try clear hfz41_7
                      try clear hfz41_8
                      try clear hfz41_9
                      try clear hfz43_0
                      try clear hfz43_1
                      try clear hfz43_10
                      try clear hfz43_11
                      try clear hfz43_12
                      try clear hfz43_13
                      try clear hfz43_14
                      try clear hfz43_15
                      try clear hfz43_2
                      try clear hfz43_3
                      try clear hfz43_4
                      try clear hfz43_5
                      try clear hfz43_6
                      try clear hfz43_7
                      try clear hfz43_8
                      try clear hfz43_9
                      try clear hfz45_0
                      try clear hfz45_1
                      try clear hfz45_10
                      try clear hfz45_11
                      try clear hfz45_12
                      try clear hfz45_13
                      try clear hfz45_14
                      try clear hfz45_15
                      try clear hfz45_2
                      try clear hfz45_3
                      try clear hfz45_4
                      try clear hfz45_5
                      try clear hfz45_6
                      try clear hfz45_7
                      try clear hfz45_8
                      try clear hfz45_9
                      try clear hfz47_0
                      try clear hfz47_1
                      try clear hfz47_10
                      try clear hfz47_11
                      try clear hfz47_12
                      try clear hfz47_13
                      try clear hfz47_14
                      try clear hfz47_15
                      try clear hfz47_2
                      try clear hfz47_3
                      try clear hfz47_4
                      try clear hfz47_5
                      try clear hfz47_6
                      try clear hfz47_7
                      try clear hfz47_8
                      try clear hfz47_9
                      try clear hfz48_0
                      try clear hfz48_1
                      try clear hfz48_10
                      try clear hfz48_11
                      try clear hfz48_12
                      try clear hfz48_13
                      try clear hfz48_14
                      try clear hfz48_15
                      try clear hfz48_2
                      try clear hfz48_3
                      try clear hfz48_4
                      try clear hfz48_5
                      try clear hfz48_6
                      try clear hfz48_7
                      try clear hfz48_8
                      try clear hfz48_9
                      try clear hfz52_0
                      try clear hfz52_1
                      try clear hfz52_10
                      try clear hfz52_11
                      try clear hfz52_12
                      try clear hfz52_13
                      try clear hfz52_14
                      try clear hfz52_15
                      try clear hfz52_2
                      try clear hfz52_3
                      try clear hfz52_4
                      try clear hfz52_5
                      try clear hfz52_6
                      try clear hfz52_7
                      try clear hfz52_8
                      try clear hfz52_9
                      try clear hfz56_0
                      try clear hfz56_1
                      try clear hfz56_10
                      try clear hfz56_11
                      try clear hfz56_12
                      try clear hfz56_13
                      try clear hfz56_14
                      try clear hfz56_15
                      try clear hfz56_2
                      try clear hfz56_3
                      try clear hfz56_4
                      try clear hfz56_5
                      try clear hfz56_6
                      try clear hfz56_7
                      try clear hfz56_8
                      try clear hfz56_9
                      try clear hfz57_0
                      try clear hfz57_1
                      try clear hfz57_10
                      try clear hfz57_11
                      try clear hfz57_12
                      try clear hfz57_13
                      try clear hfz57_14
                      try clear hfz57_15
                      try clear hfz57_2
                      try clear hfz57_3
                      try clear hfz57_4
                      try clear hfz57_5
                      try clear hfz57_6
                      try clear hfz57_7
                      try clear hfz57_8
                      try clear hfz57_9
                      try clear hfz5_0
                      try clear hfz5_1
                      try clear hfz5_10
                      try clear hfz5_11
                      try clear hfz5_12
                      try clear hfz5_13
                      try clear hfz5_14
                      try clear hfz5_15
                      try clear hfz5_2
                      try clear hfz5_3
                      try clear hfz5_4
                      try clear hfz5_5
                      try clear hfz5_6
                      try clear hfz5_7
                      try clear hfz5_8
                      try clear hfz5_9
                      try clear p2
                      try clear p6
                      obtain ⟨kq,QP,rfl,HA,HJ53,Qf,HB⟩:=hcut
                      cases kq with
                      | zero=>exact absurd HA.out (by simp [vespersref07_Fails.j6])
                      | succ kj53 =>
                       have H:=HA.out
                       clear HA
                       simp only [vespersref07_Fails.j6] at H
                       by_cases c58 : QP = true
                       ·subst c58
                        have H1 : (some 10) = some r:=by rw [if_pos rfl] at H;exact H
                        clear H
                        have H:=H1
                        clear H1
                        obtain rfl:=Option.some.inj H
                        go_wp2
                        go_ret
                        exact ⟨by first|rfl|(simp [errW_none,errW_some] <;> rfl)|(simp [*,errW_none,errW_some] <;> rfl),by repeat (first|(with_reducible first|exact HB.out|apply below_alloc|apply pw_below_drewN|apply below_drew1|refine below_set ?_ QI.out)|exact HB.out)⟩
                       ·replace c58:=Bool.eq_false_iff.mpr c58
                        subst c58
                        have H1 : (if Qd < (wrap64 (40 * (wrap64 (Qi * Qh)))) then (some 11) else (if Qd > 2147483648 then (some 11) else (some 0))) = some r:=by rw [if_neg (show ¬ (false = true) by decide)] at H;exact H
                        clear H
                        have H:=H1
                        clear H1
                        by_cases c59 : Qd < (wrap64 (40 * (wrap64 (Qi * Qh))))
                        ·rw [if_pos c59] at H
                         have c59b0 : decide (Qd < (wrap64 (40 * (wrap64 (Qi * Qh))))) = true:=decide_eq_true c59
                         clear c59
                         obtain rfl:=Option.some.inj H
                         obtain ⟨hcz60_0,hcz60_1,hcz60_2,hcz60_3,hcz60_4,hcz60_5,hcz60_6,hcz60_7,hcz60_8,hcz60_9,hcz60_10,hcz60_11,hcz60_12,hcz60_13,hcz60_14,hcz60_15⟩:=bc16_ (w:=wc) (g:=Qx) (.int .i64 Qi) (.int .i64 Qo) (.int .i64 Qh) (.int .i64 Ql) (.int .i64 Qk) (.int .i64 Qm) (.int .i64 Qp) (.int .i64 Qn) (.int .i64 Qq) (.int .i64 Qj) (.int .i64 Qc) (.int .i64 Qg) (.int .i64 Qb) (.int .i64 Qa) (.int .i64 Qe) (.int .i64 Qd) Qf.out
                         obtain ⟨hfz60_0,hfz60_1,hfz60_2,hfz60_3,hfz60_4,hfz60_5,hfz60_6,hfz60_7,hfz60_8,hfz60_9,hfz60_10,hfz60_11,hfz60_12,hfz60_13,hfz60_14,hfz60_15⟩:=bf16_ Qf.out
                         go_wp2
                         go_ret
                         exact ⟨by first|rfl|(simp [errW_none,errW_some] <;> rfl)|(simp [*,errW_none,errW_some] <;> rfl),by repeat (first|(with_reducible first|exact HB.out|apply below_alloc|apply pw_below_drewN|apply below_drew1|refine below_set ?_ QI.out)|exact HB.out)⟩
                        ·rw [if_neg c59] at H
                         have c59b0 : decide (Qd < (wrap64 (40 * (wrap64 (Qi * Qh))))) = false:=decide_eq_false c59
                         clear c59
                         by_cases c61 : Qd > 2147483648
                         ·rw [if_pos c61] at H
                          have c61b0 : decide (2147483648 < Qd) = true:=decide_eq_true c61
                          clear c61
                          obtain rfl:=Option.some.inj H
                          obtain ⟨hcz62_0,hcz62_1,hcz62_2,hcz62_3,hcz62_4,hcz62_5,hcz62_6,hcz62_7,hcz62_8,hcz62_9,hcz62_10,hcz62_11,hcz62_12,hcz62_13,hcz62_14,hcz62_15⟩:=bc16_ (w:=wc) (g:=Qx) (.int .i64 Qi) (.int .i64 Qo) (.int .i64 Qh) (.int .i64 Ql) (.int .i64 Qk) (.int .i64 Qm) (.int .i64 Qp) (.int .i64 Qn) (.int .i64 Qq) (.int .i64 Qj) (.int .i64 Qc) (.int .i64 Qg) (.int .i64 Qb) (.int .i64 Qa) (.int .i64 Qe) (.int .i64 Qd) Qf.out
                          obtain ⟨hfz62_0,hfz62_1,hfz62_2,hfz62_3,hfz62_4,hfz62_5,hfz62_6,hfz62_7,hfz62_8,hfz62_9,hfz62_10,hfz62_11,hfz62_12,hfz62_13,hfz62_14,hfz62_15⟩:=bf16_ Qf.out
                          go_wp2
                          go_ret
                          exact ⟨by first|rfl|(simp [errW_none,errW_some] <;> rfl)|(simp [*,errW_none,errW_some] <;> rfl),by repeat (first|(with_reducible first|exact HB.out|apply below_alloc|apply pw_below_drewN|apply below_drew1|refine below_set ?_ QI.out)|exact HB.out)⟩
                         ·rw [if_neg c61] at H
                          have c61b0 : decide (2147483648 < Qd) = false:=decide_eq_false c61
                          clear c61
                          obtain rfl:=Option.some.inj H
                          obtain ⟨hcz63_0,hcz63_1,hcz63_2,hcz63_3,hcz63_4,hcz63_5,hcz63_6,hcz63_7,hcz63_8,hcz63_9,hcz63_10,hcz63_11,hcz63_12,hcz63_13,hcz63_14,hcz63_15⟩:=bc16_ (w:=wc) (g:=Qx) (.int .i64 Qi) (.int .i64 Qo) (.int .i64 Qh) (.int .i64 Ql) (.int .i64 Qk) (.int .i64 Qm) (.int .i64 Qp) (.int .i64 Qn) (.int .i64 Qq) (.int .i64 Qj) (.int .i64 Qc) (.int .i64 Qg) (.int .i64 Qb) (.int .i64 Qa) (.int .i64 Qe) (.int .i64 Qd) Qf.out
                          obtain ⟨hfz63_0,hfz63_1,hfz63_2,hfz63_3,hfz63_4,hfz63_5,hfz63_6,hfz63_7,hfz63_8,hfz63_9,hfz63_10,hfz63_11,hfz63_12,hfz63_13,hfz63_14,hfz63_15⟩:=bf16_ Qf.out
                          go_wp2
                          go_ret
                          exact ⟨by first|rfl|(simp [errW_none,errW_some] <;> rfl)|(simp [*,errW_none,errW_some] <;> rfl),by repeat (first|(with_reducible first|exact HB.out|apply below_alloc|apply pw_below_drewN|apply below_drew1|refine below_set ?_ QI.out)|exact HB.out)⟩

end Go.Proofs.Ytnmephdamgofnaa.PA
