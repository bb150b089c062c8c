/- Written by a program of this session (wip/jprint.py, over the printer of the kit): functions that a law comes to, as plain Lean functions, and walks; Lean checks it. -/
import Derived.Test.YtnmephdamgofnaaPTx0
namespace Go.Proofs.Ytnmephdamgofnaa.PT
open Go.RowKit Go.Proofs.Ytnmephdamgofnaa.Hand Go.Proofs.Ytnmephdamgofnaa.PA Go.Proofs.Ytnmephdamgofnaa.PB Go.Proofs.YtnmephdamgofnaaW.PrintWords Go.Proofs.YtnmephdamgofnaaW.PrintLast Go.Proofs.YtnmephdamgofnaaW.PrintMore
attribute [local go_sem] max2_int min2_int max_two min_two max_three min_three max_four min_four   -- for this text's walks alone
set_option linter.unusedVariables false
set_option linter.unusedSimpArgs false

theorem nl_ {wp w1 : World} {g g' : Nat} {o : Obj} (h : Aside0 (wp.heap[g]? = some o)) (hg : g' = w1.heap.size) (hs : wp.heap[g]? = some o→w1.heap[g]? = some o:=by (intro h_;repeat (first|(with_reducible exact h_)|(with_reducible refine blk_drewN ?_ _)|(with_reducible refine blk_drew ?_)|(with_reducible refine blk_alloc ?_ _)))) : Aside0 (g ≠ g'):=⟨by rw [hg];exact Nat.ne_of_lt (blk_lt (hs h.out))⟩
theorem ng_ {wp w1 : World} {g g' : Nat} {o : Obj} (h : Aside0 (wp.heap[g]? = some o)) (hg : g' = w1.heap.size) (hs : wp.heap[g]? = some o→w1.heap[g]? = some o:=by (intro h_;repeat (first|(with_reducible exact h_)|(with_reducible refine blk_drewN ?_ _)|(with_reducible refine blk_drew ?_)|(with_reducible refine blk_alloc ?_ _)))) : Aside0 (g' ≠ g):=⟨by rw [hg];exact Nat.ne_of_gt (blk_lt (hs h.out))⟩
theorem kb_ {wp w1 w' : World} {g : Nat} {o : Obj} (h : Aside0 (wp.heap[g]? = some o)) (hb : Below w1.heap.size w1 w') (hs : wp.heap[g]? = some o→w1.heap[g]? = some o:=by (intro h_;repeat (first|(with_reducible exact h_)|(with_reducible refine blk_drewN ?_ _)|(with_reducible refine blk_drew ?_)|(with_reducible refine blk_alloc ?_ _)|(refine blk_far ?_ (Aside0.out (by assumption)) _)))) : Aside0 (w'.heap[g]? = some o):=⟨blk_below (hs h.out) hb⟩
theorem kr_ {α : Type} {d : Kd α} {e : Nat} {wp w1 w' : World} {base : Nat} {ok : Nat→Prop} {v : Value} {xs : List α} (h : Aside0 (d.R e wp base ok v xs)) (hb : Below w1.heap.size w1 w') (hs : d.R e wp base ok v xs→d.R e w1 base ok v xs:=by (intro h_;with_reducible repeat (first|exact h_|apply Kd.R_alloc|apply Kd.R_drewN|apply Kd.R_drew))) : Aside0 (d.R e w' base ok v xs):=⟨Kd.R_below (hs h.out) hb⟩
theorem ks_ {w W0 W w2 : World} (h : Aside0 (Below w.heap.size w W0)) (hb : Below W.heap.size W w2) (hs : Below w.heap.size w W0→Below w.heap.size w W:=by (intro h_;repeat (first|(with_reducible first|exact h_|apply below_alloc|apply pw_below_drewN|apply below_drew1|refine below_set ?_ (Aside0.out (by assumption)))|exact h_))) : Aside0 (Below w.heap.size w w2):=⟨below_step (hs h.out) hb⟩
theorem kz_ {w W0 W : World} (h : Aside0 (Below w.heap.size w W0)) (hs : Below w.heap.size w W0→Below w.heap.size w W:=by (intro h_;repeat (first|(with_reducible first|exact h_|apply below_alloc|apply pw_below_drewN|apply below_drew1|refine below_set ?_ (Aside0.out (by assumption)))|exact h_))) : w.heap.size ≤ W.heap.size:=below_size (hs h.out)
theorem rf4_ {α : Type} {d : Kd α} {e : Nat} {w : World} {base g : Nat} {ok : Nat→Prop} {v : Value} {xs : List α} {a b c z : Value} (h : d.R e w base (fun k=>ok k∧k ≠ g) v xs) : d.R e ((((w.setCell ⟨g,0,none⟩ a).setCell ⟨g,1,none⟩ b).setCell ⟨g,2,none⟩ c).setCell ⟨g,3,none⟩ z) base ok v xs :=
 Kd.R_mono (Kd.R_far (p:=⟨g,3,none⟩) (Kd.R_far (p:=⟨g,2,none⟩) (Kd.R_far (p:=⟨g,1,none⟩) (Kd.R_far (p:=⟨g,0,none⟩) h (fun _ hk=>hk.2) a) (fun _ hk=>hk.2) b) (fun _ hk=>hk.2) c) (fun _ hk=>hk.2) z) (fun _ h_=>h_.1)
/-! ### vesperslaw15_ResyncTogether: function 4 -/
mutual
def vesperslaw15_ResyncTogether.j0 : Nat→List Int→List Int→Int→Bool→Int→Bool→Int→Int→Int→Int→Int→Int→Int→Int→Int→Int→Int→Int→Int→Int→Int→Int→Option (Bool)
 | 0,_,_,_,_,_,_,_,_,_,_,_,_,_,_,_,_,_,_,_,_,_,_=>none
 | k + 1,x1,x2,x3,x9,x10,x54,q00,q01,q02,q03,q04,q05,q06,q07,q08,q09,q10,q11,q12,q13,q14,q15=>if x54 = true then (some x9) else (if 0 < (x1.length : Int) then (vesperslaw15_ResyncTogether.l0 k x1 x2 x3 x9 x10 (rd x1 0) (rd x1 0) x1 (x1.length : Int) 0 q00 q01 q02 q03 q04 q05 q06 q07 q08 q09 q10 q11 q12 q13 q14 q15) else (none))
def vesperslaw15_ResyncTogether.l0 : Nat→List Int→List Int→Int→Bool→Int→Int→Int→List Int→Int→Int→Int→Int→Int→Int→Int→Int→Int→Int→Int→Int→Int→Int→Int→Int→Int→Int→Option (Bool)
 | 0,_,_,_,_,_,_,_,_,_,_,_,_,_,_,_,_,_,_,_,_,_,_,_,_,_,_=>none
 | k + 1,x1,x2,x3,x9,x10,QI,QJ,x62,x63,x64,q00,q01,q02,q03,q04,q05,q06,q07,q08,q09,q10,q11,q12,q13,q14,q15=>if x64 < x63 then (if 0 ≤ x64 then (if x64 < (x62.length : Int) then (if (rd x62 x64) < (-1073741824) then (some x9) else (if (rd x62 x64) > 1073741824 then (some x9) else (vesperslaw15_ResyncTogether.l0 k x1 x2 x3 x9 x10 (mn QI (rd x62 x64)) (mx QJ (rd x62 x64)) x62 x63 (wrap64 (x64 + 1)) q00 q01 q02 q03 q04 q05 q06 q07 q08 q09 q10 q11 q12 q13 q14 q15))) else (none)) else (none)) else (vesperslaw15_ResyncTogether.l1 k x1 x2 x3 x9 x10 QI QJ ([] : List Int) x10 0 q00 q01 q02 q03 q04 q05 q06 q07 q08 q09 q10 q11 q12 q13 q14 q15)
def vesperslaw15_ResyncTogether.l1 : Nat→List Int→List Int→Int→Bool→Int→Int→Int→List Int→Int→Int→Int→Int→Int→Int→Int→Int→Int→Int→Int→Int→Int→Int→Int→Int→Int→Int→Option (Bool)
 | 0,_,_,_,_,_,_,_,_,_,_,_,_,_,_,_,_,_,_,_,_,_,_,_,_,_,_=>none
 | k + 1,x1,x2,x3,x9,x10,QI,QJ,QF,x82,x83,q00,q01,q02,q03,q04,q05,q06,q07,q08,q09,q10,q11,q12,q13,q14,q15=>if x83 < x82 then (vesperslaw15_ResyncTogether.l2 k x1 x2 x3 x9 x10 QI QJ QF x83 ([] : List Int) x82 x83 x10 0 q00 q01 q02 q03 q04 q05 q06 q07 q08 q09 q10 q11 q12 q13 q14 q15) else (vesperslaw15_ResyncTogether.l3 k x3 x9 QI QJ QF (QF.length : Int) 0)
def vesperslaw15_ResyncTogether.l2 : Nat→List Int→List Int→Int→Bool→Int→Int→Int→List Int→Int→List Int→Int→Int→Int→Int→Int→Int→Int→Int→Int→Int→Int→Int→Int→Int→Int→Int→Int→Int→Int→Int→Option (Bool)
 | 0,_,_,_,_,_,_,_,_,_,_,_,_,_,_,_,_,_,_,_,_,_,_,_,_,_,_,_,_,_,_=>none
 | k + 1,x1,x2,x3,x9,x10,QI,QJ,QF,QK,x17,x82,x83,x86,x87,q00,q01,q02,q03,q04,q05,q06,q07,q08,q09,q10,q11,q12,q13,q14,q15=>if x87 < x86 then (if x87 = QK then (if 0 ≤ QK then (if QK < (x1.length : Int) then (if 0 ≤ x87 then (if x87 < (x1.length : Int) then (if x17.length < 17592186044416 then (vesperslaw15_ResyncTogether.l2 k x1 x2 x3 x9 x10 QI QJ QF QK (x17++[wrap64 (wrap64 ((rd x1 QK) - (rd x1 x87)))]) x82 x83 x86 (wrap64 (x87 + 1)) q00 q01 q02 q03 q04 q05 q06 q07 q08 q09 q10 q11 q12 q13 q14 q15) else (none)) else (none)) else (none)) else (none)) else (none)) else (if (wrap64 ((wrap64 (QK * x10)) + x87)) < (x2.length : Int) then (if 0 ≤ (wrap64 ((wrap64 (QK * x10)) + x87)) then (if (wrap64 (x3 + 1)) = 0 then (none) else (if 0 ≤ QK then (if QK < (x1.length : Int) then (if 0 ≤ x87 then (if x87 < (x1.length : Int) then (if x17.length < 17592186044416 then (vesperslaw15_ResyncTogether.l2 k x1 x2 x3 x9 x10 QI QJ QF QK (x17++[wrap64 ((wrap64 ((rd x1 QK) - (rd x1 x87))) + (Int.tmod (rd x2 (wrap64 ((wrap64 (QK * x10)) + x87))) (wrap64 (x3 + 1))))]) x82 x83 x86 (wrap64 (x87 + 1)) q00 q01 q02 q03 q04 q05 q06 q07 q08 q09 q10 q11 q12 q13 q14 q15) else (none)) else (none)) else (none)) else (none)) else (none))) else (none)) else (if 0 ≤ QK then (if QK < (x1.length : Int) then (if 0 ≤ x87 then (if x87 < (x1.length : Int) then (if x17.length < 17592186044416 then (vesperslaw15_ResyncTogether.l2 k x1 x2 x3 x9 x10 QI QJ QF QK (x17++[wrap64 (wrap64 ((rd x1 QK) - (rd x1 x87)))]) x82 x83 x86 (wrap64 (x87 + 1)) q00 q01 q02 q03 q04 q05 q06 q07 q08 q09 q10 q11 q12 q13 q14 q15) else (none)) else (none)) else (none)) else (none)) else (none)))) else ((resync_Correction.f k q00 q01 q02 q03 q04 q05 q06 q07 q08 q09 q10 q11 q12 q13 q14 q15 x17).bind fun bt123=>(if bt123.2 = 151 then (some x9) else (if bt123.2 = 0 then (if 0 ≤ QK then (if QK < (x1.length : Int) then (if QF.length < 17592186044416 then (vesperslaw15_ResyncTogether.l1 k x1 x2 x3 x9 x10 QI QJ (QF++[wrap64 ((rd x1 QK) + bt123.1)]) x82 (wrap64 (x83 + 1)) q00 q01 q02 q03 q04 q05 q06 q07 q08 q09 q10 q11 q12 q13 q14 q15) else (none)) else (none)) else (none)) else (none))))
def vesperslaw15_ResyncTogether.l3 : Nat→Int→Bool→Int→Int→List Int→Int→Int→Option (Bool)
 | 0,_,_,_,_,_,_,_=>none
 | k + 1,x3,x9,QI,QJ,QF,x148,QE=>if QE < x148 then (if 0 ≤ QE then (if QE < (QF.length : Int) then (if (rd QF QE) < (wrap64 (QI - x3)) then (vesperslaw15_ResyncTogether.j5 k x3 x9 QI QJ QF QE x148 QE true) else (vesperslaw15_ResyncTogether.j5 k x3 x9 QI QJ QF QE x148 QE (decide ((rd QF QE) > (wrap64 (QJ + x3)))))) else (none)) else (none)) else (some x9)
def vesperslaw15_ResyncTogether.j5 : Nat→Int→Bool→Int→Int→List Int→Int→Int→Int→Bool→Option (Bool)
 | 0,_,_,_,_,_,_,_,_,_=>none
 | k + 1,x3,x9,QI,QJ,QF,x23,x148,QE,x169=>if x169 = true then (none) else (vesperslaw15_ResyncTogether.l4 k x3 x9 QI QJ QF x23 x148 QE x23 0)
def vesperslaw15_ResyncTogether.l4 : Nat→Int→Bool→Int→Int→List Int→Int→Int→Int→Int→Int→Option (Bool)
 | 0,_,_,_,_,_,_,_,_,_,_=>none
 | k + 1,x3,x9,QI,QJ,QF,x23,x148,QE,x170,x171=>if x171 < x170 then (if 0 ≤ x23 then (if x23 < (QF.length : Int) then (if 0 ≤ x171 then (if x171 < (QF.length : Int) then (if (wrap64 ((rd QF x23) - (rd QF x171))) > (wrap64 (2 * x3)) then (none) else (if (wrap64 ((rd QF x171) - (rd QF x23))) > (wrap64 (2 * x3)) then (none) else (vesperslaw15_ResyncTogether.l4 k x3 x9 QI QJ QF x23 x148 QE x170 (wrap64 (x171 + 1))))) else (none)) else (none)) else (none)) else (none)) else (vesperslaw15_ResyncTogether.l3 k x3 x9 QI QJ QF x148 (wrap64 (QE + 1)))
end
def vesperslaw15_ResyncTogether.f (k : Nat) (Qn : Int) (Qk : Int) (Qo : Int) (Qp : Int) (Qq : Int) (Qr : Int) (Qs : Int) (Qt : Int) (Qu : Int) (Qv : Int) (Qc : Int) (Qd : Int) (Qe : Int) (Qf : Int) (Qg : Int) (Qh : Int) (l1 : List Int) (l2 : List Int) (a3 : Int) : Option (Bool):=(vesperslaw15_alive.f k).bind fun Qy=>((plan_Check.f Qn Qk Qo Qp Qq Qr Qs Qt Qu Qv Qc Qd Qe Qf Qg Qh).bind fun QD=>(if QD = 0 then (if (l1.length : Int) < (wrap64 ((wrap64 (2 * Qk)) + 1)) then (vesperslaw15_ResyncTogether.j0 k l1 l2 a3 Qy (l1.length : Int) true Qn Qk Qo Qp Qq Qr Qs Qt Qu Qv Qc Qd Qe Qf Qg Qh) else (if (l1.length : Int) > 16 then (vesperslaw15_ResyncTogether.j0 k l1 l2 a3 Qy (l1.length : Int) true Qn Qk Qo Qp Qq Qr Qs Qt Qu Qv Qc Qd Qe Qf Qg Qh) else (if a3 < 0 then (vesperslaw15_ResyncTogether.j0 k l1 l2 a3 Qy (l1.length : Int) true Qn Qk Qo Qp Qq Qr Qs Qt Qu Qv Qc Qd Qe Qf Qg Qh) else (if a3 > 1048576 then (vesperslaw15_ResyncTogether.j0 k l1 l2 a3 Qy (l1.length : Int) true Qn Qk Qo Qp Qq Qr Qs Qt Qu Qv Qc Qd Qe Qf Qg Qh) else (vesperslaw15_ResyncTogether.j0 k l1 l2 a3 Qy (l1.length : Int) (!Qy) Qn Qk Qo Qp Qq Qr Qs Qt Qu Qv Qc Qd Qe Qf Qg Qh))))) else (vesperslaw15_ResyncTogether.j0 k l1 l2 a3 Qy (l1.length : Int) true Qn Qk Qo Qp Qq Qr Qs Qt Qu Qv Qc Qd Qe Qf Qg Qh)))
theorem vesperslaw15_ResyncTogether.mono_l : ∀ k,(∀ y0 y1 y2 y3 y4 y5 y6 y7 y8 y9 y10 y11 y12 y13 y14 y15 y16 y17 y18 y19 y20 y21,LeO (vesperslaw15_ResyncTogether.j0 k y0 y1 y2 y3 y4 y5 y6 y7 y8 y9 y10 y11 y12 y13 y14 y15 y16 y17 y18 y19 y20 y21) (vesperslaw15_ResyncTogether.j0 (k + 1) y0 y1 y2 y3 y4 y5 y6 y7 y8 y9 y10 y11 y12 y13 y14 y15 y16 y17 y18 y19 y20 y21))∧(∀ y0 y1 y2 y3 y4 y5 y6 y7 y8 y9 y10 y11 y12 y13 y14 y15 y16 y17 y18 y19 y20 y21 y22 y23 y24 y25,LeO (vesperslaw15_ResyncTogether.l0 k y0 y1 y2 y3 y4 y5 y6 y7 y8 y9 y10 y11 y12 y13 y14 y15 y16 y17 y18 y19 y20 y21 y22 y23 y24 y25) (vesperslaw15_ResyncTogether.l0 (k + 1) y0 y1 y2 y3 y4 y5 y6 y7 y8 y9 y10 y11 y12 y13 y14 y15 y16 y17 y18 y19 y20 y21 y22 y23 y24 y25))∧(∀ y0 y1 y2 y3 y4 y5 y6 y7 y8 y9 y10 y11 y12 y13 y14 y15 y16 y17 y18 y19 y20 y21 y22 y23 y24 y25,LeO (vesperslaw15_ResyncTogether.l1 k y0 y1 y2 y3 y4 y5 y6 y7 y8 y9 y10 y11 y12 y13 y14 y15 y16 y17 y18 y19 y20 y21 y22 y23 y24 y25) (vesperslaw15_ResyncTogether.l1 (k + 1) y0 y1 y2 y3 y4 y5 y6 y7 y8 y9 y10 y11 y12 y13 y14 y15 y16 y17 y18 y19 y20 y21 y22 y23 y24 y25))∧(∀ y0 y1 y2 y3 y4 y5 y6 y7 y8 y9 y10 y11 y12 y13 y14 y15 y16 y17 y18 y19 y20 y21 y22 y23 y24 y25 y26 y27 y28 y29,LeO (vesperslaw15_ResyncTogether.l2 k y0 y1 y2 y3 y4 y5 y6 y7 y8 y9 y10 y11 y12 y13 y14 y15 y16 y17 y18 y19 y20 y21 y22 y23 y24 y25 y26 y27 y28 y29) (vesperslaw15_ResyncTogether.l2 (k + 1) y0 y1 y2 y3 y4 y5 y6 y7 y8 y9 y10 y11 y12 y13 y14 y15 y16 y17 y18 y19 y20 y21 y22 y23 y24 y25 y26 y27 y28 y29))∧(∀ y0 y1 y2 y3 y4 y5 y6,LeO (vesperslaw15_ResyncTogether.l3 k y0 y1 y2 y3 y4 y5 y6) (vesperslaw15_ResyncTogether.l3 (k + 1) y0 y1 y2 y3 y4 y5 y6))∧(∀ y0 y1 y2 y3 y4 y5 y6 y7 y8,LeO (vesperslaw15_ResyncTogether.j5 k y0 y1 y2 y3 y4 y5 y6 y7 y8) (vesperslaw15_ResyncTogether.j5 (k + 1) y0 y1 y2 y3 y4 y5 y6 y7 y8))∧(∀ y0 y1 y2 y3 y4 y5 y6 y7 y8 y9,LeO (vesperslaw15_ResyncTogether.l4 k y0 y1 y2 y3 y4 y5 y6 y7 y8 y9) (vesperslaw15_ResyncTogether.l4 (k + 1) y0 y1 y2 y3 y4 y5 y6 y7 y8 y9))
 | 0=>⟨fun _ _ _ _ _ _ _ _ _ _ _ _ _ _ _ _ _ _ _ _ _ _ r h=>by simp [vesperslaw15_ResyncTogether.j0] at h,fun _ _ _ _ _ _ _ _ _ _ _ _ _ _ _ _ _ _ _ _ _ _ _ _ _ _ r h=>by simp [vesperslaw15_ResyncTogether.l0] at h,fun _ _ _ _ _ _ _ _ _ _ _ _ _ _ _ _ _ _ _ _ _ _ _ _ _ _ r h=>by simp [vesperslaw15_ResyncTogether.l1] at h,fun _ _ _ _ _ _ _ _ _ _ _ _ _ _ _ _ _ _ _ _ _ _ _ _ _ _ _ _ _ _ r h=>by simp [vesperslaw15_ResyncTogether.l2] at h,fun _ _ _ _ _ _ _ r h=>by simp [vesperslaw15_ResyncTogether.l3] at h,fun _ _ _ _ _ _ _ _ _ r h=>by simp [vesperslaw15_ResyncTogether.j5] at h,fun _ _ _ _ _ _ _ _ _ _ r h=>by simp [vesperslaw15_ResyncTogether.l4] at h⟩
 | k + 1=>by
  obtain ⟨ih0,ih1,ih2,ih3,ih4,ih5,ih6⟩:=vesperslaw15_ResyncTogether.mono_l k
  refine ⟨?_,?_,?_,?_,?_,?_,?_⟩
  ·intro y0 y1 y2 y3 y4 y5 y6 y7 y8 y9 y10 y11 y12 y13 y14 y15 y16 y17 y18 y19 y20 y21
   unfold vesperslaw15_ResyncTogether.j0
   repeat' first
   | (with_reducible exact ih0 _ _ _ _ _ _ _ _ _ _ _ _ _ _ _ _ _ _ _ _ _ _)
   | (with_reducible exact ih1 _ _ _ _ _ _ _ _ _ _ _ _ _ _ _ _ _ _ _ _ _ _ _ _ _ _)
   | (with_reducible exact ih2 _ _ _ _ _ _ _ _ _ _ _ _ _ _ _ _ _ _ _ _ _ _ _ _ _ _)
   | (with_reducible exact ih3 _ _ _ _ _ _ _ _ _ _ _ _ _ _ _ _ _ _ _ _ _ _ _ _ _ _ _ _ _ _)
   | (with_reducible exact ih4 _ _ _ _ _ _ _)
   | (with_reducible exact ih5 _ _ _ _ _ _ _ _ _)
   | (with_reducible exact ih6 _ _ _ _ _ _ _ _ _ _)
   | (with_reducible exact resync_Correction.mono _ _ _ _ _ _ _ _ _ _ _ _ _ _ _ _ _ _)
   | (with_reducible exact vesperslaw15_alive.mono _)
   | (with_reducible exact LeO.refl _)
   | (with_reducible exact LeO.none _)
   | (with_reducible refine LeO.ite ?_ ?_)
   | (with_reducible refine LeO.bind ?_ (fun _=>?_))
   | exact ih0 _ _ _ _ _ _ _ _ _ _ _ _ _ _ _ _ _ _ _ _ _ _
   | exact ih1 _ _ _ _ _ _ _ _ _ _ _ _ _ _ _ _ _ _ _ _ _ _ _ _ _ _
   | exact ih2 _ _ _ _ _ _ _ _ _ _ _ _ _ _ _ _ _ _ _ _ _ _ _ _ _ _
   | exact ih3 _ _ _ _ _ _ _ _ _ _ _ _ _ _ _ _ _ _ _ _ _ _ _ _ _ _ _ _ _ _
   | exact ih4 _ _ _ _ _ _ _
   | exact ih5 _ _ _ _ _ _ _ _ _
   | exact ih6 _ _ _ _ _ _ _ _ _ _
   | exact resync_Correction.mono _ _ _ _ _ _ _ _ _ _ _ _ _ _ _ _ _ _
   | exact vesperslaw15_alive.mono _
   | exact LeO.none _
   | refine LeO.ite ?_ ?_
   | refine LeO.bind ?_ (fun _=>?_)
  ·intro y0 y1 y2 y3 y4 y5 y6 y7 y8 y9 y10 y11 y12 y13 y14 y15 y16 y17 y18 y19 y20 y21 y22 y23 y24 y25
   unfold vesperslaw15_ResyncTogether.l0
   repeat' first
   | (with_reducible exact ih0 _ _ _ _ _ _ _ _ _ _ _ _ _ _ _ _ _ _ _ _ _ _)
   | (with_reducible exact ih1 _ _ _ _ _ _ _ _ _ _ _ _ _ _ _ _ _ _ _ _ _ _ _ _ _ _)
   | (with_reducible exact ih2 _ _ _ _ _ _ _ _ _ _ _ _ _ _ _ _ _ _ _ _ _ _ _ _ _ _)
   | (with_reducible exact ih3 _ _ _ _ _ _ _ _ _ _ _ _ _ _ _ _ _ _ _ _ _ _ _ _ _ _ _ _ _ _)
   | (with_reducible exact ih4 _ _ _ _ _ _ _)
   | (with_reducible exact ih5 _ _ _ _ _ _ _ _ _)
   | (with_reducible exact ih6 _ _ _ _ _ _ _ _ _ _)
   | (with_reducible exact resync_Correction.mono _ _ _ _ _ _ _ _ _ _ _ _ _ _ _ _ _ _)
   | (with_reducible exact vesperslaw15_alive.mono _)
   | (with_reducible exact LeO.refl _)
   | (with_reducible exact LeO.none _)
   | (with_reducible refine LeO.ite ?_ ?_)
   | (with_reducible refine LeO.bind ?_ (fun _=>?_))
   | exact ih0 _ _ _ _ _ _ _ _ _ _ _ _ _ _ _ _ _ _ _ _ _ _
   | exact ih1 _ _ _ _ _ _ _ _ _ _ _ _ _ _ _ _ _ _ _ _ _ _ _ _ _ _
   | exact ih2 _ _ _ _ _ _ _ _ _ _ _ _ _ _ _ _ _ _ _ _ _ _ _ _ _ _
   | exact ih3 _ _ _ _ _ _ _ _ _ _ _ _ _ _ _ _ _ _ _ _ _ _ _ _ _ _ _ _ _ _
   | exact ih4 _ _ _ _ _ _ _
   | exact ih5 _ _ _ _ _ _ _ _ _
   | exact ih6 _ _ _ _ _ _ _ _ _ _
   | exact resync_Correction.mono _ _ _ _ _ _ _ _ _ _ _ _ _ _ _ _ _ _
   | exact vesperslaw15_alive.mono _
   | exact LeO.none _
   | refine LeO.ite ?_ ?_
   | refine LeO.bind ?_ (fun _=>?_)
  ·intro y0 y1 y2 y3 y4 y5 y6 y7 y8 y9 y10 y11 y12 y13 y14 y15 y16 y17 y18 y19 y20 y21 y22 y23 y24 y25
   unfold vesperslaw15_ResyncTogether.l1
   repeat' first
   | (with_reducible exact ih0 _ _ _ _ _ _ _ _ _ _ _ _ _ _ _ _ _ _ _ _ _ _)
   | (with_reducible exact ih1 _ _ _ _ _ _ _ _ _ _ _ _ _ _ _ _ _ _ _ _ _ _ _ _ _ _)
   | (with_reducible exact ih2 _ _ _ _ _ _ _ _ _ _ _ _ _ _ _ _ _ _ _ _ _ _ _ _ _ _)
   | (with_reducible exact ih3 _ _ _ _ _ _ _ _ _ _ _ _ _ _ _ _ _ _ _ _ _ _ _ _ _ _ _ _ _ _)
   | (with_reducible exact ih4 _ _ _ _ _ _ _)
   | (with_reducible exact ih5 _ _ _ _ _ _ _ _ _)
   | (with_reducible exact ih6 _ _ _ _ _ _ _ _ _ _)
   | (with_reducible exact resync_Correction.mono _ _ _ _ _ _ _ _ _ _ _ _ _ _ _ _ _ _)
   | (with_reducible exact vesperslaw15_alive.mono _)
   | (with_reducible exact LeO.refl _)
   | (with_reducible exact LeO.none _)
   | (with_reducible refine LeO.ite ?_ ?_)
   | (with_reducible refine LeO.bind ?_ (fun _=>?_))
   | exact ih0 _ _ _ _ _ _ _ _ _ _ _ _ _ _ _ _ _ _ _ _ _ _
   | exact ih1 _ _ _ _ _ _ _ _ _ _ _ _ _ _ _ _ _ _ _ _ _ _ _ _ _ _
   | exact ih2 _ _ _ _ _ _ _ _ _ _ _ _ _ _ _ _ _ _ _ _ _ _ _ _ _ _
   | exact ih3 _ _ _ _ _ _ _ _ _ _ _ _ _ _ _ _ _ _ _ _ _ _ _ _ _ _ _ _ _ _
   | exact ih4 _ _ _ _ _ _ _
   | exact ih5 _ _ _ _ _ _ _ _ _
   | exact ih6 _ _ _ _ _ _ _ _ _ _
   | exact resync_Correction.mono _ _ _ _ _ _ _ _ _ _ _ _ _ _ _ _ _ _
   | exact vesperslaw15_alive.mono _
   | exact LeO.none _
   | refine LeO.ite ?_ ?_
   | refine LeO.bind ?_ (fun _=>?_)
  ·intro y0 y1 y2 y3 y4 y5 y6 y7 y8 y9 y10 y11 y12 y13 y14 y15 y16 y17 y18 y19 y20 y21 y22 y23 y24 y25 y26 y27 y28 y29
   unfold vesperslaw15_ResyncTogether.l2
   repeat' first
   | (with_reducible exact ih0 _ _ _ _ _ _ _ _ _ _ _ _ _ _ _ _ _ _ _ _ _ _)
   | (with_reducible exact ih1 _ _ _ _ _ _ _ _ _ _ _ _ _ _ _ _ _ _ _ _ _ _ _ _ _ _)
   | (with_reducible exact ih2 _ _ _ _ _ _ _ _ _ _ _ _ _ _ _ _ _ _ _ _ _ _ _ _ _ _)
   | (with_reducible exact ih3 _ _ _ _ _ _ _ _ _ _ _ _ _ _ _ _ _ _ _ _ _ _ _ _ _ _ _ _ _ _)
   | (with_reducible exact ih4 _ _ _ _ _ _ _)
   | (with_reducible exact ih5 _ _ _ _ _ _ _ _ _)
   | (with_reducible exact ih6 _ _ _ _ _ _ _ _ _ _)
   | (with_reducible exact resync_Correction.mono _ _ _ _ _ _ _ _ _ _ _ _ _ _ _ _ _ _)
   | (with_reducible exact vesperslaw15_alive.mono _)
   | (with_reducible exact LeO.refl _)
   | (with_reducible exact LeO.none _)
   | (with_reducible refine LeO.ite ?_ ?_)
   | (with_reducible refine LeO.bind ?_ (fun _=>?_))
   | exact ih0 _ _ _ _ _ _ _ _ _ _ _ _ _ _ _ _ _ _ _ _ _ _
   | exact ih1 _ _ _ _ _ _ _ _ _ _ _ _ _ _ _ _ _ _ _ _ _ _ _ _ _ _
   | exact ih2 _ _ _ _ _ _ _ _ _ _ _ _ _ _ _ _ _ _ _ _ _ _ _ _ _ _
   | exact ih3 _ _ _ _ _ _ _ _ _ _ _ _ _ _ _ _ _ _ _ _ _ _ _ _ _ _ _ _ _ _
   | exact ih4 _ _ _ _ _ _ _
   | exact ih5 _ _ _ _ _ _ _ _ _
   | exact ih6 _ _ _ _ _ _ _ _ _ _
   | exact resync_Correction.mono _ _ _ _ _ _ _ _ _ _ _ _ _ _ _ _ _ _
   | exact vesperslaw15_alive.mono _
   | exact LeO.none _
   | refine LeO.ite ?_ ?_
   | refine LeO.bind ?_ (fun _=>?_)
  ·intro y0 y1 y2 y3 y4 y5 y6
   unfold vesperslaw15_ResyncTogether.l3
   repeat' first
   | (with_reducible exact ih0 _ _ _ _ _ _ _ _ _ _ _ _ _ _ _ _ _ _ _ _ _ _)
   | (with_reducible exact ih1 _ _ _ _ _ _ _ _ _ _ _ _ _ _ _ _ _ _ _ _ _ _ _ _ _ _)
   | (with_reducible exact ih2 _ _ _ _ _ _ _ _ _ _ _ _ _ _ _ _ _ _ _ _ _ _ _ _ _ _)
   | (with_reducible exact ih3 _ _ _ _ _ _ _ _ _ _ _ _ _ _ _ _ _ _ _ _ _ _ _ _ _ _ _ _ _ _)
   | (with_reducible exact ih4 _ _ _ _ _ _ _)
   | (with_reducible exact ih5 _ _ _ _ _ _ _ _ _)
   | (with_reducible exact ih6 _ _ _ _ _ _ _ _ _ _)
   | (with_reducible exact resync_Correction.mono _ _ _ _ _ _ _ _ _ _ _ _ _ _ _ _ _ _)
   | (with_reducible exact vesperslaw15_alive.mono _)
   | (with_reducible exact LeO.refl _)
   | (with_reducible exact LeO.none _)
   | (with_reducible refine LeO.ite ?_ ?_)
   | (with_reducible refine LeO.bind ?_ (fun _=>?_))
   | exact ih0 _ _ _ _ _ _ _ _ _ _ _ _ _ _ _ _ _ _ _ _ _ _
   | exact ih1 _ _ _ _ _ _ _ _ _ _ _ _ _ _ _ _ _ _ _ _ _ _ _ _ _ _
   | exact ih2 _ _ _ _ _ _ _ _ _ _ _ _ _ _ _ _ _ _ _ _ _ _ _ _ _ _
   | exact ih3 _ _ _ _ _ _ _ _ _ _ _ _ _ _ _ _ _ _ _ _ _ _ _ _ _ _ _ _ _ _
   | exact ih4 _ _ _ _ _ _ _
   | exact ih5 _ _ _ _ _ _ _ _ _
   | exact ih6 _ _ _ _ _ _ _ _ _ _
   | exact resync_Correction.mono _ _ _ _ _ _ _ _ _ _ _ _ _ _ _ _ _ _
   | exact vesperslaw15_alive.mono _
   | exact LeO.none _
   | refine LeO.ite ?_ ?_
   | refine LeO.bind ?_ (fun _=>?_)
  ·intro y0 y1 y2 y3 y4 y5 y6 y7 y8
   unfold vesperslaw15_ResyncTogether.j5
   repeat' first
   | (with_reducible exact ih0 _ _ _ _ _ _ _ _ _ _ _ _ _ _ _ _ _ _ _ _ _ _)
   | (with_reducible exact ih1 _ _ _ _ _ _ _ _ _ _ _ _ _ _ _ _ _ _ _ _ _ _ _ _ _ _)
   | (with_reducible exact ih2 _ _ _ _ _ _ _ _ _ _ _ _ _ _ _ _ _ _ _ _ _ _ _ _ _ _)
   | (with_reducible exact ih3 _ _ _ _ _ _ _ _ _ _ _ _ _ _ _ _ _ _ _ _ _ _ _ _ _ _ _ _ _ _)
   | (with_reducible exact ih4 _ _ _ _ _ _ _)
   | (with_reducible exact ih5 _ _ _ _ _ _ _ _ _)
   | (with_reducible exact ih6 _ _ _ _ _ _ _ _ _ _)
   | (with_reducible exact resync_Correction.mono _ _ _ _ _ _ _ _ _ _ _ _ _ _ _ _ _ _)
   | (with_reducible exact vesperslaw15_alive.mono _)
   | (with_reducible exact LeO.refl _)
   | (with_reducible exact LeO.none _)
   | (with_reducible refine LeO.ite ?_ ?_)
   | (with_reducible refine LeO.bind ?_ (fun _=>?_))
   | exact ih0 _ _ _ _ _ _ _ _ _ _ _ _ _ _ _ _ _ _ _ _ _ _
   | exact ih1 _ _ _ _ _ _ _ _ _ _ _ _ _ _ _ _ _ _ _ _ _ _ _ _ _ _
   | exact ih2 _ _ _ _ _ _ _ _ _ _ _ _ _ _ _ _ _ _ _ _ _ _ _ _ _ _
   | exact ih3 _ _ _ _ _ _ _ _ _ _ _ _ _ _ _ _ _ _ _ _ _ _ _ _ _ _ _ _ _ _
   | exact ih4 _ _ _ _ _ _ _
   | exact ih5 _ _ _ _ _ _ _ _ _
   | exact ih6 _ _ _ _ _ _ _ _ _ _
   | exact resync_Correction.mono _ _ _ _ _ _ _ _ _ _ _ _ _ _ _ _ _ _
   | exact vesperslaw15_alive.mono _
   | exact LeO.none _
   | refine LeO.ite ?_ ?_
   | refine LeO.bind ?_ (fun _=>?_)
  ·intro y0 y1 y2 y3 y4 y5 y6 y7 y8 y9
   unfold vesperslaw15_ResyncTogether.l4
   repeat' first
   | (with_reducible exact ih0 _ _ _ _ _ _ _ _ _ _ _ _ _ _ _ _ _ _ _ _ _ _)
   | (with_reducible exact ih1 _ _ _ _ _ _ _ _ _ _ _ _ _ _ _ _ _ _ _ _ _ _ _ _ _ _)
   | (with_reducible exact ih2 _ _ _ _ _ _ _ _ _ _ _ _ _ _ _ _ _ _ _ _ _ _ _ _ _ _)
   | (with_reducible exact ih3 _ _ _ _ _ _ _ _ _ _ _ _ _ _ _ _ _ _ _ _ _ _ _ _ _ _ _ _ _ _)
   | (with_reducible exact ih4 _ _ _ _ _ _ _)
   | (with_reducible exact ih5 _ _ _ _ _ _ _ _ _)
   | (with_reducible exact ih6 _ _ _ _ _ _ _ _ _ _)
   | (with_reducible exact resync_Correction.mono _ _ _ _ _ _ _ _ _ _ _ _ _ _ _ _ _ _)
   | (with_reducible exact vesperslaw15_alive.mono _)
   | (with_reducible exact LeO.refl _)
   | (with_reducible exact LeO.none _)
   | (with_reducible refine LeO.ite ?_ ?_)
   | (with_reducible refine LeO.bind ?_ (fun _=>?_))
   | exact ih0 _ _ _ _ _ _ _ _ _ _ _ _ _ _ _ _ _ _ _ _ _ _
   | exact ih1 _ _ _ _ _ _ _ _ _ _ _ _ _ _ _ _ _ _ _ _ _ _ _ _ _ _
   | exact ih2 _ _ _ _ _ _ _ _ _ _ _ _ _ _ _ _ _ _ _ _ _ _ _ _ _ _
   | exact ih3 _ _ _ _ _ _ _ _ _ _ _ _ _ _ _ _ _ _ _ _ _ _ _ _ _ _ _ _ _ _
   | exact ih4 _ _ _ _ _ _ _
   | exact ih5 _ _ _ _ _ _ _ _ _
   | exact ih6 _ _ _ _ _ _ _ _ _ _
   | exact resync_Correction.mono _ _ _ _ _ _ _ _ _ _ _ _ _ _ _ _ _ _
   | exact vesperslaw15_alive.mono _
   | exact LeO.none _
   | refine LeO.ite ?_ ?_
   | refine LeO.bind ?_ (fun _=>?_)
theorem vesperslaw15_ResyncTogether.mono : ∀ a0 a1 a2 a3 a4 a5 a6 a7 a8 a9 a10 a11 a12 a13 a14 a15 a16 a17 a18 k,LeO (vesperslaw15_ResyncTogether.f k a0 a1 a2 a3 a4 a5 a6 a7 a8 a9 a10 a11 a12 a13 a14 a15 a16 a17 a18) (vesperslaw15_ResyncTogether.f (k + 1) a0 a1 a2 a3 a4 a5 a6 a7 a8 a9 a10 a11 a12 a13 a14 a15 a16 a17 a18):=by
 intro a0 a1 a2 a3 a4 a5 a6 a7 a8 a9 a10 a11 a12 a13 a14 a15 a16 a17 a18 k
 obtain ⟨ih0,ih1,ih2,ih3,ih4,ih5,ih6⟩:=vesperslaw15_ResyncTogether.mono_l k
 unfold vesperslaw15_ResyncTogether.f
 repeat' first
   | (with_reducible exact ih0 _ _ _ _ _ _ _ _ _ _ _ _ _ _ _ _ _ _ _ _ _ _)
   | (with_reducible exact ih1 _ _ _ _ _ _ _ _ _ _ _ _ _ _ _ _ _ _ _ _ _ _ _ _ _ _)
   | (with_reducible exact ih2 _ _ _ _ _ _ _ _ _ _ _ _ _ _ _ _ _ _ _ _ _ _ _ _ _ _)
   | (with_reducible exact ih3 _ _ _ _ _ _ _ _ _ _ _ _ _ _ _ _ _ _ _ _ _ _ _ _ _ _ _ _ _ _)
   | (with_reducible exact ih4 _ _ _ _ _ _ _)
   | (with_reducible exact ih5 _ _ _ _ _ _ _ _ _)
   | (with_reducible exact ih6 _ _ _ _ _ _ _ _ _ _)
   | (with_reducible exact resync_Correction.mono _ _ _ _ _ _ _ _ _ _ _ _ _ _ _ _ _ _)
   | (with_reducible exact vesperslaw15_alive.mono _)
   | (with_reducible exact LeO.refl _)
   | (with_reducible exact LeO.none _)
   | (with_reducible refine LeO.ite ?_ ?_)
   | (with_reducible refine LeO.bind ?_ (fun _=>?_))
   | exact ih0 _ _ _ _ _ _ _ _ _ _ _ _ _ _ _ _ _ _ _ _ _ _
   | exact ih1 _ _ _ _ _ _ _ _ _ _ _ _ _ _ _ _ _ _ _ _ _ _ _ _ _ _
   | exact ih2 _ _ _ _ _ _ _ _ _ _ _ _ _ _ _ _ _ _ _ _ _ _ _ _ _ _
   | exact ih3 _ _ _ _ _ _ _ _ _ _ _ _ _ _ _ _ _ _ _ _ _ _ _ _ _ _ _ _ _ _
   | exact ih4 _ _ _ _ _ _ _
   | exact ih5 _ _ _ _ _ _ _ _ _
   | exact ih6 _ _ _ _ _ _ _ _ _ _
   | exact resync_Correction.mono _ _ _ _ _ _ _ _ _ _ _ _ _ _ _ _ _ _
   | exact vesperslaw15_alive.mono _
   | exact LeO.none _
   | refine LeO.ite ?_ ?_
   | refine LeO.bind ?_ (fun _=>?_)
def vesperslaw15_ResyncTogether.T5 : Bool × List (List Nat × List Nat):=(true,[([],[]),([0],[0]),([1],[1]),([],[]),([3],[3]),([4],[4]),([2,0,1,2],[2]),([5,6,0,1,2,3,4,5,6],[5])])
def vesperslaw15_ResyncTogether.B5 : List Nat:=[0,1,3,0,8,24,7,127]
theorem vesperslaw15_ResyncTogether.tab5 : rtab .any (opsOf Try.f4 5) = vesperslaw15_ResyncTogether.T5:=by kernel_rfl
theorem vesperslaw15_ResyncTogether.bits5 : waitsOk vesperslaw15_ResyncTogether.T5.2 vesperslaw15_ResyncTogether.B5 = true:=by kernel_rfl
def vesperslaw15_ResyncTogether.T25 : Bool × List (List Nat × List Nat):=(true,[([],[]),([],[]),([],[]),([1,2],[1,2]),([3],[3]),([],[]),([],[]),([5,6],[5,6]),([7],[7]),([4,8],[4,8]),([],[]),([9,10],[9,10]),([11],[11]),([0,12],[0,12]),([13,13,0,1,2,3,4,5,6,7,8,9,10,11,12,13],[0,13])])
def vesperslaw15_ResyncTogether.B25 : List Nat:=[0,0,0,6,14,0,0,96,224,510,0,2046,4094,8191,16383]
theorem vesperslaw15_ResyncTogether.tab25 : rtab .any (opsOf Try.f4 25) = vesperslaw15_ResyncTogether.T25:=by kernel_rfl
theorem vesperslaw15_ResyncTogether.bits25 : waitsOk vesperslaw15_ResyncTogether.T25.2 vesperslaw15_ResyncTogether.B25 = true:=by kernel_rfl
def vesperslaw15_ResyncTogether.T42 : Bool × List (List Nat × List Nat):=(true,[([],[]),([],[]),([0,1],[0,1]),([2],[2]),([],[]),([],[]),([4,5],[4,5]),([6],[6]),([3,7],[3,7]),([],[]),([9],[9]),([8,10],[8,10]),([11],[11]),([12],[12]),([12],[12]),([13,14,12],[12,13,14]),([15,12],[12,15]),([12],[12]),([12],[12]),([17,18,12],[12,17,18]),([19,12],[12,19]),([16,20,12],[12,16,20]),([12],[12]),([22,12],[12,22]),([21,23,12],[12,21,23]),([12,24],[12,24])])
def vesperslaw15_ResyncTogether.B42 : List Nat:=[0,0,3,7,0,0,48,112,255,0,512,2047,4095,8191,8191,32767,65535,8191,8191,401407,925695,2097151,8191,4202495,16777215,33554431]
theorem vesperslaw15_ResyncTogether.tab42 : rtab .any (opsOf Try.f4 42) = vesperslaw15_ResyncTogether.T42:=by kernel_rfl
theorem vesperslaw15_ResyncTogether.bits42 : waitsOk vesperslaw15_ResyncTogether.T42.2 vesperslaw15_ResyncTogether.B42 = true:=by kernel_rfl
set_option maxHeartbeats 8000000 in
set_option maxRecDepth 100000 in
theorem vesperslaw15_ResyncTogether.calls (k : Nat) (Qn : Int) (Qk : Int) (Qo : Int) (Qp : Int) (Qq : Int) (Qr : Int) (Qs : Int) (Qt : Int) (Qu : Int) (Qv : Int) (Qc : Int) (Qd : Int) (Qe : Int) (Qf : Int) (Qg : Int) (Qh : Int) (A1 : Option Addr) (c1 : Nat) (l1 : List Int) (A2 : Option Addr) (c2 : Nat) (l2 : List Int) (a3 : Int) (r : Bool) (w : World) (hr1 : Kd.C (Kd.int .i64) w A1 l1.length l1) (hc1 : l1.length ≤ c1) (hr2 : Kd.C (Kd.int .i64) w A2 l2.length l2) (hc2 : l2.length ≤ c2) (h : vesperslaw15_ResyncTogether.f k Qn Qk Qo Qp Qq Qr Qs Qt Qu Qv Qc Qd Qe Qf Qg Qh l1 l2 a3 = some r) :
  Calls Try.prog 4 #[.agg #[.int .i64 Qn,.int .i64 Qk,.int .i64 Qo,.int .i64 Qp,.int .i64 Qq,.int .i64 Qr,.int .i64 Qs,.int .i64 Qt,.int .i64 Qu,.int .i64 Qv,.int .i64 Qc,.int .i64 Qd,.int .i64 Qe,.int .i64 Qf,.int .i64 Qg,.int .i64 Qh],.slice A1 l1.length c1,.slice A2 l2.length c2,.int .i64 a3] w fun e w'=>e = .returned (.bool r)∧Below w.heap.size w w':=by
 have hu23:=Try.underlying23
 have HR1:=Aside0.mk hr1
 have HC1:=Aside0.mk hc1
 clear hr1 hc1
 have HR2:=Aside0.mk hr2
 have HC2:=Aside0.mk hc2
 clear hr2 hc2
 have HB:=Aside0.mk (Below.refl w.heap.size w)
 have H : ((vesperslaw15_alive.f k).bind fun Qy=>((plan_Check.f Qn Qk Qo Qp Qq Qr Qs Qt Qu Qv Qc Qd Qe Qf Qg Qh).bind fun QD=>(if QD = 0 then (if (l1.length : Int) < (wrap64 ((wrap64 (2 * Qk)) + 1)) then (vesperslaw15_ResyncTogether.j0 k l1 l2 a3 Qy (l1.length : Int) true Qn Qk Qo Qp Qq Qr Qs Qt Qu Qv Qc Qd Qe Qf Qg Qh) else (if (l1.length : Int) > 16 then (vesperslaw15_ResyncTogether.j0 k l1 l2 a3 Qy (l1.length : Int) true Qn Qk Qo Qp Qq Qr Qs Qt Qu Qv Qc Qd Qe Qf Qg Qh) else (if a3 < 0 then (vesperslaw15_ResyncTogether.j0 k l1 l2 a3 Qy (l1.length : Int) true Qn Qk Qo Qp Qq Qr Qs Qt Qu Qv Qc Qd Qe Qf Qg Qh) else (if a3 > 1048576 then (vesperslaw15_ResyncTogether.j0 k l1 l2 a3 Qy (l1.length : Int) true Qn Qk Qo Qp Qq Qr Qs Qt Qu Qv Qc Qd Qe Qf Qg Qh) else (vesperslaw15_ResyncTogether.j0 k l1 l2 a3 Qy (l1.length : Int) (!Qy) Qn Qk Qo Qp Qq Qr Qs Qt Qu Qv Qc Qd Qe Qf Qg Qh))))) else (vesperslaw15_ResyncTogether.j0 k l1 l2 a3 Qy (l1.length : Int) true Qn Qk Qo Qp Qq Qr Qs Qt Qu Qv Qc Qd Qe Qf Qg Qh)))) = some r:=h
 clear h
 replace H:=Option.bind_eq_some_iff.mp H
 obtain ⟨Qy,A50,H⟩:=H
 replace H : ((plan_Check.f Qn Qk Qo Qp Qq Qr Qs Qt Qu Qv Qc Qd Qe Qf Qg Qh).bind fun QD=>(if QD = 0 then (if (l1.length : Int) < (wrap64 ((wrap64 (2 * Qk)) + 1)) then (vesperslaw15_ResyncTogether.j0 k l1 l2 a3 Qy (l1.length : Int) true Qn Qk Qo Qp Qq Qr Qs Qt Qu Qv Qc Qd Qe Qf Qg Qh) else (if (l1.length : Int) > 16 then (vesperslaw15_ResyncTogether.j0 k l1 l2 a3 Qy (l1.length : Int) true Qn Qk Qo Qp Qq Qr Qs Qt Qu Qv Qc Qd Qe Qf Qg Qh) else (if a3 < 0 then (vesperslaw15_ResyncTogether.j0 k l1 l2 a3 Qy (l1.length : Int) true Qn Qk Qo Qp Qq Qr Qs Qt Qu Qv Qc Qd Qe Qf Qg Qh) else (if a3 > 1048576 then (vesperslaw15_ResyncTogether.j0 k l1 l2 a3 Qy (l1.length : Int) true Qn Qk Qo Qp Qq Qr Qs Qt Qu Qv Qc Qd Qe Qf Qg Qh) else (vesperslaw15_ResyncTogether.j0 k l1 l2 a3 Qy (l1.length : Int) (!Qy) Qn Qk Qo Qp Qq Qr Qs Qt Qu Qv Qc Qd Qe Qf Qg Qh))))) else (vesperslaw15_ResyncTogether.j0 k l1 l2 a3 Qy (l1.length : Int) true Qn Qk Qo Qp Qq Qr Qs Qt Qu Qv Qc Qd Qe Qf Qg Qh))) = some r:=H
 have A5:=Aside0.mk A50
 clear A50
 have HC6:=Aside0.mk H
 clear H
 go_enter Try.func4,Try.ntmps4
 go_upto_region 3 with (first|((with_reducible refine gate_dst (N:=4) rfl ?_);(try (refine gate_guard (by rfl) ?_;dsimp only));refine box_event ?hg (N:=4) ?hd (cs:=#[.int .i64 Qn,.int .i64 Qk,.int .i64 Qo,.int .i64 Qp,.int .i64 Qq,.int .i64 Qr,.int .i64 Qs,.int .i64 Qt,.int .i64 Qu,.int .i64 Qv,.int .i64 Qc,.int .i64 Qd,.int .i64 Qe,.int .i64 Qf,.int .i64 Qg,.int .i64 Qh]) (t:=23) ?hr ?_;(case hd=>rfl);(case hg=>rfl);(case hr=>first|(go_simp;done)|(go_simp;rfl));intro Qb hg w7 hbox hb;have n0_:=ks_ HB hb;have n1_:=Aside0.mk (hbox);have n2_:=Aside0.mk ((by rw [hg];exact (kz_ HB) : w.heap.size ≤ Qb));have n3_:=Aside0.mk ((by rw [hg];exact (kz_ HB) : w.heap.size ≤ Qb));clear HB;have HB:=n0_;have Qa:=n1_;have GW101:=n2_;have Qz:=n3_;clear n0_ n1_ n2_ n3_;clear hb hbox hg)|((with_reducible refine gate_callee (f:=15) rfl ?_);refine goesL_ (some 25) rfl rfl Try.func15 (by kernel_rfl) rfl #[] rfl (by (try simp only [List.map_toArray,List.map_cons,List.map_nil]);first|done|rfl|(simp only [List.length_drop,List.length_take];rfl)) ?_;(with_reducible refine (vesperslaw15_alive.calls k  Qy _ A5.out).mono ?_);rintro e w8 ⟨rfl,hb⟩;refine ⟨_,rfl,?_⟩;have n0_:=kb_ Qa hb;have n1_:=ks_ HB hb;clear Qa;clear HB;have Qa:=n0_;have HB:=n1_;clear n0_ n1_;(try clear hb);(try clear hb2);(try clear hk);(try clear hi)))
 (try simp only [Act.put,List.setIfInBounds_toArray,List.set_cons_zero,List.set_cons_succ])
 go_cut [54] (fun v54 wc=>∃ (kq : Nat) (x54_5 : Bool),v54 = .bool x54_5∧Aside0 (vesperslaw15_ResyncTogether.j0 kq l1 l2 a3 Qy (l1.length : Int) x54_5 Qn Qk Qo Qp Qq Qr Qs Qt Qu Qv Qc Qd Qe Qf Qg Qh = some r)∧Aside0 (kq ≤ k)∧Aside0 (wc.heap[Qb]? = some (.cells #[.int .i64 Qn,.int .i64 Qk,.int .i64 Qo,.int .i64 Qp,.int .i64 Qq,.int .i64 Qr,.int .i64 Qs,.int .i64 Qt,.int .i64 Qu,.int .i64 Qv,.int .i64 Qc,.int .i64 Qd,.int .i64 Qe,.int .i64 Qf,.int .i64 Qg,.int .i64 Qh] 23 (0,0)))∧Aside0 (Below w.heap.size w wc))
 case first=>as_aux_lemma =>
  have H:=HC6.out
  clear HC6
  replace H:=Option.bind_eq_some_iff.mp H
  obtain ⟨QD,A90,H⟩:=H
  replace H : (if QD = 0 then (if (l1.length : Int) < (wrap64 ((wrap64 (2 * Qk)) + 1)) then (vesperslaw15_ResyncTogether.j0 k l1 l2 a3 Qy (l1.length : Int) true Qn Qk Qo Qp Qq Qr Qs Qt Qu Qv Qc Qd Qe Qf Qg Qh) else (if (l1.length : Int) > 16 then (vesperslaw15_ResyncTogether.j0 k l1 l2 a3 Qy (l1.length : Int) true Qn Qk Qo Qp Qq Qr Qs Qt Qu Qv Qc Qd Qe Qf Qg Qh) else (if a3 < 0 then (vesperslaw15_ResyncTogether.j0 k l1 l2 a3 Qy (l1.length : Int) true Qn Qk Qo Qp Qq Qr Qs Qt Qu Qv Qc Qd Qe Qf Qg Qh) else (if a3 > 1048576 then (vesperslaw15_ResyncTogether.j0 k l1 l2 a3 Qy (l1.length : Int) true Qn Qk Qo Qp Qq Qr Qs Qt Qu Qv Qc Qd Qe Qf Qg Qh) else (vesperslaw15_ResyncTogether.j0 k l1 l2 a3 Qy (l1.length : Int) (!Qy) Qn Qk Qo Qp Qq Qr Qs Qt Qu Qv Qc Qd Qe Qf Qg Qh))))) else (vesperslaw15_ResyncTogether.j0 k l1 l2 a3 Qy (l1.length : Int) true Qn Qk Qo Qp Qq Qr Qs Qt Qu Qv Qc Qd Qe Qf Qg Qh)) = some r:=H
  have A9:=Aside0.mk A90
  clear A90
  by_cases c10 : QD = 0
  ·rw [if_pos c10] at H
   have c10b0 : (QD == 0) = true:=beq_iff_eq.mpr c10
   have c10b1 : (QD != 0) = false:=bne_eq_false_iff_eq.mpr c10
   clear c10
   (first|rw [c10b0]|(simp only [i64_w,i32_w];rw [c10b0])|skip)
   by_cases c11 : (l1.length : Int) < (wrap64 ((wrap64 (2 * Qk)) + 1))
   ·rw [if_pos c11] at H
    have c11b0 : decide ((l1.length : Int) < (wrap64 ((wrap64 (2 * Qk)) + 1))) = true:=decide_eq_true c11
    clear c11
    have H':=Aside0.mk H
    clear H
    have hcz12_0 : w8.cell? ⟨Qb,0,none⟩ = some (.int .i64 Qn):=(blk_cell Qa.out 0).trans rfl
    have hcz12_1 : w8.cell? ⟨Qb,1,none⟩ = some (.int .i64 Qk):=(blk_cell Qa.out 1).trans rfl
    have hcz12_2 : w8.cell? ⟨Qb,2,none⟩ = some (.int .i64 Qo):=(blk_cell Qa.out 2).trans rfl
    have hcz12_3 : w8.cell? ⟨Qb,3,none⟩ = some (.int .i64 Qp):=(blk_cell Qa.out 3).trans rfl
    have hcz12_4 : w8.cell? ⟨Qb,4,none⟩ = some (.int .i64 Qq):=(blk_cell Qa.out 4).trans rfl
    have hcz12_5 : w8.cell? ⟨Qb,5,none⟩ = some (.int .i64 Qr):=(blk_cell Qa.out 5).trans rfl
    have hcz12_6 : w8.cell? ⟨Qb,6,none⟩ = some (.int .i64 Qs):=(blk_cell Qa.out 6).trans rfl
    have hcz12_7 : w8.cell? ⟨Qb,7,none⟩ = some (.int .i64 Qt):=(blk_cell Qa.out 7).trans rfl
    have hcz12_8 : w8.cell? ⟨Qb,8,none⟩ = some (.int .i64 Qu):=(blk_cell Qa.out 8).trans rfl
    have hcz12_9 : w8.cell? ⟨Qb,9,none⟩ = some (.int .i64 Qv):=(blk_cell Qa.out 9).trans rfl
    have hcz12_10 : w8.cell? ⟨Qb,10,none⟩ = some (.int .i64 Qc):=(blk_cell Qa.out 10).trans rfl
    have hcz12_11 : w8.cell? ⟨Qb,11,none⟩ = some (.int .i64 Qd):=(blk_cell Qa.out 11).trans rfl
    have hcz12_12 : w8.cell? ⟨Qb,12,none⟩ = some (.int .i64 Qe):=(blk_cell Qa.out 12).trans rfl
    have hcz12_13 : w8.cell? ⟨Qb,13,none⟩ = some (.int .i64 Qf):=(blk_cell Qa.out 13).trans rfl
    have hcz12_14 : w8.cell? ⟨Qb,14,none⟩ = some (.int .i64 Qg):=(blk_cell Qa.out 14).trans rfl
    have hcz12_15 : w8.cell? ⟨Qb,15,none⟩ = some (.int .i64 Qh):=(blk_cell Qa.out 15).trans rfl
    have hfz12_0:=blk_frozen Qa.out 0
    have hfz12_1:=blk_frozen Qa.out 1
    have hfz12_2:=blk_frozen Qa.out 2
    have hfz12_3:=blk_frozen Qa.out 3
    have hfz12_4:=blk_frozen Qa.out 4
    have hfz12_5:=blk_frozen Qa.out 5
    have hfz12_6:=blk_frozen Qa.out 6
    have hfz12_7:=blk_frozen Qa.out 7
    have hfz12_8:=blk_frozen Qa.out 8
    have hfz12_9:=blk_frozen Qa.out 9
    have hfz12_10:=blk_frozen Qa.out 10
    have hfz12_11:=blk_frozen Qa.out 11
    have hfz12_12:=blk_frozen Qa.out 12
    have hfz12_13:=blk_frozen Qa.out 13
    have hfz12_14:=blk_frozen Qa.out 14
    have hfz12_15:=blk_frozen Qa.out 15
    go_wp2_with (first|((with_reducible refine gate_callee (f:=16) rfl ?_);refine goesL_ (some 29) rfl rfl Try.func16 (by kernel_rfl) rfl #[.agg #[.int .i64 Qn,.int .i64 Qk,.int .i64 Qo,.int .i64 Qp,.int .i64 Qq,.int .i64 Qr,.int .i64 Qs,.int .i64 Qt,.int .i64 Qu,.int .i64 Qv,.int .i64 Qc,.int .i64 Qd,.int .i64 Qe,.int .i64 Qf,.int .i64 Qg,.int .i64 Qh]] rfl (by (try simp only [List.map_toArray,List.map_cons,List.map_nil]);first|done|rfl|(simp only [List.length_drop,List.length_take];rfl)) ?_;(with_reducible refine (plan_Check.calls Qn Qk Qo Qp Qq Qr Qs Qt Qu Qv Qc Qd Qe Qf Qg Qh QD _ A9.out).mono ?_);rintro e w13 ⟨rfl,hb⟩;refine ⟨_,rfl,?_⟩;have n0_:=kb_ Qa hb;have n1_:=ks_ HB hb;clear Qa;clear HB;have Qa:=n0_;have HB:=n1_;clear n0_ n1_;(try clear hb);(try clear hb2);(try clear hk);(try clear hi);have hcz14_0 : w13.cell? ⟨Qb,0,none⟩ = some (.int .i64 Qn):=(blk_cell Qa.out 0).trans rfl;have hcz14_1 : w13.cell? ⟨Qb,1,none⟩ = some (.int .i64 Qk):=(blk_cell Qa.out 1).trans rfl;have hcz14_2 : w13.cell? ⟨Qb,2,none⟩ = some (.int .i64 Qo):=(blk_cell Qa.out 2).trans rfl;have hcz14_3 : w13.cell? ⟨Qb,3,none⟩ = some (.int .i64 Qp):=(blk_cell Qa.out 3).trans rfl;have hcz14_4 : w13.cell? ⟨Qb,4,none⟩ = some (.int .i64 Qq):=(blk_cell Qa.out 4).trans rfl;have hcz14_5 : w13.cell? ⟨Qb,5,none⟩ = some (.int .i64 Qr):=(blk_cell Qa.out 5).trans rfl;have hcz14_6 : w13.cell? ⟨Qb,6,none⟩ = some (.int .i64 Qs):=(blk_cell Qa.out 6).trans rfl;have hcz14_7 : w13.cell? ⟨Qb,7,none⟩ = some (.int .i64 Qt):=(blk_cell Qa.out 7).trans rfl;have hcz14_8 : w13.cell? ⟨Qb,8,none⟩ = some (.int .i64 Qu):=(blk_cell Qa.out 8).trans rfl;have hcz14_9 : w13.cell? ⟨Qb,9,none⟩ = some (.int .i64 Qv):=(blk_cell Qa.out 9).trans rfl;have hcz14_10 : w13.cell? ⟨Qb,10,none⟩ = some (.int .i64 Qc):=(blk_cell Qa.out 10).trans rfl;have hcz14_11 : w13.cell? ⟨Qb,11,none⟩ = some (.int .i64 Qd):=(blk_cell Qa.out 11).trans rfl;have hcz14_12 : w13.cell? ⟨Qb,12,none⟩ = some (.int .i64 Qe):=(blk_cell Qa.out 12).trans rfl;have hcz14_13 : w13.cell? ⟨Qb,13,none⟩ = some (.int .i64 Qf):=(blk_cell Qa.out 13).trans rfl;have hcz14_14 : w13.cell? ⟨Qb,14,none⟩ = some (.int .i64 Qg):=(blk_cell Qa.out 14).trans rfl;have hcz14_15 : w13.cell? ⟨Qb,15,none⟩ = some (.int .i64 Qh):=(blk_cell Qa.out 15).trans rfl;have hfz14_0:=blk_frozen Qa.out 0;have hfz14_1:=blk_frozen Qa.out 1;have hfz14_2:=blk_frozen Qa.out 2;have hfz14_3:=blk_frozen Qa.out 3;have hfz14_4:=blk_frozen Qa.out 4;have hfz14_5:=blk_frozen Qa.out 5;have hfz14_6:=blk_frozen Qa.out 6;have hfz14_7:=blk_frozen Qa.out 7;have hfz14_8:=blk_frozen Qa.out 8;have hfz14_9:=blk_frozen Qa.out 9;have hfz14_10:=blk_frozen Qa.out 10;have hfz14_11:=blk_frozen Qa.out 11;have hfz14_12:=blk_frozen Qa.out 12;have hfz14_13:=blk_frozen Qa.out 13;have hfz14_14:=blk_frozen Qa.out 14;have hfz14_15:=blk_frozen Qa.out 15))
    go_meet
    case rel=>exact ⟨_,(true),(by first|rfl|(simp;done)|(simp [*];done)),H',⟨by first|omega|exact Nat.le_refl _⟩,⟨by (with_reducible repeat (first|refine blk_drewN ?_ _|refine blk_drew ?_|refine blk_alloc ?_ _));exact Qa.out⟩,⟨by repeat (first|(with_reducible first|exact HB.out|apply below_alloc|apply pw_below_drewN|apply below_drew1|refine below_set ?_ Qz.out)|exact HB.out)⟩⟩
   ·rw [if_neg c11] at H
    have c11b0 : decide ((l1.length : Int) < (wrap64 ((wrap64 (2 * Qk)) + 1))) = false:=decide_eq_false c11
    clear c11
    by_cases c15 : (l1.length : Int) > 16
    ·rw [if_pos c15] at H
     have c15b0 : decide (16 < (l1.length : Int)) = true:=decide_eq_true c15
     have c15b1 : decide (16 < l1.length) = true:=decide_eq_true (by omega)
     clear c15
     have H':=Aside0.mk H
     clear H
     have hcz16_0 : w8.cell? ⟨Qb,0,none⟩ = some (.int .i64 Qn):=(blk_cell Qa.out 0).trans rfl
     have hcz16_1 : w8.cell? ⟨Qb,1,none⟩ = some (.int .i64 Qk):=(blk_cell Qa.out 1).trans rfl
     have hcz16_2 : w8.cell? ⟨Qb,2,none⟩ = some (.int .i64 Qo):=(blk_cell Qa.out 2).trans rfl
     have hcz16_3 : w8.cell? ⟨Qb,3,none⟩ = some (.int .i64 Qp):=(blk_cell Qa.out 3).trans rfl
     have hcz16_4 : w8.cell? ⟨Qb,4,none⟩ = some (.int .i64 Qq):=(blk_cell Qa.out 4).trans rfl
     have hcz16_5 : w8.cell? ⟨Qb,5,none⟩ = some (.int .i64 Qr):=(blk_cell Qa.out 5).trans rfl
     have hcz16_6 : w8.cell? ⟨Qb,6,none⟩ = some (.int .i64 Qs):=(blk_cell Qa.out 6).trans rfl
     have hcz16_7 : w8.cell? ⟨Qb,7,none⟩ = some (.int .i64 Qt):=(blk_cell Qa.out 7).trans rfl
     have hcz16_8 : w8.cell? ⟨Qb,8,none⟩ = some (.int .i64 Qu):=(blk_cell Qa.out 8).trans rfl
     have hcz16_9 : w8.cell? ⟨Qb,9,none⟩ = some (.int .i64 Qv):=(blk_cell Qa.out 9).trans rfl
     have hcz16_10 : w8.cell? ⟨Qb,10,none⟩ = some (.int .i64 Qc):=(blk_cell Qa.out 10).trans rfl
     have hcz16_11 : w8.cell? ⟨Qb,11,none⟩ = some (.int .i64 Qd):=(blk_cell Qa.out 11).trans rfl
     have hcz16_12 : w8.cell? ⟨Qb,12,none⟩ = some (.int .i64 Qe):=(blk_cell Qa.out 12).trans rfl
     have hcz16_13 : w8.cell? ⟨Qb,13,none⟩ = some (.int .i64 Qf):=(blk_cell Qa.out 13).trans rfl
     have hcz16_14 : w8.cell? ⟨Qb,14,none⟩ = some (.int .i64 Qg):=(blk_cell Qa.out 14).trans rfl
     have hcz16_15 : w8.cell? ⟨Qb,15,none⟩ = some (.int .i64 Qh):=(blk_cell Qa.out 15).trans rfl
     have hfz16_0:=blk_frozen Qa.out 0
     have hfz16_1:=blk_frozen Qa.out 1
     have hfz16_2:=blk_frozen Qa.out 2
     have hfz16_3:=blk_frozen Qa.out 3
     have hfz16_4:=blk_frozen Qa.out 4
     have hfz16_5:=blk_frozen Qa.out 5
     have hfz16_6:=blk_frozen Qa.out 6
     have hfz16_7:=blk_frozen Qa.out 7
     have hfz16_8:=blk_frozen Qa.out 8
     have hfz16_9:=blk_frozen Qa.out 9
     have hfz16_10:=blk_frozen Qa.out 10
     have hfz16_11:=blk_frozen Qa.out 11
     have hfz16_12:=blk_frozen Qa.out 12
     have hfz16_13:=blk_frozen Qa.out 13
     have hfz16_14:=blk_frozen Qa.out 14
     have hfz16_15:=blk_frozen Qa.out 15
     go_wp2_with (first|((with_reducible refine gate_callee (f:=16) rfl ?_);refine goesL_ (some 29) rfl rfl Try.func16 (by kernel_rfl) rfl #[.agg #[.int .i64 Qn,.int .i64 Qk,.int .i64 Qo,.int .i64 Qp,.int .i64 Qq,.int .i64 Qr,.int .i64 Qs,.int .i64 Qt,.int .i64 Qu,.int .i64 Qv,.int .i64 Qc,.int .i64 Qd,.int .i64 Qe,.int .i64 Qf,.int .i64 Qg,.int .i64 Qh]] rfl (by (try simp only [List.map_toArray,List.map_cons,List.map_nil]);first|done|rfl|(simp only [List.length_drop,List.length_take];rfl)) ?_;(with_reducible refine (plan_Check.calls Qn Qk Qo Qp Qq Qr Qs Qt Qu Qv Qc Qd Qe Qf Qg Qh QD _ A9.out).mono ?_);rintro e w17 ⟨rfl,hb⟩;refine ⟨_,rfl,?_⟩;have n0_:=kb_ Qa hb;have n1_:=ks_ HB hb;clear Qa;clear HB;have Qa:=n0_;have HB:=n1_;clear n0_ n1_;(try clear hb);(try clear hb2);(try clear hk);(try clear hi);have hcz18_0 : w17.cell? ⟨Qb,0,none⟩ = some (.int .i64 Qn):=(blk_cell Qa.out 0).trans rfl;have hcz18_1 : w17.cell? ⟨Qb,1,none⟩ = some (.int .i64 Qk):=(blk_cell Qa.out 1).trans rfl;have hcz18_2 : w17.cell? ⟨Qb,2,none⟩ = some (.int .i64 Qo):=(blk_cell Qa.out 2).trans rfl;have hcz18_3 : w17.cell? ⟨Qb,3,none⟩ = some (.int .i64 Qp):=(blk_cell Qa.out 3).trans rfl;have hcz18_4 : w17.cell? ⟨Qb,4,none⟩ = some (.int .i64 Qq):=(blk_cell Qa.out 4).trans rfl;have hcz18_5 : w17.cell? ⟨Qb,5,none⟩ = some (.int .i64 Qr):=(blk_cell Qa.out 5).trans rfl;have hcz18_6 : w17.cell? ⟨Qb,6,none⟩ = some (.int .i64 Qs):=(blk_cell Qa.out 6).trans rfl;have hcz18_7 : w17.cell? ⟨Qb,7,none⟩ = some (.int .i64 Qt):=(blk_cell Qa.out 7).trans rfl;have hcz18_8 : w17.cell? ⟨Qb,8,none⟩ = some (.int .i64 Qu):=(blk_cell Qa.out 8).trans rfl;have hcz18_9 : w17.cell? ⟨Qb,9,none⟩ = some (.int .i64 Qv):=(blk_cell Qa.out 9).trans rfl;have hcz18_10 : w17.cell? ⟨Qb,10,none⟩ = some (.int .i64 Qc):=(blk_cell Qa.out 10).trans rfl;have hcz18_11 : w17.cell? ⟨Qb,11,none⟩ = some (.int .i64 Qd):=(blk_cell Qa.out 11).trans rfl;have hcz18_12 : w17.cell? ⟨Qb,12,none⟩ = some (.int .i64 Qe):=(blk_cell Qa.out 12).trans rfl;have hcz18_13 : w17.cell? ⟨Qb,13,none⟩ = some (.int .i64 Qf):=(blk_cell Qa.out 13).trans rfl;have hcz18_14 : w17.cell? ⟨Qb,14,none⟩ = some (.int .i64 Qg):=(blk_cell Qa.out 14).trans rfl;have hcz18_15 : w17.cell? ⟨Qb,15,none⟩ = some (.int .i64 Qh):=(blk_cell Qa.out 15).trans rfl;have hfz18_0:=blk_frozen Qa.out 0;have hfz18_1:=blk_frozen Qa.out 1;have hfz18_2:=blk_frozen Qa.out 2;have hfz18_3:=blk_frozen Qa.out 3;have hfz18_4:=blk_frozen Qa.out 4;have hfz18_5:=blk_frozen Qa.out 5;have hfz18_6:=blk_frozen Qa.out 6;have hfz18_7:=blk_frozen Qa.out 7;have hfz18_8:=blk_frozen Qa.out 8;have hfz18_9:=blk_frozen Qa.out 9;have hfz18_10:=blk_frozen Qa.out 10;have hfz18_11:=blk_frozen Qa.out 11;have hfz18_12:=blk_frozen Qa.out 12;have hfz18_13:=blk_frozen Qa.out 13;have hfz18_14:=blk_frozen Qa.out 14;have hfz18_15:=blk_frozen Qa.out 15))
     go_meet
     case rel=>exact ⟨_,(true),(by first|rfl|(simp;done)|(simp [*];done)),H',⟨by first|omega|exact Nat.le_refl _⟩,⟨by (with_reducible repeat (first|refine blk_drewN ?_ _|refine blk_drew ?_|refine blk_alloc ?_ _));exact Qa.out⟩,⟨by repeat (first|(with_reducible first|exact HB.out|apply below_alloc|apply pw_below_drewN|apply below_drew1|refine below_set ?_ Qz.out)|exact HB.out)⟩⟩
    ·rw [if_neg c15] at H
     have c15b0 : decide (16 < (l1.length : Int)) = false:=decide_eq_false c15
     have c15b1 : decide (16 < l1.length) = false:=decide_eq_false (by omega)
     clear c15
     by_cases c19 : a3 < 0
     ·rw [if_pos c19] at H
      have c19b0 : decide (a3 < 0) = true:=decide_eq_true c19
      clear c19
      have H':=Aside0.mk H
      clear H
      have hcz20_0 : w8.cell? ⟨Qb,0,none⟩ = some (.int .i64 Qn):=(blk_cell Qa.out 0).trans rfl
      have hcz20_1 : w8.cell? ⟨Qb,1,none⟩ = some (.int .i64 Qk):=(blk_cell Qa.out 1).trans rfl
      have hcz20_2 : w8.cell? ⟨Qb,2,none⟩ = some (.int .i64 Qo):=(blk_cell Qa.out 2).trans rfl
      have hcz20_3 : w8.cell? ⟨Qb,3,none⟩ = some (.int .i64 Qp):=(blk_cell Qa.out 3).trans rfl
      have hcz20_4 : w8.cell? ⟨Qb,4,none⟩ = some (.int .i64 Qq):=(blk_cell Qa.out 4).trans rfl
      have hcz20_5 : w8.cell? ⟨Qb,5,none⟩ = some (.int .i64 Qr):=(blk_cell Qa.out 5).trans rfl
      have hcz20_6 : w8.cell? ⟨Qb,6,none⟩ = some (.int .i64 Qs):=(blk_cell Qa.out 6).trans rfl
      have hcz20_7 : w8.cell? ⟨Qb,7,none⟩ = some (.int .i64 Qt):=(blk_cell Qa.out 7).trans rfl
      have hcz20_8 : w8.cell? ⟨Qb,8,none⟩ = some (.int .i64 Qu):=(blk_cell Qa.out 8).trans rfl
      have hcz20_9 : w8.cell? ⟨Qb,9,none⟩ = some (.int .i64 Qv):=(blk_cell Qa.out 9).trans rfl
      have hcz20_10 : w8.cell? ⟨Qb,10,none⟩ = some (.int .i64 Qc):=(blk_cell Qa.out 10).trans rfl
      have hcz20_11 : w8.cell? ⟨Qb,11,none⟩ = some (.int .i64 Qd):=(blk_cell Qa.out 11).trans rfl
      have hcz20_12 : w8.cell? ⟨Qb,12,none⟩ = some (.int .i64 Qe):=(blk_cell Qa.out 12).trans rfl
      have hcz20_13 : w8.cell? ⟨Qb,13,none⟩ = some (.int .i64 Qf):=(blk_cell Qa.out 13).trans rfl
      have hcz20_14 : w8.cell? ⟨Qb,14,none⟩ = some (.int .i64 Qg):=(blk_cell Qa.out 14).trans rfl
      have hcz20_15 : w8.cell? ⟨Qb,15,none⟩ = some (.int .i64 Qh):=(blk_cell Qa.out 15).trans rfl
      have hfz20_0:=blk_frozen Qa.out 0
      have hfz20_1:=blk_frozen Qa.out 1
      have hfz20_2:=blk_frozen Qa.out 2
      have hfz20_3:=blk_frozen Qa.out 3
      have hfz20_4:=blk_frozen Qa.out 4
      have hfz20_5:=blk_frozen Qa.out 5
      have hfz20_6:=blk_frozen Qa.out 6
      have hfz20_7:=blk_frozen Qa.out 7
      have hfz20_8:=blk_frozen Qa.out 8
      have hfz20_9:=blk_frozen Qa.out 9
      have hfz20_10:=blk_frozen Qa.out 10
      have hfz20_11:=blk_frozen Qa.out 11
      have hfz20_12:=blk_frozen Qa.out 12
      have hfz20_13:=blk_frozen Qa.out 13
      have hfz20_14:=blk_frozen Qa.out 14
      have hfz20_15:=blk_frozen Qa.out 15
      go_wp2_with (first|((with_reducible refine gate_callee (f:=16) rfl ?_);refine goesL_ (some 29) rfl rfl Try.func16 (by kernel_rfl) rfl #[.agg #[.int .i64 Qn,.int .i64 Qk,.int .i64 Qo,.int .i64 Qp,.int .i64 Qq,.int .i64 Qr,.int .i64 Qs,.int .i64 Qt,.int .i64 Qu,.int .i64 Qv,.int .i64 Qc,.int .i64 Qd,.int .i64 Qe,.int .i64 Qf,.int .i64 Qg,.int .i64 Qh]] rfl (by (try simp only [List.map_toArray,List.map_cons,List.map_nil]);first|done|rfl|(simp only [List.length_drop,List.length_take];rfl)) ?_;(with_reducible refine (plan_Check.calls Qn Qk Qo Qp Qq Qr Qs Qt Qu Qv Qc Qd Qe Qf Qg Qh QD _ A9.out).mono ?_);rintro e w21 ⟨rfl,hb⟩;refine ⟨_,rfl,?_⟩;have n0_:=kb_ Qa hb;have n1_:=ks_ HB hb;clear Qa;clear HB;have Qa:=n0_;have HB:=n1_;clear n0_ n1_;(try clear hb);(try clear hb2);(try clear hk);(try clear hi);have hcz22_0 : w21.cell? ⟨Qb,0,none⟩ = some (.int .i64 Qn):=(blk_cell Qa.out 0).trans rfl;have hcz22_1 : w21.cell? ⟨Qb,1,none⟩ = some (.int .i64 Qk):=(blk_cell Qa.out 1).trans rfl;have hcz22_2 : w21.cell? ⟨Qb,2,none⟩ = some (.int .i64 Qo):=(blk_cell Qa.out 2).trans rfl;have hcz22_3 : w21.cell? ⟨Qb,3,none⟩ = some (.int .i64 Qp):=(blk_cell Qa.out 3).trans rfl;have hcz22_4 : w21.cell? ⟨Qb,4,none⟩ = some (.int .i64 Qq):=(blk_cell Qa.out 4).trans rfl;have hcz22_5 : w21.cell? ⟨Qb,5,none⟩ = some (.int .i64 Qr):=(blk_cell Qa.out 5).trans rfl;have hcz22_6 : w21.cell? ⟨Qb,6,none⟩ = some (.int .i64 Qs):=(blk_cell Qa.out 6).trans rfl;have hcz22_7 : w21.cell? ⟨Qb,7,none⟩ = some (.int .i64 Qt):=(blk_cell Qa.out 7).trans rfl;have hcz22_8 : w21.cell? ⟨Qb,8,none⟩ = some (.int .i64 Qu):=(blk_cell Qa.out 8).trans rfl;have hcz22_9 : w21.cell? ⟨Qb,9,none⟩ = some (.int .i64 Qv):=(blk_cell Qa.out 9).trans rfl;have hcz22_10 : w21.cell? ⟨Qb,10,none⟩ = some (.int .i64 Qc):=(blk_cell Qa.out 10).trans rfl;have hcz22_11 : w21.cell? ⟨Qb,11,none⟩ = some (.int .i64 Qd):=(blk_cell Qa.out 11).trans rfl;have hcz22_12 : w21.cell? ⟨Qb,12,none⟩ = some (.int .i64 Qe):=(blk_cell Qa.out 12).trans rfl;have hcz22_13 : w21.cell? ⟨Qb,13,none⟩ = some (.int .i64 Qf):=(blk_cell Qa.out 13).trans rfl;have hcz22_14 : w21.cell? ⟨Qb,14,none⟩ = some (.int .i64 Qg):=(blk_cell Qa.out 14).trans rfl;have hcz22_15 : w21.cell? ⟨Qb,15,none⟩ = some (.int .i64 Qh):=(blk_cell Qa.out 15).trans rfl;have hfz22_0:=blk_frozen Qa.out 0;have hfz22_1:=blk_frozen Qa.out 1;have hfz22_2:=blk_frozen Qa.out 2;have hfz22_3:=blk_frozen Qa.out 3;have hfz22_4:=blk_frozen Qa.out 4;have hfz22_5:=blk_frozen Qa.out 5;have hfz22_6:=blk_frozen Qa.out 6;have hfz22_7:=blk_frozen Qa.out 7;have hfz22_8:=blk_frozen Qa.out 8;have hfz22_9:=blk_frozen Qa.out 9;have hfz22_10:=blk_frozen Qa.out 10;have hfz22_11:=blk_frozen Qa.out 11;have hfz22_12:=blk_frozen Qa.out 12;have hfz22_13:=blk_frozen Qa.out 13;have hfz22_14:=blk_frozen Qa.out 14;have hfz22_15:=blk_frozen Qa.out 15))
      go_meet
      case rel=>exact ⟨_,(true),(by first|rfl|(simp;done)|(simp [*];done)),H',⟨by first|omega|exact Nat.le_refl _⟩,⟨by (with_reducible repeat (first|refine blk_drewN ?_ _|refine blk_drew ?_|refine blk_alloc ?_ _));exact Qa.out⟩,⟨by repeat (first|(with_reducible first|exact HB.out|apply below_alloc|apply pw_below_drewN|apply below_drew1|refine below_set ?_ Qz.out)|exact HB.out)⟩⟩
     ·rw [if_neg c19] at H
      have c19b0 : decide (a3 < 0) = false:=decide_eq_false c19
      clear c19
      by_cases c23 : a3 > 1048576
      ·rw [if_pos c23] at H
       have c23b0 : decide (1048576 < a3) = true:=decide_eq_true c23
       clear c23
       have H':=Aside0.mk H
       clear H
       have hcz24_0 : w8.cell? ⟨Qb,0,none⟩ = some (.int .i64 Qn):=(blk_cell Qa.out 0).trans rfl
       have hcz24_1 : w8.cell? ⟨Qb,1,none⟩ = some (.int .i64 Qk):=(blk_cell Qa.out 1).trans rfl
       have hcz24_2 : w8.cell? ⟨Qb,2,none⟩ = some (.int .i64 Qo):=(blk_cell Qa.out 2).trans rfl
       have hcz24_3 : w8.cell? ⟨Qb,3,none⟩ = some (.int .i64 Qp):=(blk_cell Qa.out 3).trans rfl
       have hcz24_4 : w8.cell? ⟨Qb,4,none⟩ = some (.int .i64 Qq):=(blk_cell Qa.out 4).trans rfl
       have hcz24_5 : w8.cell? ⟨Qb,5,none⟩ = some (.int .i64 Qr):=(blk_cell Qa.out 5).trans rfl
       have hcz24_6 : w8.cell? ⟨Qb,6,none⟩ = some (.int .i64 Qs):=(blk_cell Qa.out 6).trans rfl
       have hcz24_7 : w8.cell? ⟨Qb,7,none⟩ = some (.int .i64 Qt):=(blk_cell Qa.out 7).trans rfl
       have hcz24_8 : w8.cell? ⟨Qb,8,none⟩ = some (.int .i64 Qu):=(blk_cell Qa.out 8).trans rfl
       have hcz24_9 : w8.cell? ⟨Qb,9,none⟩ = some (.int .i64 Qv):=(blk_cell Qa.out 9).trans rfl
       have hcz24_10 : w8.cell? ⟨Qb,10,none⟩ = some (.int .i64 Qc):=(blk_cell Qa.out 10).trans rfl
       have hcz24_11 : w8.cell? ⟨Qb,11,none⟩ = some (.int .i64 Qd):=(blk_cell Qa.out 11).trans rfl
       have hcz24_12 : w8.cell? ⟨Qb,12,none⟩ = some (.int .i64 Qe):=(blk_cell Qa.out 12).trans rfl
       have hcz24_13 : w8.cell? ⟨Qb,13,none⟩ = some (.int .i64 Qf):=(blk_cell Qa.out 13).trans rfl
       have hcz24_14 : w8.cell? ⟨Qb,14,none⟩ = some (.int .i64 Qg):=(blk_cell Qa.out 14).trans rfl
       have hcz24_15 : w8.cell? ⟨Qb,15,none⟩ = some (.int .i64 Qh):=(blk_cell Qa.out 15).trans rfl
       have hfz24_0:=blk_frozen Qa.out 0
       have hfz24_1:=blk_frozen Qa.out 1
       have hfz24_2:=blk_frozen Qa.out 2
       have hfz24_3:=blk_frozen Qa.out 3
       have hfz24_4:=blk_frozen Qa.out 4
       have hfz24_5:=blk_frozen Qa.out 5
       have hfz24_6:=blk_frozen Qa.out 6
       have hfz24_7:=blk_frozen Qa.out 7
       have hfz24_8:=blk_frozen Qa.out 8
       have hfz24_9:=blk_frozen Qa.out 9
       have hfz24_10:=blk_frozen Qa.out 10
       have hfz24_11:=blk_frozen Qa.out 11
       have hfz24_12:=blk_frozen Qa.out 12
       have hfz24_13:=blk_frozen Qa.out 13
       have hfz24_14:=blk_frozen Qa.out 14
       have hfz24_15:=blk_frozen Qa.out 15
       go_wp2_with (first|((with_reducible refine gate_callee (f:=16) rfl ?_);refine goesL_ (some 29) rfl rfl Try.func16 (by kernel_rfl) rfl #[.agg #[.int .i64 Qn,.int .i64 Qk,.int .i64 Qo,.int .i64 Qp,.int .i64 Qq,.int .i64 Qr,.int .i64 Qs,.int .i64 Qt,.int .i64 Qu,.int .i64 Qv,.int .i64 Qc,.int .i64 Qd,.int .i64 Qe,.int .i64 Qf,.int .i64 Qg,.int .i64 Qh]] rfl (by (try simp only [List.map_toArray,List.map_cons,List.map_nil]);first|done|rfl|(simp only [List.length_drop,List.length_take];rfl)) ?_;(with_reducible refine (plan_Check.calls Qn Qk Qo Qp Qq Qr Qs Qt Qu Qv Qc Qd Qe Qf Qg Qh QD _ A9.out).mono ?_);rintro e w25 ⟨rfl,hb⟩;refine ⟨_,rfl,?_⟩;have n0_:=kb_ Qa hb;have n1_:=ks_ HB hb;clear Qa;clear HB;have Qa:=n0_;have HB:=n1_;clear n0_ n1_;(try clear hb);(try clear hb2);(try clear hk);(try clear hi);have hcz26_0 : w25.cell? ⟨Qb,0,none⟩ = some (.int .i64 Qn):=(blk_cell Qa.out 0).trans rfl;have hcz26_1 : w25.cell? ⟨Qb,1,none⟩ = some (.int .i64 Qk):=(blk_cell Qa.out 1).trans rfl;have hcz26_2 : w25.cell? ⟨Qb,2,none⟩ = some (.int .i64 Qo):=(blk_cell Qa.out 2).trans rfl;have hcz26_3 : w25.cell? ⟨Qb,3,none⟩ = some (.int .i64 Qp):=(blk_cell Qa.out 3).trans rfl;have hcz26_4 : w25.cell? ⟨Qb,4,none⟩ = some (.int .i64 Qq):=(blk_cell Qa.out 4).trans rfl;have hcz26_5 : w25.cell? ⟨Qb,5,none⟩ = some (.int .i64 Qr):=(blk_cell Qa.out 5).trans rfl;have hcz26_6 : w25.cell? ⟨Qb,6,none⟩ = some (.int .i64 Qs):=(blk_cell Qa.out 6).trans rfl;have hcz26_7 : w25.cell? ⟨Qb,7,none⟩ = some (.int .i64 Qt):=(blk_cell Qa.out 7).trans rfl;have hcz26_8 : w25.cell? ⟨Qb,8,none⟩ = some (.int .i64 Qu):=(blk_cell Qa.out 8).trans rfl;have hcz26_9 : w25.cell? ⟨Qb,9,none⟩ = some (.int .i64 Qv):=(blk_cell Qa.out 9).trans rfl;have hcz26_10 : w25.cell? ⟨Qb,10,none⟩ = some (.int .i64 Qc):=(blk_cell Qa.out 10).trans rfl;have hcz26_11 : w25.cell? ⟨Qb,11,none⟩ = some (.int .i64 Qd):=(blk_cell Qa.out 11).trans rfl;have hcz26_12 : w25.cell? ⟨Qb,12,none⟩ = some (.int .i64 Qe):=(blk_cell Qa.out 12).trans rfl;have hcz26_13 : w25.cell? ⟨Qb,13,none⟩ = some (.int .i64 Qf):=(blk_cell Qa.out 13).trans rfl;have hcz26_14 : w25.cell? ⟨Qb,14,none⟩ = some (.int .i64 Qg):=(blk_cell Qa.out 14).trans rfl;have hcz26_15 : w25.cell? ⟨Qb,15,none⟩ = some (.int .i64 Qh):=(blk_cell Qa.out 15).trans rfl;have hfz26_0:=blk_frozen Qa.out 0;have hfz26_1:=blk_frozen Qa.out 1;have hfz26_2:=blk_frozen Qa.out 2;have hfz26_3:=blk_frozen Qa.out 3;have hfz26_4:=blk_frozen Qa.out 4;have hfz26_5:=blk_frozen Qa.out 5;have hfz26_6:=blk_frozen Qa.out 6;have hfz26_7:=blk_frozen Qa.out 7;have hfz26_8:=blk_frozen Qa.out 8;have hfz26_9:=blk_frozen Qa.out 9;have hfz26_10:=blk_frozen Qa.out 10;have hfz26_11:=blk_frozen Qa.out 11;have hfz26_12:=blk_frozen Qa.out 12;have hfz26_13:=blk_frozen Qa.out 13;have hfz26_14:=blk_frozen Qa.out 14;have hfz26_15:=blk_frozen Qa.out 15))
       go_meet
       case rel=>exact ⟨_,(true),(by first|rfl|(simp;done)|(simp [*];done)),H',⟨by first|omega|exact Nat.le_refl _⟩,⟨by (with_reducible repeat (first|refine blk_drewN ?_ _|refine blk_drew ?_|refine blk_alloc ?_ _));exact Qa.out⟩,⟨by repeat (first|(with_reducible first|exact HB.out|apply below_alloc|apply pw_below_drewN|apply below_drew1|refine below_set ?_ Qz.out)|exact HB.out)⟩⟩
      ·rw [if_neg c23] at H
       have c23b0 : decide (1048576 < a3) = false:=decide_eq_false c23
       clear c23
       have H':=Aside0.mk H
       clear H
       have hcz27_0 : w8.cell? ⟨Qb,0,none⟩ = some (.int .i64 Qn):=(blk_cell Qa.out 0).trans rfl
       have hcz27_1 : w8.cell? ⟨Qb,1,none⟩ = some (.int .i64 Qk):=(blk_cell Qa.out 1).trans rfl
       have hcz27_2 : w8.cell? ⟨Qb,2,none⟩ = some (.int .i64 Qo):=(blk_cell Qa.out 2).trans rfl
       have hcz27_3 : w8.cell? ⟨Qb,3,none⟩ = some (.int .i64 Qp):=(blk_cell Qa.out 3).trans rfl
       have hcz27_4 : w8.cell? ⟨Qb,4,none⟩ = some (.int .i64 Qq):=(blk_cell Qa.out 4).trans rfl
       have hcz27_5 : w8.cell? ⟨Qb,5,none⟩ = some (.int .i64 Qr):=(blk_cell Qa.out 5).trans rfl
       have hcz27_6 : w8.cell? ⟨Qb,6,none⟩ = some (.int .i64 Qs):=(blk_cell Qa.out 6).trans rfl
       have hcz27_7 : w8.cell? ⟨Qb,7,none⟩ = some (.int .i64 Qt):=(blk_cell Qa.out 7).trans rfl
       have hcz27_8 : w8.cell? ⟨Qb,8,none⟩ = some (.int .i64 Qu):=(blk_cell Qa.out 8).trans rfl
       have hcz27_9 : w8.cell? ⟨Qb,9,none⟩ = some (.int .i64 Qv):=(blk_cell Qa.out 9).trans rfl
       have hcz27_10 : w8.cell? ⟨Qb,10,none⟩ = some (.int .i64 Qc):=(blk_cell Qa.out 10).trans rfl
       have hcz27_11 : w8.cell? ⟨Qb,11,none⟩ = some (.int .i64 Qd):=(blk_cell Qa.out 11).trans rfl
       have hcz27_12 : w8.cell? ⟨Qb,12,none⟩ = some (.int .i64 Qe):=(blk_cell Qa.out 12).trans rfl
       have hcz27_13 : w8.cell? ⟨Qb,13,none⟩ = some (.int .i64 Qf):=(blk_cell Qa.out 13).trans rfl
       have hcz27_14 : w8.cell? ⟨Qb,14,none⟩ = some (.int .i64 Qg):=(blk_cell Qa.out 14).trans rfl
       have hcz27_15 : w8.cell? ⟨Qb,15,none⟩ = some (.int .i64 Qh):=(blk_cell Qa.out 15).trans rfl
       have hfz27_0:=blk_frozen Qa.out 0
       have hfz27_1:=blk_frozen Qa.out 1
       have hfz27_2:=blk_frozen Qa.out 2
       have hfz27_3:=blk_frozen Qa.out 3
       have hfz27_4:=blk_frozen Qa.out 4
       have hfz27_5:=blk_frozen Qa.out 5
       have hfz27_6:=blk_frozen Qa.out 6
       have hfz27_7:=blk_frozen Qa.out 7
       have hfz27_8:=blk_frozen Qa.out 8
       have hfz27_9:=blk_frozen Qa.out 9
       have hfz27_10:=blk_frozen Qa.out 10
       have hfz27_11:=blk_frozen Qa.out 11
       have hfz27_12:=blk_frozen Qa.out 12
       have hfz27_13:=blk_frozen Qa.out 13
       have hfz27_14:=blk_frozen Qa.out 14
       have hfz27_15:=blk_frozen Qa.out 15
       go_wp2_with (first|((with_reducible refine gate_callee (f:=16) rfl ?_);refine goesL_ (some 29) rfl rfl Try.func16 (by kernel_rfl) rfl #[.agg #[.int .i64 Qn,.int .i64 Qk,.int .i64 Qo,.int .i64 Qp,.int .i64 Qq,.int .i64 Qr,.int .i64 Qs,.int .i64 Qt,.int .i64 Qu,.int .i64 Qv,.int .i64 Qc,.int .i64 Qd,.int .i64 Qe,.int .i64 Qf,.int .i64 Qg,.int .i64 Qh]] rfl (by (try simp only [List.map_toArray,List.map_cons,List.map_nil]);first|done|rfl|(simp only [List.length_drop,List.length_take];rfl)) ?_;(with_reducible refine (plan_Check.calls Qn Qk Qo Qp Qq Qr Qs Qt Qu Qv Qc Qd Qe Qf Qg Qh QD _ A9.out).mono ?_);rintro e w28 ⟨rfl,hb⟩;refine ⟨_,rfl,?_⟩;have n0_:=kb_ Qa hb;have n1_:=ks_ HB hb;clear Qa;clear HB;have Qa:=n0_;have HB:=n1_;clear n0_ n1_;(try clear hb);(try clear hb2);(try clear hk);(try clear hi);have hcz29_0 : w28.cell? ⟨Qb,0,none⟩ = some (.int .i64 Qn):=(blk_cell Qa.out 0).trans rfl;have hcz29_1 : w28.cell? ⟨Qb,1,none⟩ = some (.int .i64 Qk):=(blk_cell Qa.out 1).trans rfl;have hcz29_2 : w28.cell? ⟨Qb,2,none⟩ = some (.int .i64 Qo):=(blk_cell Qa.out 2).trans rfl;have hcz29_3 : w28.cell? ⟨Qb,3,none⟩ = some (.int .i64 Qp):=(blk_cell Qa.out 3).trans rfl;have hcz29_4 : w28.cell? ⟨Qb,4,none⟩ = some (.int .i64 Qq):=(blk_cell Qa.out 4).trans rfl;have hcz29_5 : w28.cell? ⟨Qb,5,none⟩ = some (.int .i64 Qr):=(blk_cell Qa.out 5).trans rfl;have hcz29_6 : w28.cell? ⟨Qb,6,none⟩ = some (.int .i64 Qs):=(blk_cell Qa.out 6).trans rfl;have hcz29_7 : w28.cell? ⟨Qb,7,none⟩ = some (.int .i64 Qt):=(blk_cell Qa.out 7).trans rfl;have hcz29_8 : w28.cell? ⟨Qb,8,none⟩ = some (.int .i64 Qu):=(blk_cell Qa.out 8).trans rfl;have hcz29_9 : w28.cell? ⟨Qb,9,none⟩ = some (.int .i64 Qv):=(blk_cell Qa.out 9).trans rfl;have hcz29_10 : w28.cell? ⟨Qb,10,none⟩ = some (.int .i64 Qc):=(blk_cell Qa.out 10).trans rfl;have hcz29_11 : w28.cell? ⟨Qb,11,none⟩ = some (.int .i64 Qd):=(blk_cell Qa.out 11).trans rfl;have hcz29_12 : w28.cell? ⟨Qb,12,none⟩ = some (.int .i64 Qe):=(blk_cell Qa.out 12).trans rfl;have hcz29_13 : w28.cell? ⟨Qb,13,none⟩ = some (.int .i64 Qf):=(blk_cell Qa.out 13).trans rfl;have hcz29_14 : w28.cell? ⟨Qb,14,none⟩ = some (.int .i64 Qg):=(blk_cell Qa.out 14).trans rfl;have hcz29_15 : w28.cell? ⟨Qb,15,none⟩ = some (.int .i64 Qh):=(blk_cell Qa.out 15).trans rfl;have hfz29_0:=blk_frozen Qa.out 0;have hfz29_1:=blk_frozen Qa.out 1;have hfz29_2:=blk_frozen Qa.out 2;have hfz29_3:=blk_frozen Qa.out 3;have hfz29_4:=blk_frozen Qa.out 4;have hfz29_5:=blk_frozen Qa.out 5;have hfz29_6:=blk_frozen Qa.out 6;have hfz29_7:=blk_frozen Qa.out 7;have hfz29_8:=blk_frozen Qa.out 8;have hfz29_9:=blk_frozen Qa.out 9;have hfz29_10:=blk_frozen Qa.out 10;have hfz29_11:=blk_frozen Qa.out 11;have hfz29_12:=blk_frozen Qa.out 12;have hfz29_13:=blk_frozen Qa.out 13;have hfz29_14:=blk_frozen Qa.out 14;have hfz29_15:=blk_frozen Qa.out 15))
       go_meet
       case rel=>exact ⟨_,(!Qy),(by first|rfl|(simp;done)|(simp [*];done)),H',⟨by first|omega|exact Nat.le_refl _⟩,⟨by (with_reducible repeat (first|refine blk_drewN ?_ _|refine blk_drew ?_|refine blk_alloc ?_ _));exact Qa.out⟩,⟨by repeat (first|(with_reducible first|exact HB.out|apply below_alloc|apply pw_below_drewN|apply below_drew1|refine below_set ?_ Qz.out)|exact HB.out)⟩⟩
  ·rw [if_neg c10] at H
   have c10b0 : (QD == 0) = false:=beq_eq_false_iff_ne.mpr c10
   have c10b1 : (QD != 0) = true:=bne_iff_ne.mpr c10
   (first|rw [c10b0]|(simp only [i64_w,i32_w];rw [c10b0])|skip)
   have H':=Aside0.mk H
   clear H
   have hcz30_0 : w8.cell? ⟨Qb,0,none⟩ = some (.int .i64 Qn):=(blk_cell Qa.out 0).trans rfl
   have hcz30_1 : w8.cell? ⟨Qb,1,none⟩ = some (.int .i64 Qk):=(blk_cell Qa.out 1).trans rfl
   have hcz30_2 : w8.cell? ⟨Qb,2,none⟩ = some (.int .i64 Qo):=(blk_cell Qa.out 2).trans rfl
   have hcz30_3 : w8.cell? ⟨Qb,3,none⟩ = some (.int .i64 Qp):=(blk_cell Qa.out 3).trans rfl
   have hcz30_4 : w8.cell? ⟨Qb,4,none⟩ = some (.int .i64 Qq):=(blk_cell Qa.out 4).trans rfl
   have hcz30_5 : w8.cell? ⟨Qb,5,none⟩ = some (.int .i64 Qr):=(blk_cell Qa.out 5).trans rfl
   have hcz30_6 : w8.cell? ⟨Qb,6,none⟩ = some (.int .i64 Qs):=(blk_cell Qa.out 6).trans rfl
   have hcz30_7 : w8.cell? ⟨Qb,7,none⟩ = some (.int .i64 Qt):=(blk_cell Qa.out 7).trans rfl
   have hcz30_8 : w8.cell? ⟨Qb,8,none⟩ = some (.int .i64 Qu):=(blk_cell Qa.out 8).trans rfl
   have hcz30_9 : w8.cell? ⟨Qb,9,none⟩ = some (.int .i64 Qv):=(blk_cell Qa.out 9).trans rfl
   have hcz30_10 : w8.cell? ⟨Qb,10,none⟩ = some (.int .i64 Qc):=(blk_cell Qa.out 10).trans rfl
   have hcz30_11 : w8.cell? ⟨Qb,11,none⟩ = some (.int .i64 Qd):=(blk_cell Qa.out 11).trans rfl
   have hcz30_12 : w8.cell? ⟨Qb,12,none⟩ = some (.int .i64 Qe):=(blk_cell Qa.out 12).trans rfl
   have hcz30_13 : w8.cell? ⟨Qb,13,none⟩ = some (.int .i64 Qf):=(blk_cell Qa.out 13).trans rfl
   have hcz30_14 : w8.cell? ⟨Qb,14,none⟩ = some (.int .i64 Qg):=(blk_cell Qa.out 14).trans rfl
   have hcz30_15 : w8.cell? ⟨Qb,15,none⟩ = some (.int .i64 Qh):=(blk_cell Qa.out 15).trans rfl
   have hfz30_0:=blk_frozen Qa.out 0
   have hfz30_1:=blk_frozen Qa.out 1
   have hfz30_2:=blk_frozen Qa.out 2
   have hfz30_3:=blk_frozen Qa.out 3
   have hfz30_4:=blk_frozen Qa.out 4
   have hfz30_5:=blk_frozen Qa.out 5
   have hfz30_6:=blk_frozen Qa.out 6
   have hfz30_7:=blk_frozen Qa.out 7
   have hfz30_8:=blk_frozen Qa.out 8
   have hfz30_9:=blk_frozen Qa.out 9
   have hfz30_10:=blk_frozen Qa.out 10
   have hfz30_11:=blk_frozen Qa.out 11
   have hfz30_12:=blk_frozen Qa.out 12
   have hfz30_13:=blk_frozen Qa.out 13
   have hfz30_14:=blk_frozen Qa.out 14
   have hfz30_15:=blk_frozen Qa.out 15
   go_wp2_with (first|((with_reducible refine gate_callee (f:=16) rfl ?_);refine goesL_ (some 29) rfl rfl Try.func16 (by kernel_rfl) rfl #[.agg #[.int .i64 Qn,.int .i64 Qk,.int .i64 Qo,.int .i64 Qp,.int .i64 Qq,.int .i64 Qr,.int .i64 Qs,.int .i64 Qt,.int .i64 Qu,.int .i64 Qv,.int .i64 Qc,.int .i64 Qd,.int .i64 Qe,.int .i64 Qf,.int .i64 Qg,.int .i64 Qh]] rfl (by (try simp only [List.map_toArray,List.map_cons,List.map_nil]);first|done|rfl|(simp only [List.length_drop,List.length_take];rfl)) ?_;(with_reducible refine (plan_Check.calls Qn Qk Qo Qp Qq Qr Qs Qt Qu Qv Qc Qd Qe Qf Qg Qh QD _ A9.out).mono ?_);rintro e w31 ⟨rfl,hb⟩;refine ⟨_,rfl,?_⟩;have n0_:=kb_ Qa hb;have n1_:=ks_ HB hb;clear Qa;clear HB;have Qa:=n0_;have HB:=n1_;clear n0_ n1_;(try clear hb);(try clear hb2);(try clear hk);(try clear hi)))
   go_meet
   case rel=>exact ⟨_,(true),(by first|rfl|(simp;done)|(simp [*];done)),H',⟨by first|omega|exact Nat.le_refl _⟩,⟨by (with_reducible repeat (first|refine blk_drewN ?_ _|refine blk_drew ?_|refine blk_alloc ?_ _));exact Qa.out⟩,⟨by repeat (first|(with_reducible first|exact HB.out|apply below_alloc|apply pw_below_drewN|apply below_drew1|refine below_set ?_ Qz.out)|exact HB.out)⟩⟩
 case rest=>as_aux_lemma =>
  clear HC6
  try clear c1
  try clear c2
  try clear p2
  try clear c4
  try clear p6
  try clear c10
  try clear c10b0
  try clear c10b1
  try clear c11
  try clear c11b0
  try clear c15
  try clear c15b0
  try clear c15b1
  try clear c16
  try clear c19
  try clear c19b0
  try clear c23
  try clear c23b0
  try clear hcz12_0
  try clear hcz12_1
  try clear hcz12_10
  try clear hcz12_11
  try clear hcz12_12
  try clear hcz12_13
  try clear hcz12_14
  try clear hcz12_15
  try clear hcz12_2
  try clear hcz12_3
  try clear hcz12_4
  try clear hcz12_5
  try clear hcz12_6
  try clear hcz12_7
  try clear hcz12_8
  try clear hcz12_9
  try clear hcz14_0
  try clear hcz14_1
  try clear hcz14_10
  try clear hcz14_11
  try clear hcz14_12
  try clear hcz14_13
  try clear hcz14_14
  try clear hcz14_15
  try clear hcz14_2
  try clear hcz14_3
  try clear hcz14_4
  try clear hcz14_5
  try clear hcz14_6
  try clear hcz14_7
  try clear hcz14_8
  try clear hcz14_9
  try clear hcz16_0
  try clear hcz16_1
  try clear hcz16_10
  try clear hcz16_11
  try clear hcz16_12
  try clear hcz16_13
  try clear hcz16_14
  try clear hcz16_15
  try clear hcz16_2
  try clear hcz16_3
  try clear hcz16_4
  try clear hcz16_5
  try clear hcz16_6
  try clear hcz16_7
  try clear hcz16_8
  try clear hcz16_9
  try clear hcz18_0
  try clear hcz18_1
  try clear hcz18_10
  try clear hcz18_11
  try clear hcz18_12
  try clear hcz18_13
  try clear hcz18_14
  try clear hcz18_15
  try clear hcz18_2
  try clear hcz18_3
  try clear hcz18_4
  try clear hcz18_5
  try clear hcz18_6
  try clear hcz18_7
  try clear hcz18_8
  try clear hcz18_9
  try clear hcz20_0
  try clear hcz20_1
  try clear hcz20_10
  try clear hcz20_11
  try clear hcz20_12
  try clear hcz20_13
  try clear hcz20_14
  try clear hcz20_15
  try clear hcz20_2
  try clear hcz20_3
  try clear hcz20_4
  try clear hcz20_5
  try clear hcz20_6
  try clear hcz20_7
  try clear hcz20_8
  try clear hcz20_9
  try clear hcz22_0
  try clear hcz22_1
  try clear hcz22_10
  try clear hcz22_11
  try clear hcz22_12
  try clear hcz22_13
  try clear hcz22_14
  try clear hcz22_15
  try clear hcz22_2
  try clear hcz22_3
  try clear hcz22_4
  try clear hcz22_5
  try clear hcz22_6
  try clear hcz22_7
  try clear hcz22_8
  try clear hcz22_9
  try clear hcz24_0
  try clear hcz24_1
  try clear hcz24_10
  try clear hcz24_11
  try clear hcz24_12
  try clear hcz24_13
  try clear hcz24_14
  try clear hcz24_15
  try clear hcz24_2
  try clear hcz24_3
  try clear hcz24_4
  try clear hcz24_5
  try clear hcz24_6
  try clear hcz24_7
  try clear hcz24_8
  try clear hcz24_9
  try clear hcz26_0
  try clear hcz26_1
  try clear hcz26_10
  try clear hcz26_11
  try clear hcz26_12
  try clear hcz26_13
  try clear hcz26_14
  try clear hcz26_15
  try clear hcz26_2
  try clear hcz26_3
  try clear hcz26_4
  try clear hcz26_5
  try clear hcz26_6
  try clear hcz26_7
  try clear hcz26_8
  try clear hcz26_9
  try clear hcz27_0
  try clear hcz27_1
  try clear hcz27_10
  try clear hcz27_11
  try clear hcz27_12
  try clear hcz27_13
  try clear hcz27_14
  try clear hcz27_15
  try clear hcz27_2
  try clear hcz27_3
  try clear hcz27_4
  try clear hcz27_5
  try clear hcz27_6
  try clear hcz27_7
  try clear hcz27_8
  try clear hcz27_9
  try clear hcz29_0
  try clear hcz29_1
  try clear hcz29_10
  try clear hcz29_11
  try clear hcz29_12
  try clear hcz29_13
  try clear hcz29_14
  try clear hcz29_15
  try clear hcz29_2
  try clear hcz29_3
  try clear hcz29_4
  try clear hcz29_5
  try clear hcz29_6
  try clear hcz29_7
  try clear hcz29_8
  try clear hcz29_9
  try clear hcz30_0
  try clear hcz30_1
  try clear hcz30_10
  try clear hcz30_11
  try clear hcz30_12
  try clear hcz30_13
  try clear hcz30_14
  try clear hcz30_15
  try clear hcz30_2
  try clear hcz30_3
  try clear hcz30_4
  try clear hcz30_5
  try clear hcz30_6
  try clear hcz30_7
  try clear hcz30_8
  try clear hcz30_9
  try clear hfz12_0
  try clear hfz12_1
  try clear hfz12_10
  try clear hfz12_11
  try clear hfz12_12
  try clear hfz12_13
  try clear hfz12_14
  try clear hfz12_15
  try clear hfz12_2
  try clear hfz12_3
  try clear hfz12_4
  try clear hfz12_5
  try clear hfz12_6
  try clear hfz12_7
  try clear hfz12_8
  try clear hfz12_9
  try clear hfz14_0
  try clear hfz14_1
  try clear hfz14_10
  try clear hfz14_11
  try clear hfz14_12
  try clear hfz14_13
  try clear hfz14_14
  try clear hfz14_15
  try clear hfz14_2
  try clear hfz14_3
  try clear hfz14_4
  try clear hfz14_5
  try clear hfz14_6
  try clear hfz14_7
  try clear hfz14_8
  try clear hfz14_9
  try clear hfz16_0
  try clear hfz16_1
  try clear hfz16_10
  try clear hfz16_11
  try clear hfz16_12
  try clear hfz16_13
  try clear hfz16_14
  try clear hfz16_15
  try clear hfz16_2
  try clear hfz16_3
  try clear hfz16_4
  try clear hfz16_5
  try clear hfz16_6
  try clear hfz16_7
  try clear hfz16_8
  try clear hfz16_9
  try clear hfz18_0
  try clear hfz18_1
  try clear hfz18_10
  try clear hfz18_11
  try clear hfz18_12
  try clear hfz18_13
  try clear hfz18_14
  try clear hfz18_15
  try clear hfz18_2
  try clear hfz18_3
  try clear hfz18_4
  try clear hfz18_5
  try clear hfz18_6
  try clear hfz18_7
  try clear hfz18_8
  try clear hfz18_9
  try clear hfz20_0
  try clear hfz20_1
  try clear hfz20_10
  try clear hfz20_11
  try clear hfz20_12
  try clear hfz20_13
  try clear hfz20_14
  try clear hfz20_15
  try clear hfz20_2
  try clear hfz20_3
  try clear hfz20_4
  try clear hfz20_5
  try clear hfz20_6
  try clear hfz20_7
  try clear hfz20_8
  try clear hfz20_9
  try clear hfz22_0
  try clear hfz22_1
  try clear hfz22_10
  try clear hfz22_11
  try clear hfz22_12
  try clear hfz22_13
  try clear hfz22_14
  try clear hfz22_15
  try clear hfz22_2
  try clear hfz22_3
  try clear hfz22_4
  try clear hfz22_5
  try clear hfz22_6
  try clear hfz22_7
  try clear hfz22_8
  try clear hfz22_9
  try clear hfz24_0
  try clear hfz24_1
  try clear hfz24_10
  try clear hfz24_11
  try clear hfz24_12
  try clear hfz24_13
  try clear hfz24_14
  try clear hfz24_15
  try clear hfz24_2
  try clear hfz24_3
  try clear hfz24_4
  try clear hfz24_5
  try clear hfz24_6
  try clear hfz24_7
  try clear hfz24_8
  try clear hfz24_9
  try clear hfz26_0
  try clear hfz26_1
  try clear hfz26_10
  try clear hfz26_11
  try clear hfz26_12
  try clear hfz26_13
  try clear hfz26_14
  try clear hfz26_15
  try clear hfz26_2
  try clear hfz26_3
  try clear hfz26_4
  try clear hfz26_5
  try clear hfz26_6
  try clear hfz26_7
  try clear hfz26_8
  try clear hfz26_9
  try clear hfz27_0
  try clear hfz27_1
  try clear hfz27_10
  try clear hfz27_11
  try clear hfz27_12
  try clear hfz27_13
  try clear hfz27_14
  try clear hfz27_15
  try clear hfz27_2
  try clear hfz27_3
  try clear hfz27_4
  try clear hfz27_5
  try clear hfz27_6
  try clear hfz27_7
  try clear hfz27_8
  try clear hfz27_9
  try clear hfz29_0
  try clear hfz29_1
  try clear hfz29_10
  try clear hfz29_11
  try clear hfz29_12
  try clear hfz29_13
  try clear hfz29_14
  try clear hfz29_15
  try clear hfz29_2
  try clear hfz29_3
  try clear hfz29_4
  try clear hfz29_5
  try clear hfz29_6
  try clear hfz29_7
  try clear hfz29_8
  try clear hfz29_9
  try clear hfz30_0
  try clear hfz30_1
  try clear hfz30_10
  try clear hfz30_11
  try clear hfz30_12
  try clear hfz30_13
  try clear hfz30_14
  try clear hfz30_15
  try clear hfz30_2
  try clear hfz30_3
  try clear hfz30_4
  try clear hfz30_5
  try clear hfz30_6
  try clear hfz30_7
  try clear hfz30_8
  try clear hfz30_9
  obtain ⟨kq,x54_5,rfl,HA,HJ5,Qa,HB⟩:=hcut
  cases kq with
  | zero=>exact absurd HA.out (by simp [vesperslaw15_ResyncTogether.j0])
  | succ kj5 =>
   have H:=HA.out
   clear HA
   simp only [vesperslaw15_ResyncTogether.j0] at H
   by_cases c32 : x54_5 = true
   ·subst c32
    have H1 : (some Qy) = some r:=by rw [if_pos rfl] at H;exact H
    clear H
    have H:=H1
    clear H1
    obtain rfl:=Option.some.inj H
    go_wp2
    go_ret
    exact ⟨by first|rfl|(simp [errW_none,errW_some] <;> rfl)|(simp [*,errW_none,errW_some] <;> rfl),by repeat (first|(with_reducible first|exact HB.out|apply below_alloc|apply pw_below_drewN|apply below_drew1|refine below_set ?_ Qz.out)|exact HB.out)⟩
   ·replace c32:=Bool.eq_false_iff.mpr c32
    subst c32
    have H1 : (if 0 < (l1.length : Int) then (vesperslaw15_ResyncTogether.l0 kj5 l1 l2 a3 Qy (l1.length : Int) (rd l1 0) (rd l1 0) l1 (l1.length : Int) 0 Qn Qk Qo Qp Qq Qr Qs Qt Qu Qv Qc Qd Qe Qf Qg Qh) else (none)) = some r:=by rw [if_neg (show ¬ (false = true) by decide)] at H;exact H
    clear H
    have H:=H1
    clear H1
    by_cases c33 : 0 < (l1.length : Int)
    ·rw [if_pos c33] at H
     have c33b0 : decide (0 < (l1.length : Int)) = true:=decide_eq_true c33
     have c33b1 : decide (0 < l1.length) = true:=decide_eq_true (by omega)
     clear c33
     have H':=Aside0.mk H
     clear H
     try go_wp2
     have n0_:=Aside0.mk (blk_drew Qa.out)
     have n1_:=Aside0.mk (below_drew1 HB.out)
     clear Qa
     clear HB
     have Qa:=n0_
     have HB:=n1_
     clear n0_ n1_
     have p104 : 0 ≤ (0 : Int):=(by omega)
     have q104 : 0 < (l1.length : Int):=of_decide_eq_true (by first|(with_reducible assumption)|assumption)
     obtain ⟨ad104,e104,hx104_0⟩:=Kd.at_int HR1.out 0 p104 q104
     have hw104_0:=hx104_0
     (try rw [show ((0 : Int)).toNat = 0 from rfl] at hw104_0)
     (try rw [show 0 * 1 = 0 from rfl] at hw104_0)
     (try rw [Addr.add_zero'] at hw104_0)
     cases e104
     have qi104 : (0 < l1.length) = True:=eq_true (by omega)
     (try rw [show ((0 : Int)).toNat = 0 from rfl] at hx104_0)
     (try rw [Addr.add_zero'] at hx104_0)
     replace hx104_0:=(HB.out.cell (World.block_lt_of_cell? w _ hx104_0)).trans hx104_0
     replace p104:=eq_true p104
     replace q104:=eq_true q104
     have p105 : 0 ≤ (0 : Int):=(by omega)
     have q105 : 0 < (l1.length : Int):=of_decide_eq_true (by first|(with_reducible assumption)|assumption)
     obtain ⟨ad105,e105,hx105_0⟩:=Kd.at_int HR1.out 0 p105 q105
     have hw105_0:=hx105_0
     (try rw [show ((0 : Int)).toNat = 0 from rfl] at hw105_0)
     (try rw [show 0 * 1 = 0 from rfl] at hw105_0)
     (try rw [Addr.add_zero'] at hw105_0)
     obtain rfl : ad104 = ad105:=(by injection e105)
     have qi105 : (0 < l1.length) = True:=eq_true (by omega)
     (try rw [show ((0 : Int)).toNat = 0 from rfl] at hx105_0)
     (try rw [Addr.add_zero'] at hx105_0)
     replace hx105_0:=(HB.out.cell (World.block_lt_of_cell? w _ hx105_0)).trans hx105_0
     replace p105:=eq_true p105
     replace q105:=eq_true q105
     refine start_ (n:=8) (S:=fun w'=>w'.cell? ad104 = some (.int .i64 (rd l1 0))∧w'.cell? ad104 = some (.int .i64 (rd l1 0))) (ds:=[]) #[false,false,false,false,false,false,false,false] (by kernel_rfl) rfl rfl ⟨((HB.out.cell (World.block_lt_of_cell? w _ hw104_0)).trans hw104_0),((HB.out.cell (World.block_lt_of_cell? w _ hw105_0)).trans hw105_0)⟩ (fun hHeld=>?_);refine with_tabW vesperslaw15_ResyncTogether.tab5 vesperslaw15_ResyncTogether.bits5 (fun HT_ HW_=>?_)
     generalize wc.drew = w34 at Qa HB hx104_0 hx105_0 hHeld ⊢
     refine pure_ (i:=0) (N:=some 56) (v:=?_) (a':=?_) #[true,false,false,false,false,false,false,false] rfl rfl (any_of HT_.out (by kernel_rfl)) (fun _ _ _ h=>h) (Or.inl ⟨by rfl,?_⟩) ?_ ?_
     rotate_left
     ·intro w'
      go_simp
      with_reducible rfl
     rotate_left
     ·simp only [Act.put,List.setIfInBounds_toArray,List.set_cons_zero,List.set_cons_succ,i64_w,i32_w]
      rfl
     refine pure_ (i:=1) (N:=some 57) (v:=?_) (a':=?_) #[true,true,false,false,false,false,false,false] rfl rfl (any_of HT_.out (by kernel_rfl)) (fun _ _ _ h=>h) (Or.inl ⟨by rfl,?_⟩) ?_ ?_
     rotate_left
     ·intro w'
      go_simp
      with_reducible rfl
     rotate_left
     ·simp only [Act.put,List.setIfInBounds_toArray,List.set_cons_zero,List.set_cons_succ,i64_w,i32_w]
      rfl
     refine pure_ (i:=3) (N:=some 59) (v:=?_) (a':=?_) #[true,true,false,true,false,false,false,false] rfl rfl (any_of HT_.out (by kernel_rfl)) (fun _ _ _ h=>h) (Or.inl ⟨by rfl,?_⟩) ?_ ?_
     rotate_left
     ·intro w'
      go_simp
      with_reducible rfl
     rotate_left
     ·simp only [Act.put,List.setIfInBounds_toArray,List.set_cons_zero,List.set_cons_succ,i64_w,i32_w]
      rfl
     refine pure_ (i:=4) (N:=some 60) (v:=?_) (a':=?_) #[true,true,false,true,true,false,false,false] rfl rfl (any_of HT_.out (by kernel_rfl)) (fun _ _ _ h=>h) (Or.inl ⟨by rfl,?_⟩) ?_ ?_
     rotate_left
     ·intro w'
      go_simp
      with_reducible rfl
     rotate_left
     ·simp only [Act.put,List.setIfInBounds_toArray,List.set_cons_zero,List.set_cons_succ,i64_w,i32_w]
      rfl
     refine take_ (i:=2) (N:=some 58) (v:=?_) (a':=?_) #[true,true,true,true,true,false,false,false] rfl rfl (take_ofW HT_.out HW_.out (by kernel_rfl)) (fun _ _ _ h=>h) (Or.inl ⟨by rfl,?_⟩) hHeld ?_ ?_
     rotate_left
     ·rintro w' ⟨s0,s1⟩
      go_simp
      with_reducible rfl
     rotate_left
     ·simp only [Act.put,List.setIfInBounds_toArray,List.set_cons_zero,List.set_cons_succ,i64_w,i32_w]
      rfl
     refine pure_ (i:=6) (N:=some 11) (v:=?_) (a':=?_) #[true,true,true,true,true,false,true,false] rfl rfl (any_of HT_.out (by kernel_rfl)) (fun _ _ _ h=>h) (Or.inl ⟨by rfl,?_⟩) ?_ ?_
     rotate_left
     ·intro w'
      go_simp
      with_reducible rfl
     rotate_left
     ·simp only [Act.put,List.setIfInBounds_toArray,List.set_cons_zero,List.set_cons_succ,i64_w,i32_w]
      rfl
     refine take_ (i:=5) (N:=some 61) (v:=?_) (a':=?_) #[true,true,true,true,true,true,true,false] rfl rfl (take_ofW HT_.out HW_.out (by kernel_rfl)) (fun _ _ _ h=>h) (Or.inl ⟨by rfl,?_⟩) hHeld ?_ ?_
     rotate_left
     ·rintro w' ⟨s0,s1⟩
      go_simp
      with_reducible rfl
     rotate_left
     ·simp only [Act.put,List.setIfInBounds_toArray,List.set_cons_zero,List.set_cons_succ,i64_w,i32_w]
      rfl
     refine pure_ (i:=7) (N:=some 12) (v:=?_) (a':=?_) #[true,true,true,true,true,true,true,true] rfl rfl (any_of HT_.out (by kernel_rfl)) (fun _ _ _ h=>h) (Or.inl ⟨by rfl,?_⟩) ?_ ?_
     rotate_left
     ·intro w'
      go_simp
      with_reducible rfl
     rotate_left
     ·simp only [Act.put,List.setIfInBounds_toArray,List.set_cons_zero,List.set_cons_succ,i64_w,i32_w]
      rfl
     refine done_ (done_of HT_.out (by kernel_rfl)) ?_
     try go_wp2
     go_loopg [11,12,64] kj5 (fun kq v11 v12 v64 w'=>∃ (QA : Int) (QB : Int) (Qw : Int),v11 = .int .i64 QA∧v12 = .int .i64 QB∧v64 = .int .i64 Qw∧Aside0 (vesperslaw15_ResyncTogether.l0 kq l1 l2 a3 Qy (l1.length : Int) QA QB l1 (l1.length : Int) Qw Qn Qk Qo Qp Qq Qr Qs Qt Qu Qv Qc Qd Qe Qf Qg Qh = some r)∧Aside0 (kq ≤ kj5)∧Aside0 (w'.heap[Qb]? = some (.cells #[.int .i64 Qn,.int .i64 Qk,.int .i64 Qo,.int .i64 Qp,.int .i64 Qq,.int .i64 Qr,.int .i64 Qs,.int .i64 Qt,.int .i64 Qu,.int .i64 Qv,.int .i64 Qc,.int .i64 Qd,.int .i64 Qe,.int .i64 Qf,.int .i64 Qg,.int .i64 Qh] 23 (0,0)))∧Aside0 (Below w.heap.size w w'))
     case atStart=>exact ⟨(rd l1 0),(rd l1 0),(0),(by first|rfl|(simp;done)|(simp [*];done)),(by first|rfl|(simp;done)|(simp [*];done)),(by first|rfl|(simp;done)|(simp [*];done)),H',⟨Nat.le_refl _⟩,⟨by (with_reducible repeat (first|refine blk_drewN ?_ _|refine blk_drew ?_|refine blk_alloc ?_ _));exact Qa.out⟩,⟨by repeat (first|(with_reducible first|exact HB.out|apply below_alloc|apply pw_below_drewN|apply below_drew1|refine below_set ?_ Qz.out)|exact HB.out)⟩⟩
     case round =>
      clear H'
      try clear c1
      try clear p1
      try clear q1
      try clear hx1
      try clear qi1
      try clear c2
      try clear p2
      try clear c3
      try clear c4
      try clear p6
      try clear c10
      try clear c10b0
      try clear c10b1
      try clear p10
      try clear q10
      try clear hx10
      try clear qi10
      try clear c11
      try clear c11b0
      try clear c15
      try clear c15b0
      try clear c15b1
      try clear c16
      try clear c19
      try clear c19b0
      try clear c23
      try clear c23b0
      try clear c32
      try clear c33
      try clear c33b0
      try clear c33b1
      try clear hcz12_0
      try clear hcz12_1
      try clear hcz12_10
      try clear hcz12_11
      try clear hcz12_12
      try clear hcz12_13
      try clear hcz12_14
      try clear hcz12_15
      try clear hcz12_2
      try clear hcz12_3
      try clear hcz12_4
      try clear hcz12_5
      try clear hcz12_6
      try clear hcz12_7
      try clear hcz12_8
      try clear hcz12_9
      try clear hcz14_0
      try clear hcz14_1
      try clear hcz14_10
      try clear hcz14_11
      try clear hcz14_12
      try clear hcz14_13
      try clear hcz14_14
      try clear hcz14_15
      try clear hcz14_2
      try clear hcz14_3
      try clear hcz14_4
      try clear hcz14_5
      try clear hcz14_6
      try clear hcz14_7
      try clear hcz14_8
      try clear hcz14_9
      try clear hcz16_0
      try clear hcz16_1
      try clear hcz16_10
      try clear hcz16_11
      try clear hcz16_12
      try clear hcz16_13
      try clear hcz16_14
      try clear hcz16_15
      try clear hcz16_2
      try clear hcz16_3
      try clear hcz16_4
      try clear hcz16_5
      try clear hcz16_6
      try clear hcz16_7
      try clear hcz16_8
      try clear hcz16_9
      try clear hcz18_0
      try clear hcz18_1
      try clear hcz18_10
      try clear hcz18_11
      try clear hcz18_12
      try clear hcz18_13
      try clear hcz18_14
      try clear hcz18_15
      try clear hcz18_2
      try clear hcz18_3
      try clear hcz18_4
      try clear hcz18_5
      try clear hcz18_6
      try clear hcz18_7
      try clear hcz18_8
      try clear hcz18_9
      try clear hcz20_0
      try clear hcz20_1
      try clear hcz20_10
      try clear hcz20_11
      try clear hcz20_12
      try clear hcz20_13
      try clear hcz20_14
      try clear hcz20_15
      try clear hcz20_2
      try clear hcz20_3
      try clear hcz20_4
      try clear hcz20_5
      try clear hcz20_6
      try clear hcz20_7
      try clear hcz20_8
      try clear hcz20_9
      try clear hcz22_0
      try clear hcz22_1
      try clear hcz22_10
      try clear hcz22_11
      try clear hcz22_12
      try clear hcz22_13
      try clear hcz22_14
      try clear hcz22_15
      try clear hcz22_2
      try clear hcz22_3
      try clear hcz22_4
      try clear hcz22_5
      try clear hcz22_6
      try clear hcz22_7
      try clear hcz22_8
      try clear hcz22_9
      try clear hcz24_0
      try clear hcz24_1
      try clear hcz24_10
      try clear hcz24_11
      try clear hcz24_12
      try clear hcz24_13
      try clear hcz24_14
      try clear hcz24_15
      try clear hcz24_2
      try clear hcz24_3
      try clear hcz24_4
      try clear hcz24_5
      try clear hcz24_6
      try clear hcz24_7
      try clear hcz24_8
      try clear hcz24_9
      try clear hcz26_0
      try clear hcz26_1
      try clear hcz26_10
      try clear hcz26_11
      try clear hcz26_12
      try clear hcz26_13
      try clear hcz26_14
      try clear hcz26_15
      try clear hcz26_2
      try clear hcz26_3
      try clear hcz26_4
      try clear hcz26_5
      try clear hcz26_6
      try clear hcz26_7
      try clear hcz26_8
      try clear hcz26_9
      try clear hcz27_0
      try clear hcz27_1
      try clear hcz27_10
      try clear hcz27_11
      try clear hcz27_12
      try clear hcz27_13
      try clear hcz27_14
      try clear hcz27_15
      try clear hcz27_2
      try clear hcz27_3
      try clear hcz27_4
      try clear hcz27_5
      try clear hcz27_6
      try clear hcz27_7
      try clear hcz27_8
      try clear hcz27_9
      try clear hcz29_0
      try clear hcz29_1
      try clear hcz29_10
      try clear hcz29_11
      try clear hcz29_12
      try clear hcz29_13
      try clear hcz29_14
      try clear hcz29_15
      try clear hcz29_2
      try clear hcz29_3
      try clear hcz29_4
      try clear hcz29_5
      try clear hcz29_6
      try clear hcz29_7
      try clear hcz29_8
      try clear hcz29_9
      try clear hcz30_0
      try clear hcz30_1
      try clear hcz30_10
      try clear hcz30_11
      try clear hcz30_12
      try clear hcz30_13
      try clear hcz30_14
      try clear hcz30_15
      try clear hcz30_2
      try clear hcz30_3
      try clear hcz30_4
      try clear hcz30_5
      try clear hcz30_6
      try clear hcz30_7
      try clear hcz30_8
      try clear hcz30_9
      try clear hfz12_0
      try clear hfz12_1
      try clear hfz12_10
      try clear hfz12_11
      try clear hfz12_12
      try clear hfz12_13
      try clear hfz12_14
      try clear hfz12_15
      try clear hfz12_2
      try clear hfz12_3
      try clear hfz12_4
      try clear hfz12_5
      try clear hfz12_6
      try clear hfz12_7
      try clear hfz12_8
      try clear hfz12_9
      try clear hfz14_0
      try clear hfz14_1
      try clear hfz14_10
      try clear hfz14_11
      try clear hfz14_12
      try clear hfz14_13
      try clear hfz14_14
      try clear hfz14_15
      try clear hfz14_2
      try clear hfz14_3
      try clear hfz14_4
      try clear hfz14_5
      try clear hfz14_6
      try clear hfz14_7
      try clear hfz14_8
      try clear hfz14_9
      try clear hfz16_0
      try clear hfz16_1
      try clear hfz16_10
      try clear hfz16_11
      try clear hfz16_12
      try clear hfz16_13
      try clear hfz16_14
      try clear hfz16_15
      try clear hfz16_2
      try clear hfz16_3
      try clear hfz16_4
      try clear hfz16_5
      try clear hfz16_6
      try clear hfz16_7
      try clear hfz16_8
      try clear hfz16_9
      try clear hfz18_0
      try clear hfz18_1
      try clear hfz18_10
      try clear hfz18_11
      try clear hfz18_12
      try clear hfz18_13
      try clear hfz18_14
      try clear hfz18_15
      try clear hfz18_2
      try clear hfz18_3
      try clear hfz18_4
      try clear hfz18_5
      try clear hfz18_6
      try clear hfz18_7
      try clear hfz18_8
      try clear hfz18_9
      try clear hfz20_0
      try clear hfz20_1
      try clear hfz20_10
      try clear hfz20_11
      try clear hfz20_12
      try clear hfz20_13
      try clear hfz20_14
      try clear hfz20_15
      try clear hfz20_2
      try clear hfz20_3
      try clear hfz20_4
      try clear hfz20_5
      try clear hfz20_6
      try clear hfz20_7
      try clear hfz20_8
      try clear hfz20_9
      try clear hfz22_0
      try clear hfz22_1
      try clear hfz22_10
      try clear hfz22_11
      try clear hfz22_12
      try clear hfz22_13
      try clear hfz22_14
      try clear hfz22_15
      try clear hfz22_2
      try clear hfz22_3
      try clear hfz22_4
      try clear hfz22_5
      try clear hfz22_6
      try clear hfz22_7
      try clear hfz22_8
      try clear hfz22_9
      try clear hfz24_0
      try clear hfz24_1
      try clear hfz24_10
      try clear hfz24_11
      try clear hfz24_12
      try clear hfz24_13
      try clear hfz24_14
      try clear hfz24_15
      try clear hfz24_2
      try clear hfz24_3
      try clear hfz24_4
      try clear hfz24_5
      try clear hfz24_6
      try clear hfz24_7
      try clear hfz24_8
      try clear hfz24_9
      try clear hfz26_0
      try clear hfz26_1
      try clear hfz26_10
      try clear hfz26_11
      try clear hfz26_12
      try clear hfz26_13
      try clear hfz26_14
      try clear hfz26_15
      try clear hfz26_2
      try clear hfz26_3
      try clear hfz26_4
      try clear hfz26_5
      try clear hfz26_6
      try clear hfz26_7
      try clear hfz26_8
      try clear hfz26_9
      try clear hfz27_0
      try clear hfz27_1
      try clear hfz27_10
      try clear hfz27_11
      try clear hfz27_12
      try clear hfz27_13
      try clear hfz27_14
      try clear hfz27_15
      try clear hfz27_2
      try clear hfz27_3
      try clear hfz27_4
      try clear hfz27_5
      try clear hfz27_6
      try clear hfz27_7
      try clear hfz27_8
      try clear hfz27_9
      try clear hfz29_0
      try clear hfz29_1
      try clear hfz29_10
      try clear hfz29_11
      try clear hfz29_12
      try clear hfz29_13
      try clear hfz29_14
      try clear hfz29_15
      try clear hfz29_2
      try clear hfz29_3
      try clear hfz29_4
      try clear hfz29_5
      try clear hfz29_6
      try clear hfz29_7
      try clear hfz29_8
      try clear hfz29_9
      try clear hfz30_0
      try clear hfz30_1
      try clear hfz30_10
      try clear hfz30_11
      try clear hfz30_12
      try clear hfz30_13
      try clear hfz30_14
      try clear hfz30_15
      try clear hfz30_2
      try clear hfz30_3
      try clear hfz30_4
      try clear hfz30_5
      try clear hfz30_6
      try clear hfz30_7
      try clear hfz30_8
      try clear hfz30_9
      try clear hx104_0
      try clear hx105_0
      try clear p104
      try clear p105
      try clear p2
      try clear p6
      try clear q104
      try clear q105
      obtain ⟨QA,QB,Qw,rfl,rfl,rfl,HA,HK2,Qa,HB⟩:=hrel
      cases gk with
      | zero=>exact absurd HA.out (by simp [vesperslaw15_ResyncTogether.l0])
      | succ k2 =>
       have H:=HA.out
       clear HA
       simp only [vesperslaw15_ResyncTogether.l0] at H
       by_cases c35 : Qw < (l1.length : Int)
       ·rw [if_pos c35] at H
        have c35b0 : decide (Qw < (l1.length : Int)) = true:=decide_eq_true c35
        clear c35
        by_cases c36 : 0 ≤ Qw
        ·rw [if_pos c36] at H
         have c36b0 : decide (0 ≤ Qw) = true:=decide_eq_true c36
         clear c36
         by_cases c37 : Qw < (l1.length : Int)
         ·rw [if_pos c37] at H
          have c37b0 : decide (Qw < (l1.length : Int)) = true:=decide_eq_true c37
          clear c37
          by_cases c38 : (rd l1 Qw) < (-1073741824)
          ·rw [if_pos c38] at H
           have c38b0 : decide ((rd l1 Qw) < (-1073741824)) = true:=decide_eq_true c38
           clear c38
           obtain rfl:=Option.some.inj H
           have p106 : 0 ≤ (Qw : Int):=of_decide_eq_true (by first|(with_reducible assumption)|assumption)
           have q106 : Qw < (l1.length : Int):=of_decide_eq_true (by first|(with_reducible assumption)|assumption)
           obtain ⟨ad106,e106,hx106_0⟩:=Kd.at_int HR1.out Qw p106 q106
           obtain rfl : ad104 = ad106:=(by injection e106)
           replace hx106_0:=(HB.out.cell (World.block_lt_of_cell? w _ hx106_0)).trans hx106_0
           replace p106:=eq_true p106
           replace q106:=eq_true q106
           go_wp2
           go_ret
           exact ⟨by first|rfl|(simp [errW_none,errW_some] <;> rfl)|(simp [*,errW_none,errW_some] <;> rfl),by repeat (first|(with_reducible first|exact HB.out|apply below_alloc|apply pw_below_drewN|apply below_drew1|refine below_set ?_ Qz.out)|exact HB.out)⟩
          ·rw [if_neg c38] at H
           have c38b0 : decide ((rd l1 Qw) < (-1073741824)) = false:=decide_eq_false c38
           clear c38
           by_cases c39 : (rd l1 Qw) > 1073741824
           ·rw [if_pos c39] at H
            have c39b0 : decide (1073741824 < (rd l1 Qw)) = true:=decide_eq_true c39
            clear c39
            obtain rfl:=Option.some.inj H
            have p106 : 0 ≤ (Qw : Int):=of_decide_eq_true (by first|(with_reducible assumption)|assumption)
            have q106 : Qw < (l1.length : Int):=of_decide_eq_true (by first|(with_reducible assumption)|assumption)
            obtain ⟨ad106,e106,hx106_0⟩:=Kd.at_int HR1.out Qw p106 q106
            obtain rfl : ad104 = ad106:=(by injection e106)
            replace hx106_0:=(HB.out.cell (World.block_lt_of_cell? w _ hx106_0)).trans hx106_0
            replace p106:=eq_true p106
            replace q106:=eq_true q106
            go_wp2
            go_ret
            exact ⟨by first|rfl|(simp [errW_none,errW_some] <;> rfl)|(simp [*,errW_none,errW_some] <;> rfl),by repeat (first|(with_reducible first|exact HB.out|apply below_alloc|apply pw_below_drewN|apply below_drew1|refine below_set ?_ Qz.out)|exact HB.out)⟩
           ·rw [if_neg c39] at H
            have c39b0 : decide (1073741824 < (rd l1 Qw)) = false:=decide_eq_false c39
            clear c39
            obtain ⟨ji40,hji40⟩ : ∃ j_ : Int,(mn QA (rd l1 Qw)) = j_:=⟨_,rfl⟩
            replace H : (vesperslaw15_ResyncTogether.l0 k2 l1 l2 a3 Qy (l1.length : Int) ji40 (mx QB (rd l1 Qw)) l1 (l1.length : Int) (wrap64 (Qw + 1)) Qn Qk Qo Qp Qq Qr Qs Qt Qu Qv Qc Qd Qe Qf Qg Qh) = some r:=by first|(rw [hji40] at H;exact H)|(simp only [hji40] at H ⊢;exact H)
            have hji40_ : (if (rd l1 Qw) < QA then (rd l1 Qw) else QA) = ji40:=hji40
            obtain ⟨ji41,hji41⟩ : ∃ j_ : Int,(mx QB (rd l1 Qw)) = j_:=⟨_,rfl⟩
            replace H : (vesperslaw15_ResyncTogether.l0 k2 l1 l2 a3 Qy (l1.length : Int) ji40 ji41 l1 (l1.length : Int) (wrap64 (Qw + 1)) Qn Qk Qo Qp Qq Qr Qs Qt Qu Qv Qc Qd Qe Qf Qg Qh) = some r:=by first|(rw [hji41] at H;exact H)|(simp only [hji41] at H ⊢;exact H)
            have hji41_ : (if QB < (rd l1 Qw) then (rd l1 Qw) else QB) = ji41:=hji41
            have H':=Aside0.mk H
            clear H
            have p106 : 0 ≤ (Qw : Int):=of_decide_eq_true (by first|(with_reducible assumption)|assumption)
            have q106 : Qw < (l1.length : Int):=of_decide_eq_true (by first|(with_reducible assumption)|assumption)
            obtain ⟨ad106,e106,hx106_0⟩:=Kd.at_int HR1.out Qw p106 q106
            obtain rfl : ad104 = ad106:=(by injection e106)
            replace hx106_0:=(HB.out.cell (World.block_lt_of_cell? w _ hx106_0)).trans hx106_0
            replace p106:=eq_true p106
            replace q106:=eq_true q106
            go_wp2
            go_roundg k2
            case measure=>have:=HJ5.out;have:=HK2.out;omega
            case rel=>exact ⟨(ji40),(ji41),(wrap64 (Qw + 1)),(by first|rfl|(simp;done)|(simp only [← hji40] <;> (first|rfl|simp))|(simp [*];done)),(by first|rfl|(simp;done)|(simp only [← hji41] <;> (first|rfl|simp))|(simp [*];done)),(by first|rfl|(simp;done)|(simp [*];done)),H',⟨by have:=HJ5.out;have:=HK2.out;omega⟩,⟨by (with_reducible repeat (first|refine blk_drewN ?_ _|refine blk_drew ?_|refine blk_alloc ?_ _));exact Qa.out⟩,⟨by repeat (first|(with_reducible first|exact HB.out|apply below_alloc|apply pw_below_drewN|apply below_drew1|refine below_set ?_ Qz.out)|exact HB.out)⟩⟩
         ·rw [if_neg c37] at H
          exact absurd H (by simp)
        ·rw [if_neg c36] at H
         exact absurd H (by simp)
       ·rw [if_neg c35] at H
        have c35b0 : decide (Qw < (l1.length : Int)) = false:=decide_eq_false c35
        clear c35
        have H':=Aside0.mk H
        clear H
        go_wp2
        go_loopg [15,83] k2 (fun kq v15 v83 w'=>∃ (Ql : List Int) (Qi : Int),v83 = .int .i64 Qi∧Aside0 (vesperslaw15_ResyncTogether.l1 kq l1 l2 a3 Qy (l1.length : Int) QA QB Ql (l1.length : Int) Qi Qn Qk Qo Qp Qq Qr Qs Qt Qu Qv Qc Qd Qe Qf Qg Qh = some r)∧Aside0 (kq ≤ k2)∧Aside0 (Kd.R (Kd.int .i64) 2 w' w.heap.size (fun _=>True) v15 Ql)∧Aside0 (w'.heap[Qb]? = some (.cells #[.int .i64 Qn,.int .i64 Qk,.int .i64 Qo,.int .i64 Qp,.int .i64 Qq,.int .i64 Qr,.int .i64 Qs,.int .i64 Qt,.int .i64 Qu,.int .i64 Qv,.int .i64 Qc,.int .i64 Qd,.int .i64 Qe,.int .i64 Qf,.int .i64 Qg,.int .i64 Qh] 23 (0,0)))∧Aside0 (Below w.heap.size w w'))
        case atStart=>exact ⟨(([] : List Int)),(0),(by first|rfl|(simp;done)|(simp [*];done)),H',⟨Nat.le_refl _⟩,⟨by first|exact Kd.R_nil _ _ _ _ _|exact Kd.N_nil _ _ _ _ _|exact Kd.V_nil _ _ _ _ _|exact Kd.Q_nil _ _ _ _ _|exact Kd.S_nil _ _ _ _ _⟩,⟨by (with_reducible repeat (first|refine blk_drewN ?_ _|refine blk_drew ?_|refine blk_alloc ?_ _));exact Qa.out⟩,⟨by repeat (first|(with_reducible first|exact HB.out|apply below_alloc|apply pw_below_drewN|apply below_drew1|refine below_set ?_ Qz.out)|exact HB.out)⟩⟩
        case round =>
         clear H'
         try clear c1
         try clear p1
         try clear q1
         try clear hx1
         try clear qi1
         try clear c2
         try clear p2
         try clear c3
         try clear c4
         try clear p6
         try clear c10
         try clear c10b0
         try clear c10b1
         try clear p10
         try clear q10
         try clear hx10
         try clear qi10
         try clear c11
         try clear c11b0
         try clear c15
         try clear c15b0
         try clear c15b1
         try clear c16
         try clear c19
         try clear c19b0
         try clear c23
         try clear c23b0
         try clear c32
         try clear c33
         try clear c33b0
         try clear c33b1
         try clear c35
         try clear c35b0
         try clear c36
         try clear c36b0
         try clear c37
         try clear c37b0
         try clear c38
         try clear c38b0
         try clear c39
         try clear c39b0
         try clear hcz12_0
         try clear hcz12_1
         try clear hcz12_10
         try clear hcz12_11
         try clear hcz12_12
         try clear hcz12_13
         try clear hcz12_14
         try clear hcz12_15
         try clear hcz12_2
         try clear hcz12_3
         try clear hcz12_4
         try clear hcz12_5
         try clear hcz12_6
         try clear hcz12_7
         try clear hcz12_8
         try clear hcz12_9
         try clear hcz14_0
         try clear hcz14_1
         try clear hcz14_10
         try clear hcz14_11
         try clear hcz14_12
         try clear hcz14_13
         try clear hcz14_14
         try clear hcz14_15
         try clear hcz14_2
         try clear hcz14_3
         try clear hcz14_4
         try clear hcz14_5
         try clear hcz14_6
         try clear hcz14_7
         try clear hcz14_8
         try clear hcz14_9
         try clear hcz16_0
         try clear hcz16_1
         try clear hcz16_10
         try clear hcz16_11
         try clear hcz16_12
         try clear hcz16_13
         try clear hcz16_14
         try clear hcz16_15
         try clear hcz16_2
         try clear hcz16_3
         try clear hcz16_4
         try clear hcz16_5
         try clear hcz16_6
         try clear hcz16_7
         try clear hcz16_8
         try clear hcz16_9
         try clear hcz18_0
         try clear hcz18_1
         try clear hcz18_10
         try clear hcz18_11
         try clear hcz18_12
         try clear hcz18_13
         try clear hcz18_14
         try clear hcz18_15
         try clear hcz18_2
         try clear hcz18_3
         try clear hcz18_4
         try clear hcz18_5
         try clear hcz18_6
         try clear hcz18_7
         try clear hcz18_8
         try clear hcz18_9
         try clear hcz20_0
         try clear hcz20_1
         try clear hcz20_10
         try clear hcz20_11
         try clear hcz20_12
         try clear hcz20_13
         try clear hcz20_14
         try clear hcz20_15
         try clear hcz20_2
         try clear hcz20_3
         try clear hcz20_4
         try clear hcz20_5
         try clear hcz20_6
         try clear hcz20_7
         try clear hcz20_8
         try clear hcz20_9
         try clear hcz22_0
         try clear hcz22_1
         try clear hcz22_10
         try clear hcz22_11
         try clear hcz22_12
         try clear hcz22_13
         try clear hcz22_14
         try clear hcz22_15
         try clear hcz22_2
         try clear hcz22_3
         try clear hcz22_4
         try clear hcz22_5
         try clear hcz22_6
         try clear hcz22_7
         try clear hcz22_8
         try clear hcz22_9
         try clear hcz24_0
         try clear hcz24_1
         try clear hcz24_10
         try clear hcz24_11
         try clear hcz24_12
         try clear hcz24_13
         try clear hcz24_14
         try clear hcz24_15
         try clear hcz24_2
         try clear hcz24_3
         try clear hcz24_4
         try clear hcz24_5
         try clear hcz24_6
         try clear hcz24_7
         try clear hcz24_8
         try clear hcz24_9
         try clear hcz26_0
         try clear hcz26_1
         try clear hcz26_10
         try clear hcz26_11
         try clear hcz26_12
         try clear hcz26_13
         try clear hcz26_14
         try clear hcz26_15
         try clear hcz26_2
         try clear hcz26_3
         try clear hcz26_4
         try clear hcz26_5
         try clear hcz26_6
         try clear hcz26_7
         try clear hcz26_8
         try clear hcz26_9
         try clear hcz27_0
         try clear hcz27_1
         try clear hcz27_10
         try clear hcz27_11
         try clear hcz27_12
         try clear hcz27_13
         try clear hcz27_14
         try clear hcz27_15
         try clear hcz27_2
         try clear hcz27_3
         try clear hcz27_4
         try clear hcz27_5
         try clear hcz27_6
         try clear hcz27_7
         try clear hcz27_8
         try clear hcz27_9
         try clear hcz29_0
         try clear hcz29_1
         try clear hcz29_10
         try clear hcz29_11
         try clear hcz29_12
         try clear hcz29_13
         try clear hcz29_14
         try clear hcz29_15
         try clear hcz29_2
         try clear hcz29_3
         try clear hcz29_4
         try clear hcz29_5
         try clear hcz29_6
         try clear hcz29_7
         try clear hcz29_8
         try clear hcz29_9
         try clear hcz30_0
         try clear hcz30_1
         try clear hcz30_10
         try clear hcz30_11
         try clear hcz30_12
         try clear hcz30_13
         try clear hcz30_14
         try clear hcz30_15
         try clear hcz30_2
         try clear hcz30_3
         try clear hcz30_4
         try clear hcz30_5
         try clear hcz30_6
         try clear hcz30_7
         try clear hcz30_8
         try clear hcz30_9
         try clear hfz12_0
         try clear hfz12_1
         try clear hfz12_10
         try clear hfz12_11
         try clear hfz12_12
         try clear hfz12_13
         try clear hfz12_14
         try clear hfz12_15
         try clear hfz12_2
         try clear hfz12_3
         try clear hfz12_4
         try clear hfz12_5
         try clear hfz12_6
         try clear hfz12_7
         try clear hfz12_8
         try clear hfz12_9
         try clear hfz14_0
         try clear hfz14_1
         try clear hfz14_10
         try clear hfz14_11
         try clear hfz14_12
         try clear hfz14_13
         try clear hfz14_14
         try clear hfz14_15
         try clear hfz14_2
         try clear hfz14_3
         try clear hfz14_4
         try clear hfz14_5
         try clear hfz14_6
         try clear hfz14_7
         try clear hfz14_8
         try clear hfz14_9
         try clear hfz16_0
         try clear hfz16_1
         try clear hfz16_10
         try clear hfz16_11
         try clear hfz16_12
         try clear hfz16_13
         try clear hfz16_14
         try clear hfz16_15
         try clear hfz16_2
         try clear hfz16_3
         try clear hfz16_4
         try clear hfz16_5
         try clear hfz16_6
         try clear hfz16_7
         try clear hfz16_8
         try clear hfz16_9
         try clear hfz18_0
         try clear hfz18_1
         try clear hfz18_10
         try clear hfz18_11
         try clear hfz18_12
         try clear hfz18_13
         try clear hfz18_14
         try clear hfz18_15
         try clear hfz18_2
         try clear hfz18_3
         try clear hfz18_4
         try clear hfz18_5
         try clear hfz18_6
         try clear hfz18_7
         try clear hfz18_8
         try clear hfz18_9
         try clear hfz20_0
         try clear hfz20_1
         try clear hfz20_10
         try clear hfz20_11
         try clear hfz20_12
         try clear hfz20_13
         try clear hfz20_14
         try clear hfz20_15
         try clear hfz20_2
         try clear hfz20_3
         try clear hfz20_4
         try clear hfz20_5
         try clear hfz20_6
         try clear hfz20_7
         try clear hfz20_8
         try clear hfz20_9
         try clear hfz22_0
         try clear hfz22_1
         try clear hfz22_10
         try clear hfz22_11
         try clear hfz22_12
         try clear hfz22_13
         try clear hfz22_14
         try clear hfz22_15
         try clear hfz22_2
         try clear hfz22_3
         try clear hfz22_4
         try clear hfz22_5
         try clear hfz22_6
         try clear hfz22_7
         try clear hfz22_8
         try clear hfz22_9
         try clear hfz24_0
         try clear hfz24_1
         try clear hfz24_10
         try clear hfz24_11
         try clear hfz24_12
         try clear hfz24_13
         try clear hfz24_14
         try clear hfz24_15
         try clear hfz24_2
         try clear hfz24_3
         try clear hfz24_4
         try clear hfz24_5
         try clear hfz24_6
         try clear hfz24_7
         try clear hfz24_8
         try clear hfz24_9
         try clear hfz26_0
         try clear hfz26_1
         try clear hfz26_10
         try clear hfz26_11
         try clear hfz26_12
         try clear hfz26_13
         try clear hfz26_14
         try clear hfz26_15
         try clear hfz26_2
         try clear hfz26_3
         try clear hfz26_4
         try clear hfz26_5
         try clear hfz26_6
         try clear hfz26_7
         try clear hfz26_8
         try clear hfz26_9
         try clear hfz27_0
         try clear hfz27_1
         try clear hfz27_10
         try clear hfz27_11
         try clear hfz27_12
         try clear hfz27_13
         try clear hfz27_14
         try clear hfz27_15
         try clear hfz27_2
         try clear hfz27_3
         try clear hfz27_4
         try clear hfz27_5
         try clear hfz27_6
         try clear hfz27_7
         try clear hfz27_8
         try clear hfz27_9
         try clear hfz29_0
         try clear hfz29_1
         try clear hfz29_10
         try clear hfz29_11
         try clear hfz29_12
         try clear hfz29_13
         try clear hfz29_14
         try clear hfz29_15
         try clear hfz29_2
         try clear hfz29_3
         try clear hfz29_4
         try clear hfz29_5
         try clear hfz29_6
         try clear hfz29_7
         try clear hfz29_8
         try clear hfz29_9
         try clear hfz30_0
         try clear hfz30_1
         try clear hfz30_10
         try clear hfz30_11
         try clear hfz30_12
         try clear hfz30_13
         try clear hfz30_14
         try clear hfz30_15
         try clear hfz30_2
         try clear hfz30_3
         try clear hfz30_4
         try clear hfz30_5
         try clear hfz30_6
         try clear hfz30_7
         try clear hfz30_8
         try clear hfz30_9
         try clear hx104_0
         try clear hx105_0
         try clear hx106_0
         try clear p1
         try clear p10
         try clear p104
         try clear p105
         try clear p106
         try clear p2
         try clear p6
         try clear q1
         try clear q10
         try clear q104
         try clear q105
         try clear q106
         obtain ⟨Ql,Qi,rfl,HA,HK3,HO_15,Qa,HB⟩:=hrel
         cases gk with
         | zero=>exact absurd HA.out (by simp [vesperslaw15_ResyncTogether.l1])
         | succ k3 =>
          have H:=HA.out
          clear HA
          simp only [vesperslaw15_ResyncTogether.l1] at H
          by_cases c42 : Qi < (l1.length : Int)
          ·rw [if_pos c42] at H
           have c42b0 : decide (Qi < (l1.length : Int)) = true:=decide_eq_true c42
           clear c42
           have H':=Aside0.mk H
           clear H
           go_wp2
           go_loopg [17,87] k3 (fun kq v17 v87 w'=>∃ (QC : List Int) (Qm : Int),v87 = .int .i64 Qm∧Aside0 (vesperslaw15_ResyncTogether.l2 kq l1 l2 a3 Qy (l1.length : Int) QA QB Ql Qi QC (l1.length : Int) Qi (l1.length : Int) Qm Qn Qk Qo Qp Qq Qr Qs Qt Qu Qv Qc Qd Qe Qf Qg Qh = some r)∧Aside0 (kq ≤ k3)∧Aside0 (Kd.R (Kd.int .i64) 2 w' w.heap.size (fun k_=>some k_ ≠ (v17 : Value).ownBlock) u15 Ql)∧Aside0 (Kd.R (Kd.int .i64) 2 w' w.heap.size (fun k_=>some k_ ≠ (u15 : Value).ownBlock) v17 QC)∧Aside0 (w'.heap[Qb]? = some (.cells #[.int .i64 Qn,.int .i64 Qk,.int .i64 Qo,.int .i64 Qp,.int .i64 Qq,.int .i64 Qr,.int .i64 Qs,.int .i64 Qt,.int .i64 Qu,.int .i64 Qv,.int .i64 Qc,.int .i64 Qd,.int .i64 Qe,.int .i64 Qf,.int .i64 Qg,.int .i64 Qh] 23 (0,0)))∧Aside0 (Below w.heap.size w w'))
           case atStart=>exact ⟨(([] : List Int)),(0),(by first|rfl|(simp;done)|(simp [*];done)),H',⟨Nat.le_refl _⟩,⟨by (with_reducible repeat (first|apply Kd.R_alloc|apply Kd.R_drewN|apply Kd.R_drew));exact Kd.R_mono HO_15.out (fun _ hk=>(by simp [Value.ownBlock]))⟩,⟨by first|exact Kd.R_nil _ _ _ _ _|exact Kd.N_nil _ _ _ _ _|exact Kd.V_nil _ _ _ _ _|exact Kd.Q_nil _ _ _ _ _|exact Kd.S_nil _ _ _ _ _⟩,⟨by (with_reducible repeat (first|refine blk_drewN ?_ _|refine blk_drew ?_|refine blk_alloc ?_ _));exact Qa.out⟩,⟨by repeat (first|(with_reducible first|exact HB.out|apply below_alloc|apply pw_below_drewN|apply below_drew1|refine below_set ?_ Qz.out)|exact HB.out)⟩⟩
           case round =>
            clear H'
            try clear c1
            try clear p1
            try clear q1
            try clear hx1
            try clear qi1
            try clear c2
            try clear p2
            try clear c3
            try clear c4
            try clear p6
            try clear c10
            try clear c10b0
            try clear c10b1
            try clear p10
            try clear q10
            try clear hx10
            try clear qi10
            try clear c11
            try clear c11b0
            try clear c15
            try clear c15b0
            try clear c15b1
            try clear c16
            try clear c19
            try clear c19b0
            try clear c23
            try clear c23b0
            try clear c32
            try clear c33
            try clear c33b0
            try clear c33b1
            try clear c35
            try clear c35b0
            try clear c36
            try clear c36b0
            try clear c37
            try clear c37b0
            try clear c38
            try clear c38b0
            try clear c39
            try clear c39b0
            try clear c42
            try clear c42b0
            try clear hcz12_0
            try clear hcz12_1
            try clear hcz12_10
            try clear hcz12_11
            try clear hcz12_12
            try clear hcz12_13
            try clear hcz12_14
            try clear hcz12_15
            try clear hcz12_2
            try clear hcz12_3
            try clear hcz12_4
            try clear hcz12_5
            try clear hcz12_6
            try clear hcz12_7
            try clear hcz12_8
            try clear hcz12_9
            try clear hcz14_0
            try clear hcz14_1
            try clear hcz14_10
            try clear hcz14_11
            try clear hcz14_12
            try clear hcz14_13
            try clear hcz14_14
            try clear hcz14_15
            try clear hcz14_2
            try clear hcz14_3
            try clear hcz14_4
            try clear hcz14_5
            try clear hcz14_6
            try clear hcz14_7
            try clear hcz14_8
            try clear hcz14_9
            try clear hcz16_0
            try clear hcz16_1
            try clear hcz16_10
            try clear hcz16_11
            try clear hcz16_12
            try clear hcz16_13
            try clear hcz16_14
            try clear hcz16_15
            try clear hcz16_2
            try clear hcz16_3
            try clear hcz16_4
            try clear hcz16_5
            try clear hcz16_6
            try clear hcz16_7
            try clear hcz16_8
            try clear hcz16_9
            try clear hcz18_0
            try clear hcz18_1
            try clear hcz18_10
            try clear hcz18_11
            try clear hcz18_12
            try clear hcz18_13
            try clear hcz18_14
            try clear hcz18_15
            try clear hcz18_2
            try clear hcz18_3
            try clear hcz18_4
            try clear hcz18_5
            try clear hcz18_6
            try clear hcz18_7
            try clear hcz18_8
            try clear hcz18_9
            try clear hcz20_0
            try clear hcz20_1
            try clear hcz20_10
            try clear hcz20_11
            try clear hcz20_12
            try clear hcz20_13
            try clear hcz20_14
            try clear hcz20_15
            try clear hcz20_2
            try clear hcz20_3
            try clear hcz20_4
            try clear hcz20_5
            try clear hcz20_6
            try clear hcz20_7
            try clear hcz20_8
            try clear hcz20_9
            try clear hcz22_0
            try clear hcz22_1
            try clear hcz22_10
            try clear hcz22_11
            try clear hcz22_12
            try clear hcz22_13
            try clear hcz22_14
            try clear hcz22_15
            try clear hcz22_2
            try clear hcz22_3
            try clear hcz22_4
            try clear hcz22_5
            try clear hcz22_6
            try clear hcz22_7
            try clear hcz22_8
            try clear hcz22_9
            try clear hcz24_0
            try clear hcz24_1
            try clear hcz24_10
            try clear hcz24_11
            try clear hcz24_12
            try clear hcz24_13
            try clear hcz24_14
            try clear hcz24_15
            try clear hcz24_2
            try clear hcz24_3
            try clear hcz24_4
            try clear hcz24_5
            try clear hcz24_6
            try clear hcz24_7
            try clear hcz24_8
            try clear hcz24_9
            try clear hcz26_0
            try clear hcz26_1
            try clear hcz26_10
            try clear hcz26_11
            try clear hcz26_12
            try clear hcz26_13
            try clear hcz26_14
            try clear hcz26_15
            try clear hcz26_2
            try clear hcz26_3
            try clear hcz26_4
            try clear hcz26_5
            try clear hcz26_6
            try clear hcz26_7
            try clear hcz26_8
            try clear hcz26_9
            try clear hcz27_0
            try clear hcz27_1
            try clear hcz27_10
            try clear hcz27_11
            try clear hcz27_12
            try clear hcz27_13
            try clear hcz27_14
            try clear hcz27_15
            try clear hcz27_2
            try clear hcz27_3
            try clear hcz27_4
            try clear hcz27_5
            try clear hcz27_6
            try clear hcz27_7
            try clear hcz27_8
            try clear hcz27_9
            try clear hcz29_0
            try clear hcz29_1
            try clear hcz29_10
            try clear hcz29_11
            try clear hcz29_12
            try clear hcz29_13
            try clear hcz29_14
            try clear hcz29_15
            try clear hcz29_2
            try clear hcz29_3
            try clear hcz29_4
            try clear hcz29_5
            try clear hcz29_6
            try clear hcz29_7
            try clear hcz29_8
            try clear hcz29_9
            try clear hcz30_0
            try clear hcz30_1
            try clear hcz30_10
            try clear hcz30_11
            try clear hcz30_12
            try clear hcz30_13
            try clear hcz30_14
            try clear hcz30_15
            try clear hcz30_2
            try clear hcz30_3
            try clear hcz30_4
            try clear hcz30_5
            try clear hcz30_6
            try clear hcz30_7
            try clear hcz30_8
            try clear hcz30_9
            try clear hfz12_0
            try clear hfz12_1
            try clear hfz12_10
            try clear hfz12_11
            try clear hfz12_12
            try clear hfz12_13
            try clear hfz12_14
            try clear hfz12_15
            try clear hfz12_2
            try clear hfz12_3
            try clear hfz12_4
            try clear hfz12_5
            try clear hfz12_6
            try clear hfz12_7
            try clear hfz12_8
            try clear hfz12_9
            try clear hfz14_0
            try clear hfz14_1
            try clear hfz14_10
            try clear hfz14_11
            try clear hfz14_12
            try clear hfz14_13
            try clear hfz14_14
            try clear hfz14_15
            try clear hfz14_2
            try clear hfz14_3
            try clear hfz14_4
            try clear hfz14_5
            try clear hfz14_6
            try clear hfz14_7
            try clear hfz14_8
            try clear hfz14_9
            try clear hfz16_0
            try clear hfz16_1
            try clear hfz16_10
            try clear hfz16_11
            try clear hfz16_12
            try clear hfz16_13
            try clear hfz16_14
            try clear hfz16_15
            try clear hfz16_2
            try clear hfz16_3
            try clear hfz16_4
            try clear hfz16_5
            try clear hfz16_6
            try clear hfz16_7
            try clear hfz16_8
            try clear hfz16_9
            try clear hfz18_0
            try clear hfz18_1
            try clear hfz18_10
            try clear hfz18_11
            try clear hfz18_12
            try clear hfz18_13
            try clear hfz18_14
            try clear hfz18_15
            try clear hfz18_2
            try clear hfz18_3
            try clear hfz18_4
            try clear hfz18_5
            try clear hfz18_6
            try clear hfz18_7
            try clear hfz18_8
            try clear hfz18_9
            try clear hfz20_0
            try clear hfz20_1
            try clear hfz20_10
            try clear hfz20_11
            try clear hfz20_12
            try clear hfz20_13
            try clear hfz20_14
            try clear hfz20_15
            try clear hfz20_2
            try clear hfz20_3
            try clear hfz20_4
            try clear hfz20_5
            try clear hfz20_6
            try clear hfz20_7
            try clear hfz20_8
            try clear hfz20_9
            try clear hfz22_0
            try clear hfz22_1
            try clear hfz22_10
            try clear hfz22_11
            try clear hfz22_12
            try clear hfz22_13
            try clear hfz22_14
            try clear hfz22_15
            try clear hfz22_2
            try clear hfz22_3
            try clear hfz22_4
            try clear hfz22_5
            try clear hfz22_6
            try clear hfz22_7
            try clear hfz22_8
            try clear hfz22_9
            try clear hfz24_0
            try clear hfz24_1
            try clear hfz24_10
            try clear hfz24_11
            try clear hfz24_12
            try clear hfz24_13
            try clear hfz24_14
            try clear hfz24_15
            try clear hfz24_2
            try clear hfz24_3
            try clear hfz24_4
            try clear hfz24_5
            try clear hfz24_6
            try clear hfz24_7
            try clear hfz24_8
            try clear hfz24_9
            try clear hfz26_0
            try clear hfz26_1
            try clear hfz26_10
            try clear hfz26_11
            try clear hfz26_12
            try clear hfz26_13
            try clear hfz26_14
            try clear hfz26_15
            try clear hfz26_2
            try clear hfz26_3
            try clear hfz26_4
            try clear hfz26_5
            try clear hfz26_6
            try clear hfz26_7
            try clear hfz26_8
            try clear hfz26_9
            try clear hfz27_0
            try clear hfz27_1
            try clear hfz27_10
            try clear hfz27_11
            try clear hfz27_12
            try clear hfz27_13
            try clear hfz27_14
            try clear hfz27_15
            try clear hfz27_2
            try clear hfz27_3
            try clear hfz27_4
            try clear hfz27_5
            try clear hfz27_6
            try clear hfz27_7
            try clear hfz27_8
            try clear hfz27_9
            try clear hfz29_0
            try clear hfz29_1
            try clear hfz29_10
            try clear hfz29_11
            try clear hfz29_12
            try clear hfz29_13
            try clear hfz29_14
            try clear hfz29_15
            try clear hfz29_2
            try clear hfz29_3
            try clear hfz29_4
            try clear hfz29_5
            try clear hfz29_6
            try clear hfz29_7
            try clear hfz29_8
            try clear hfz29_9
            try clear hfz30_0
            try clear hfz30_1
            try clear hfz30_10
            try clear hfz30_11
            try clear hfz30_12
            try clear hfz30_13
            try clear hfz30_14
            try clear hfz30_15
            try clear hfz30_2
            try clear hfz30_3
            try clear hfz30_4
            try clear hfz30_5
            try clear hfz30_6
            try clear hfz30_7
            try clear hfz30_8
            try clear hfz30_9
            try clear hx104_0
            try clear hx105_0
            try clear hx106_0
            try clear p1
            try clear p10
            try clear p104
            try clear p105
            try clear p106
            try clear p2
            try clear p6
            try clear q1
            try clear q10
            try clear q104
            try clear q105
            try clear q106
            obtain ⟨QC,Qm,rfl,HA,HK4,HO_15,HO_17,Qa,HB⟩:=hrel
            cases gk with
            | zero=>exact absurd HA.out (by simp [vesperslaw15_ResyncTogether.l2])
            | succ k4 =>
             have H:=HA.out
             clear HA
             simp only [vesperslaw15_ResyncTogether.l2] at H
             by_cases c43 : Qm < (l1.length : Int)
             ·rw [if_pos c43] at H
              have c43b0 : decide (Qm < (l1.length : Int)) = true:=decide_eq_true c43
              clear c43
              by_cases c44 : Qm = Qi
              ·rw [if_pos c44] at H
               have c44b0 : (Qm == Qi) = true:=beq_iff_eq.mpr c44
               have c44b1 : (Qm != Qi) = false:=bne_eq_false_iff_eq.mpr c44
               clear c44
               by_cases c45 : 0 ≤ Qi
               ·rw [if_pos c45] at H
                have c45b0 : decide (0 ≤ Qi) = true:=decide_eq_true c45
                clear c45
                by_cases c46 : Qi < (l1.length : Int)
                ·rw [if_pos c46] at H
                 have c46b0 : decide (Qi < (l1.length : Int)) = true:=decide_eq_true c46
                 clear c46
                 by_cases c47 : 0 ≤ Qm
                 ·rw [if_pos c47] at H
                  have c47b0 : decide (0 ≤ Qm) = true:=decide_eq_true c47
                  clear c47
                  by_cases c48 : Qm < (l1.length : Int)
                  ·rw [if_pos c48] at H
                   have c48b0 : decide (Qm < (l1.length : Int)) = true:=decide_eq_true c48
                   clear c48
                   by_cases c49 : QC.length < 17592186044416
                   ·rw [if_pos c49] at H
                    have LMc49:=Aside0.mk c49
                    clear c49
                    obtain ⟨y109,hy109⟩ : ∃ y_ : List Int,y_ = (QC++[wrap64 (wrap64 ((rd l1 Qi) - (rd l1 Qm)))]):=⟨_,rfl⟩
                    replace H : (vesperslaw15_ResyncTogether.l2 k4 l1 l2 a3 Qy (l1.length : Int) QA QB Ql Qi y109 (l1.length : Int) Qi (l1.length : Int) (wrap64 (Qm + 1)) Qn Qk Qo Qp Qq Qr Qs Qt Qu Qv Qc Qd Qe Qf Qg Qh) = some r:=by first|(rw [hy109];with_reducible exact H)|(have H2_:=(Option.bind_some _ _).symm.trans H;rw [hy109];with_reducible exact H2_)|(have H2_:=(Option.bind_some _ _).symm.trans H;with_reducible exact H2_)|with_reducible exact H|(rw [hy109];exact H)|exact H
                    have Ny109:=Aside0.mk hy109
                    clear hy109
                    have H':=Aside0.mk H
                    clear H
                    try go_wp2
                    have n0_:=Aside0.mk (Kd.R_drew HO_15.out)
                    have n1_:=Aside0.mk (Kd.R_drew HO_17.out)
                    have n2_:=Aside0.mk (blk_drew Qa.out)
                    have n3_:=Aside0.mk (below_drew1 HB.out)
                    clear HO_15
                    clear HO_17
                    clear Qa
                    clear HB
                    have HO_15:=n0_
                    have HO_17:=n1_
                    have Qa:=n2_
                    have HB:=n3_
                    clear n0_ n1_ n2_ n3_
                    have p107 : 0 ≤ (Qi : Int):=of_decide_eq_true (by first|(with_reducible assumption)|assumption)
                    have q107 : Qi < (l1.length : Int):=of_decide_eq_true (by first|(with_reducible assumption)|assumption)
                    obtain ⟨ad107,e107,hx107_0⟩:=Kd.at_int HR1.out Qi p107 q107
                    have hw107_0:=hx107_0
                    obtain rfl : ad104 = ad107:=(by injection e107)
                    replace hx107_0:=(HB.out.cell (World.block_lt_of_cell? w _ hx107_0)).trans hx107_0
                    replace p107:=eq_true p107
                    replace q107:=eq_true q107
                    have p108 : 0 ≤ (Qm : Int):=of_decide_eq_true (by first|(with_reducible assumption)|assumption)
                    have q108 : Qm < (l1.length : Int):=of_decide_eq_true (by first|(with_reducible assumption)|assumption)
                    obtain ⟨ad108,e108,hx108_0⟩:=Kd.at_int HR1.out Qm p108 q108
                    have hw108_0:=hx108_0
                    obtain rfl : ad104 = ad108:=(by injection e108)
                    replace hx108_0:=(HB.out.cell (World.block_lt_of_cell? w _ hx108_0)).trans hx108_0
                    replace p108:=eq_true p108
                    replace q108:=eq_true q108
                    refine start_ (n:=15) (S:=fun w'=>w'.cell? (ad104.add (Qi).toNat) = some (.int .i64 (rd l1 Qi))∧w'.cell? (ad104.add (Qm).toNat) = some (.int .i64 (rd l1 Qm))) (ds:=[]) #[false,false,false,false,false,false,false,false,false,false,false,false,false,false,false] (by kernel_rfl) rfl rfl ⟨((HB.out.cell (World.block_lt_of_cell? w _ hw107_0)).trans hw107_0),((HB.out.cell (World.block_lt_of_cell? w _ hw108_0)).trans hw108_0)⟩ (fun hHeld=>?_);refine with_tabW vesperslaw15_ResyncTogether.tab25 vesperslaw15_ResyncTogether.bits25 (fun HT_ HW_=>?_)
                    generalize wr.drew = w50 at HO_15 HO_17 Qa HB hx107_0 hx108_0 hHeld ⊢
                    refine pure_ (i:=0) (N:=some 111) (v:=?_) (a':=?_) #[true,false,false,false,false,false,false,false,false,false,false,false,false,false,false] rfl rfl (any_of HT_.out (by kernel_rfl)) (fun _ _ _ h=>h) (Or.inl ⟨by rfl,?_⟩) ?_ ?_
                    rotate_left
                    ·intro w'
                     go_simp
                     with_reducible rfl
                    rotate_left
                    ·simp only [Act.put,List.setIfInBounds_toArray,List.set_cons_zero,List.set_cons_succ,i64_w,i32_w]
                     rfl
                    refine pure_ (i:=1) (N:=some 112) (v:=?_) (a':=?_) #[true,true,false,false,false,false,false,false,false,false,false,false,false,false,false] rfl rfl (any_of HT_.out (by kernel_rfl)) (fun _ _ _ h=>h) (Or.inl ⟨by rfl,?_⟩) ?_ ?_
                    rotate_left
                    ·intro w'
                     go_simp
                     with_reducible rfl
                    rotate_left
                    ·simp only [Act.put,List.setIfInBounds_toArray,List.set_cons_zero,List.set_cons_succ,i64_w,i32_w]
                     rfl
                    refine pure_ (i:=2) (N:=some 113) (v:=?_) (a':=?_) #[true,true,true,false,false,false,false,false,false,false,false,false,false,false,false] rfl rfl (any_of HT_.out (by kernel_rfl)) (fun _ _ _ h=>h) (Or.inl ⟨by rfl,?_⟩) ?_ ?_
                    rotate_left
                    ·intro w'
                     go_simp
                     with_reducible rfl
                    rotate_left
                    ·simp only [Act.put,List.setIfInBounds_toArray,List.set_cons_zero,List.set_cons_succ,i64_w,i32_w]
                     rfl
                    refine pure_ (i:=3) (N:=some 114) (v:=?_) (a':=?_) #[true,true,true,true,false,false,false,false,false,false,false,false,false,false,false] rfl rfl (any_of HT_.out (by kernel_rfl)) (fun _ _ _ h=>h) (Or.inl ⟨by rfl,?_⟩) ?_ ?_
                    rotate_left
                    ·intro w'
                     go_simp
                     with_reducible rfl
                    rotate_left
                    ·simp only [Act.put,List.setIfInBounds_toArray,List.set_cons_zero,List.set_cons_succ,i64_w,i32_w]
                     rfl
                    refine pure_ (i:=5) (N:=some 116) (v:=?_) (a':=?_) #[true,true,true,true,false,true,false,false,false,false,false,false,false,false,false] rfl rfl (any_of HT_.out (by kernel_rfl)) (fun _ _ _ h=>h) (Or.inl ⟨by rfl,?_⟩) ?_ ?_
                    rotate_left
                    ·intro w'
                     go_simp
                     with_reducible rfl
                    rotate_left
                    ·simp only [Act.put,List.setIfInBounds_toArray,List.set_cons_zero,List.set_cons_succ,i64_w,i32_w]
                     rfl
                    refine pure_ (i:=6) (N:=some 117) (v:=?_) (a':=?_) #[true,true,true,true,false,true,true,false,false,false,false,false,false,false,false] rfl rfl (any_of HT_.out (by kernel_rfl)) (fun _ _ _ h=>h) (Or.inl ⟨by rfl,?_⟩) ?_ ?_
                    rotate_left
                    ·intro w'
                     go_simp
                     with_reducible rfl
                    rotate_left
                    ·simp only [Act.put,List.setIfInBounds_toArray,List.set_cons_zero,List.set_cons_succ,i64_w,i32_w]
                     rfl
                    refine pure_ (i:=7) (N:=some 118) (v:=?_) (a':=?_) #[true,true,true,true,false,true,true,true,false,false,false,false,false,false,false] rfl rfl (any_of HT_.out (by kernel_rfl)) (fun _ _ _ h=>h) (Or.inl ⟨by rfl,?_⟩) ?_ ?_
                    rotate_left
                    ·intro w'
                     go_simp
                     with_reducible rfl
                    rotate_left
                    ·simp only [Act.put,List.setIfInBounds_toArray,List.set_cons_zero,List.set_cons_succ,i64_w,i32_w]
                     rfl
                    refine pure_ (i:=10) (N:=some 121) (v:=?_) (a':=?_) #[true,true,true,true,false,true,true,true,false,false,true,false,false,false,false] rfl rfl (any_of HT_.out (by kernel_rfl)) (fun _ _ _ h=>h) (Or.inl ⟨by rfl,?_⟩) ?_ ?_
                    rotate_left
                    ·intro w'
                     go_simp
                     with_reducible rfl
                    rotate_left
                    ·simp only [Act.put,List.setIfInBounds_toArray,List.set_cons_zero,List.set_cons_succ,i64_w,i32_w]
                     rfl
                    refine take_ (i:=4) (N:=some 115) (v:=?_) (a':=?_) #[true,true,true,true,true,true,true,true,false,false,true,false,false,false,false] rfl rfl (take_ofW HT_.out HW_.out (by kernel_rfl)) (fun _ _ _ h=>h) (Or.inl ⟨by rfl,?_⟩) hHeld ?_ ?_
                    rotate_left
                    ·rintro w' ⟨s0,s1⟩
                     go_simp
                     with_reducible rfl
                    rotate_left
                    ·simp only [Act.put,List.setIfInBounds_toArray,List.set_cons_zero,List.set_cons_succ,i64_w,i32_w]
                     rfl
                    refine take_ (i:=8) (N:=some 119) (v:=?_) (a':=?_) #[true,true,true,true,true,true,true,true,true,false,true,false,false,false,false] rfl rfl (take_ofW HT_.out HW_.out (by kernel_rfl)) (fun _ _ _ h=>h) (Or.inl ⟨by rfl,?_⟩) hHeld ?_ ?_
                    rotate_left
                    ·rintro w' ⟨s0,s1⟩
                     go_simp
                     with_reducible rfl
                    rotate_left
                    ·simp only [Act.put,List.setIfInBounds_toArray,List.set_cons_zero,List.set_cons_succ,i64_w,i32_w]
                     rfl
                    refine pure_ (i:=9) (N:=some 120) (v:=?_) (a':=?_) #[true,true,true,true,true,true,true,true,true,true,true,false,false,false,false] rfl rfl (any_of HT_.out (by kernel_rfl)) (fun _ _ _ h=>h) (Or.inl ⟨by rfl,?_⟩) ?_ ?_
                    rotate_left
                    ·intro w'
                     go_simp
                     with_reducible rfl
                    rotate_left
                    ·simp only [Act.put,List.setIfInBounds_toArray,List.set_cons_zero,List.set_cons_succ,i64_w,i32_w]
                     rfl
                    refine pure_ (i:=11) (N:=some 122) (v:=?_) (a':=?_) #[true,true,true,true,true,true,true,true,true,true,true,true,false,false,false] rfl rfl (any_of HT_.out (by kernel_rfl)) (fun _ _ _ h=>h) (Or.inl ⟨by rfl,?_⟩) ?_ ?_
                    rotate_left
                    ·intro w'
                     go_simp
                     with_reducible rfl
                    rotate_left
                    ·simp only [Act.put,List.setIfInBounds_toArray,List.set_cons_zero,List.set_cons_succ,i64_w,i32_w]
                     rfl
                    refine one_ (i:=12) (N:=some 123) #[true,true,true,true,true,true,true,true,true,true,true,true,true,false,false] rfl rfl (one_of HT_.out (by kernel_rfl)) (by decide) (fun K hK=>?_)
                    refine value_ (w1:=?_) (v:=?_) (by rfl) rfl ?_ ?_
                    rotate_left 2
                    ·go_simp
                     constructor
                     ·rfl
                     ·rfl
                    refine hK.out _ _ ⟨(World.cell?_alloc_lt _ _ _ (World.block_lt_of_cell? _ _ (((HB.out.cell (World.block_lt_of_cell? w _ hw107_0)).trans hw107_0)))).trans (((HB.out.cell (World.block_lt_of_cell? w _ hw107_0)).trans hw107_0)),(World.cell?_alloc_lt _ _ _ (World.block_lt_of_cell? _ _ (((HB.out.cell (World.block_lt_of_cell? w _ hw108_0)).trans hw108_0)))).trans (((HB.out.cell (World.block_lt_of_cell? w _ hw108_0)).trans hw108_0))⟩ (fun hHeld=>?_)
                    clear hK K
                    refine norm_ (a':=?_) ?_ ?_
                    rotate_left
                    ·show Act.put _ (some 123) _ = _
                     simp only [Act.put,List.setIfInBounds_toArray,List.set_cons_zero,List.set_cons_succ,i64_w,i32_w]
                     rfl
                    refine one_ (i:=13) (N:=some 124) #[true,true,true,true,true,true,true,true,true,true,true,true,true,true,false] rfl rfl (one_of HT_.out (by kernel_rfl)) (by decide) (fun K hK=>?_)
                    refine Kd.R_append_step (Kd.int .i64) (w0:=w) w.heap.size (by rfl) (.tmp 111) (.tmp 123) 26 2 (.int .i64 0) 8 rfl Try.underlying26 info2 rfl (by decide) (by omega) u17 QC (wrap64 (wrap64 ((rd l1 Qi) - (rd l1 Qm)))) [.int .i64 (wrap64 (wrap64 ((rd l1 Qi) - (rd l1 Qm))))] (fun k_=>some k_ ≠ (u15 : Value).ownBlock) (fun _=>False) rfl rfl ?aP (fun _ hk=>hk.elim) ?aF ?aO ?aB ?aS ?aL ?_
                    (case aP=>exact rfl)
                    (case aB=>exact (by repeat (first|(with_reducible first|exact HB.out|apply below_alloc|apply pw_below_drewN|apply below_drew1|refine below_set ?_ Qz.out)|exact HB.out)))
                    (case aF=>exact (fun k_ hk=>Kd.fresh' (Kd.R_lt (by (with_reducible repeat (first|apply Kd.R_alloc|apply Kd.R_drewN|apply Kd.R_drew));exact HO_15.out)) k_ hk))
                    (case aO=>exact (by (with_reducible repeat (first|apply Kd.R_alloc|apply Kd.R_drewN|apply Kd.R_drew));exact HO_17.out))
                    (case aS=>exact (kz_ HB))
                    (case aL=>have:=LMc49.out;omega)
                    intro v110 w51 ho hb hg hat
                    rw [← Ny109.out] at ho
                    have n0_:=Aside0.mk (Kd.R_after (ok:=(fun _=>True)) (by (with_reducible repeat (first|apply Kd.R_alloc|apply Kd.R_drewN|apply Kd.R_drew));exact Kd.R_mono HO_15.out (fun _ hk=>⟨trivial,hk⟩)) hg hat)
                    have n1_:=Aside0.mk (blk_grown (g:=Qb) (o:=.cells #[.int .i64 Qn,.int .i64 Qk,.int .i64 Qo,.int .i64 Qp,.int .i64 Qq,.int .i64 Qr,.int .i64 Qs,.int .i64 Qt,.int .i64 Qu,.int .i64 Qv,.int .i64 Qc,.int .i64 Qd,.int .i64 Qe,.int .i64 Qf,.int .i64 Qg,.int .i64 Qh] 23 (0,0)) (by (with_reducible repeat (first|refine blk_drewN ?_ _|refine blk_drew ?_|refine blk_alloc ?_ _));exact Qa.out) hg (Kd.R_ne HO_17.out Qa.out (by decide)))
                    have n2_:=Aside0.mk (hb)
                    have n3_:=Aside0.mk (ho)
                    clear HO_15
                    clear Qa
                    clear HB
                    clear HO_17
                    have HO_15:=n0_
                    have Qa:=n1_
                    have HB:=n2_
                    have HO111:=n3_
                    clear n0_ n1_ n2_ n3_
                    clear ho hb hg hat
                    refine hK.out _ _ ⟨((HB.out.cell (World.block_lt_of_cell? w _ hw107_0)).trans hw107_0),((HB.out.cell (World.block_lt_of_cell? w _ hw108_0)).trans hw108_0)⟩ (fun hHeld=>?_)
                    clear hK K
                    refine norm_ (a':=?_) ?_ ?_
                    rotate_left
                    ·show Act.put _ (some 124) _ = _
                     simp only [Act.put,List.setIfInBounds_toArray,List.set_cons_zero,List.set_cons_succ,i64_w,i32_w]
                     rfl
                    refine pure_ (i:=14) (N:=some 17) (v:=?_) (a':=?_) #[true,true,true,true,true,true,true,true,true,true,true,true,true,true,true] rfl rfl (any_of HT_.out (by kernel_rfl)) (fun _ _ _ h=>h) (Or.inl ⟨by rfl,?_⟩) ?_ ?_
                    rotate_left
                    ·intro w'
                     go_simp
                     with_reducible rfl
                    rotate_left
                    ·simp only [Act.put,List.setIfInBounds_toArray,List.set_cons_zero,List.set_cons_succ,i64_w,i32_w]
                     rfl
                    refine done_ (done_of HT_.out (by kernel_rfl)) ?_
                    try go_wp2
                    go_roundg k4
                    case measure=>have:=HJ5.out;have:=HK2.out;have:=HK3.out;have:=HK4.out;omega
                    case rel=>exact ⟨(y109),(wrap64 (Qm + 1)),(by first|rfl|(simp;done)|(simp [*];done)),H',⟨by have:=HJ5.out;have:=HK2.out;have:=HK3.out;have:=HK4.out;omega⟩,⟨by (with_reducible repeat (first|apply Kd.R_alloc|apply Kd.R_drewN|apply Kd.R_drew));exact Kd.R_mono HO_15.out (fun _ hk=>hk.2)⟩,⟨by (with_reducible repeat (first|apply Kd.R_alloc|apply Kd.R_drewN|apply Kd.R_drew));exact HO111.out⟩,⟨by (with_reducible repeat (first|refine blk_drewN ?_ _|refine blk_drew ?_|refine blk_alloc ?_ _));exact Qa.out⟩,⟨by repeat (first|(with_reducible first|exact HB.out|apply below_alloc|apply pw_below_drewN|apply below_drew1|refine below_set ?_ Qz.out)|exact HB.out)⟩⟩
                   ·rw [if_neg c49] at H
                    exact absurd H (by simp)
                  ·rw [if_neg c48] at H
                   exact absurd H (by simp)
                 ·rw [if_neg c47] at H
                  exact absurd H (by simp)
                ·rw [if_neg c46] at H
                 exact absurd H (by simp)
               ·rw [if_neg c45] at H
                exact absurd H (by simp)
              ·rw [if_neg c44] at H
               have c44b0 : (Qm == Qi) = false:=beq_eq_false_iff_ne.mpr c44
               have c44b1 : (Qm != Qi) = true:=bne_iff_ne.mpr c44
               by_cases c52 : (wrap64 ((wrap64 (Qi * (l1.length : Int))) + Qm)) < (l2.length : Int)
               ·rw [if_pos c52] at H
                have c52b0 : decide ((wrap64 ((wrap64 (Qi * (l1.length : Int))) + Qm)) < (l2.length : Int)) = true:=decide_eq_true c52
                clear c52
                obtain ⟨ji53,hji53⟩ : ∃ j_ : Int,(wrap64 ((wrap64 (Qi * (l1.length : Int))) + Qm)) = j_:=⟨_,rfl⟩
                replace H : (if 0 ≤ (ji53) then (if (wrap64 (a3 + 1)) = 0 then (none) else (if 0 ≤ Qi then (if Qi < (l1.length : Int) then (if 0 ≤ Qm then (if Qm < (l1.length : Int) then (if QC.length < 17592186044416 then (vesperslaw15_ResyncTogether.l2 k4 l1 l2 a3 Qy (l1.length : Int) QA QB Ql Qi (QC++[wrap64 ((wrap64 ((rd l1 Qi) - (rd l1 Qm))) + (Int.tmod (rd l2 (ji53)) (wrap64 (a3 + 1))))]) (l1.length : Int) Qi (l1.length : Int) (wrap64 (Qm + 1)) Qn Qk Qo Qp Qq Qr Qs Qt Qu Qv Qc Qd Qe Qf Qg Qh) else (none)) else (none)) else (none)) else (none)) else (none))) else (none)) = some r:=by first|(rw [hji53] at H;exact H)|(simp only [hji53] at H ⊢;exact H)
                (try rw [hji53] at c52b0)
                have hji53w : (IntKind.i64.wrap ((wrap64 (Qi * (l1.length : Int))) + Qm)) = ji53:=(i64_w _).trans hji53
                by_cases c54 : 0 ≤ (ji53)
                ·rw [if_pos c54] at H
                 have c54b0 : decide (0 ≤ (ji53)) = true:=decide_eq_true c54
                 clear c54
                 by_cases c55 : (wrap64 (a3 + 1)) = 0
                 ·rw [if_pos c55] at H
                  exact absurd H (by simp)
                 ·rw [if_neg c55] at H
                  have c55b0 : ((wrap64 (a3 + 1)) == 0) = false:=beq_eq_false_iff_ne.mpr c55
                  have c55b1 : ((wrap64 (a3 + 1)) != 0) = true:=bne_iff_ne.mpr c55
                  by_cases c56 : 0 ≤ Qi
                  ·rw [if_pos c56] at H
                   have c56b0 : decide (0 ≤ Qi) = true:=decide_eq_true c56
                   clear c56
                   by_cases c57 : Qi < (l1.length : Int)
                   ·rw [if_pos c57] at H
                    have c57b0 : decide (Qi < (l1.length : Int)) = true:=decide_eq_true c57
                    clear c57
                    by_cases c58 : 0 ≤ Qm
                    ·rw [if_pos c58] at H
                     have c58b0 : decide (0 ≤ Qm) = true:=decide_eq_true c58
                     clear c58
                     by_cases c59 : Qm < (l1.length : Int)
                     ·rw [if_pos c59] at H
                      have c59b0 : decide (Qm < (l1.length : Int)) = true:=decide_eq_true c59
                      clear c59
                      by_cases c60 : QC.length < 17592186044416
                      ·rw [if_pos c60] at H
                       have LMc60:=Aside0.mk c60
                       clear c60
                       obtain ⟨y115,hy115⟩ : ∃ y_ : List Int,y_ = (QC++[wrap64 ((wrap64 ((rd l1 Qi) - (rd l1 Qm))) + (Int.tmod (rd l2 (ji53)) (wrap64 (a3 + 1))))]):=⟨_,rfl⟩
                       replace H : (vesperslaw15_ResyncTogether.l2 k4 l1 l2 a3 Qy (l1.length : Int) QA QB Ql Qi y115 (l1.length : Int) Qi (l1.length : Int) (wrap64 (Qm + 1)) Qn Qk Qo Qp Qq Qr Qs Qt Qu Qv Qc Qd Qe Qf Qg Qh) = some r:=by first|(rw [hy115];with_reducible exact H)|(have H2_:=(Option.bind_some _ _).symm.trans H;rw [hy115];with_reducible exact H2_)|(have H2_:=(Option.bind_some _ _).symm.trans H;with_reducible exact H2_)|with_reducible exact H|(rw [hy115];exact H)|exact H
                       have Ny115:=Aside0.mk hy115
                       clear hy115
                       have H':=Aside0.mk H
                       clear H
                       have p112 : 0 ≤ ((ji53) : Int):=of_decide_eq_true (by first|(with_reducible assumption)|assumption)
                       have q112 : (ji53) < (l2.length : Int):=of_decide_eq_true (by first|(with_reducible assumption)|assumption)
                       obtain ⟨ad112,e112,hx112_0⟩:=Kd.at_int HR2.out (ji53) p112 q112
                       cases e112
                       replace hx112_0:=(HB.out.cell (World.block_lt_of_cell? w _ hx112_0)).trans hx112_0
                       replace p112:=eq_true p112
                       replace q112:=eq_true q112
                       try go_wp2
                       have n0_:=Aside0.mk (Kd.R_drew HO_15.out)
                       have n1_:=Aside0.mk (Kd.R_drew HO_17.out)
                       have n2_:=Aside0.mk (blk_drew Qa.out)
                       have n3_:=Aside0.mk (below_drew1 HB.out)
                       clear HO_15
                       clear HO_17
                       clear Qa
                       clear HB
                       have HO_15:=n0_
                       have HO_17:=n1_
                       have Qa:=n2_
                       have HB:=n3_
                       clear n0_ n1_ n2_ n3_
                       have p113 : 0 ≤ (Qi : Int):=of_decide_eq_true (by first|(with_reducible assumption)|assumption)
                       have q113 : Qi < (l1.length : Int):=of_decide_eq_true (by first|(with_reducible assumption)|assumption)
                       obtain ⟨ad113,e113,hx113_0⟩:=Kd.at_int HR1.out Qi p113 q113
                       have hw113_0:=hx113_0
                       obtain rfl : ad104 = ad113:=(by injection e113)
                       replace hx113_0:=(HB.out.cell (World.block_lt_of_cell? w _ hx113_0)).trans hx113_0
                       replace p113:=eq_true p113
                       replace q113:=eq_true q113
                       have p114 : 0 ≤ (Qm : Int):=of_decide_eq_true (by first|(with_reducible assumption)|assumption)
                       have q114 : Qm < (l1.length : Int):=of_decide_eq_true (by first|(with_reducible assumption)|assumption)
                       obtain ⟨ad114,e114,hx114_0⟩:=Kd.at_int HR1.out Qm p114 q114
                       have hw114_0:=hx114_0
                       obtain rfl : ad104 = ad114:=(by injection e114)
                       replace hx114_0:=(HB.out.cell (World.block_lt_of_cell? w _ hx114_0)).trans hx114_0
                       replace p114:=eq_true p114
                       replace q114:=eq_true q114
                       refine start_ (n:=15) (S:=fun w'=>w'.cell? (ad104.add (Qi).toNat) = some (.int .i64 (rd l1 Qi))∧w'.cell? (ad104.add (Qm).toNat) = some (.int .i64 (rd l1 Qm))) (ds:=[]) #[false,false,false,false,false,false,false,false,false,false,false,false,false,false,false] (by kernel_rfl) rfl rfl ⟨((HB.out.cell (World.block_lt_of_cell? w _ hw113_0)).trans hw113_0),((HB.out.cell (World.block_lt_of_cell? w _ hw114_0)).trans hw114_0)⟩ (fun hHeld=>?_);refine with_tabW vesperslaw15_ResyncTogether.tab25 vesperslaw15_ResyncTogether.bits25 (fun HT_ HW_=>?_)
                       generalize wr.drew = w61 at HO_15 HO_17 Qa HB hx113_0 hx114_0 hHeld ⊢
                       refine pure_ (i:=0) (N:=some 111) (v:=?_) (a':=?_) #[true,false,false,false,false,false,false,false,false,false,false,false,false,false,false] rfl rfl (any_of HT_.out (by kernel_rfl)) (fun _ _ _ h=>h) (Or.inl ⟨by rfl,?_⟩) ?_ ?_
                       rotate_left
                       ·intro w'
                        go_simp
                        with_reducible rfl
                       rotate_left
                       ·simp only [Act.put,List.setIfInBounds_toArray,List.set_cons_zero,List.set_cons_succ,i64_w,i32_w]
                        rfl
                       refine pure_ (i:=1) (N:=some 112) (v:=?_) (a':=?_) #[true,true,false,false,false,false,false,false,false,false,false,false,false,false,false] rfl rfl (any_of HT_.out (by kernel_rfl)) (fun _ _ _ h=>h) (Or.inl ⟨by rfl,?_⟩) ?_ ?_
                       rotate_left
                       ·intro w'
                        go_simp
                        with_reducible rfl
                       rotate_left
                       ·simp only [Act.put,List.setIfInBounds_toArray,List.set_cons_zero,List.set_cons_succ,i64_w,i32_w]
                        rfl
                       refine pure_ (i:=2) (N:=some 113) (v:=?_) (a':=?_) #[true,true,true,false,false,false,false,false,false,false,false,false,false,false,false] rfl rfl (any_of HT_.out (by kernel_rfl)) (fun _ _ _ h=>h) (Or.inl ⟨by rfl,?_⟩) ?_ ?_
                       rotate_left
                       ·intro w'
                        go_simp
                        with_reducible rfl
                       rotate_left
                       ·simp only [Act.put,List.setIfInBounds_toArray,List.set_cons_zero,List.set_cons_succ,i64_w,i32_w]
                        rfl
                       refine pure_ (i:=3) (N:=some 114) (v:=?_) (a':=?_) #[true,true,true,true,false,false,false,false,false,false,false,false,false,false,false] rfl rfl (any_of HT_.out (by kernel_rfl)) (fun _ _ _ h=>h) (Or.inl ⟨by rfl,?_⟩) ?_ ?_
                       rotate_left
                       ·intro w'
                        go_simp
                        with_reducible rfl
                       rotate_left
                       ·simp only [Act.put,List.setIfInBounds_toArray,List.set_cons_zero,List.set_cons_succ,i64_w,i32_w]
                        rfl
                       refine pure_ (i:=5) (N:=some 116) (v:=?_) (a':=?_) #[true,true,true,true,false,true,false,false,false,false,false,false,false,false,false] rfl rfl (any_of HT_.out (by kernel_rfl)) (fun _ _ _ h=>h) (Or.inl ⟨by rfl,?_⟩) ?_ ?_
                       rotate_left
                       ·intro w'
                        go_simp
                        with_reducible rfl
                       rotate_left
                       ·simp only [Act.put,List.setIfInBounds_toArray,List.set_cons_zero,List.set_cons_succ,i64_w,i32_w]
                        rfl
                       refine pure_ (i:=6) (N:=some 117) (v:=?_) (a':=?_) #[true,true,true,true,false,true,true,false,false,false,false,false,false,false,false] rfl rfl (any_of HT_.out (by kernel_rfl)) (fun _ _ _ h=>h) (Or.inl ⟨by rfl,?_⟩) ?_ ?_
                       rotate_left
                       ·intro w'
                        go_simp
                        with_reducible rfl
                       rotate_left
                       ·simp only [Act.put,List.setIfInBounds_toArray,List.set_cons_zero,List.set_cons_succ,i64_w,i32_w]
                        rfl
                       refine pure_ (i:=7) (N:=some 118) (v:=?_) (a':=?_) #[true,true,true,true,false,true,true,true,false,false,false,false,false,false,false] rfl rfl (any_of HT_.out (by kernel_rfl)) (fun _ _ _ h=>h) (Or.inl ⟨by rfl,?_⟩) ?_ ?_
                       rotate_left
                       ·intro w'
                        go_simp
                        with_reducible rfl
                       rotate_left
                       ·simp only [Act.put,List.setIfInBounds_toArray,List.set_cons_zero,List.set_cons_succ,i64_w,i32_w]
                        rfl
                       refine pure_ (i:=10) (N:=some 121) (v:=?_) (a':=?_) #[true,true,true,true,false,true,true,true,false,false,true,false,false,false,false] rfl rfl (any_of HT_.out (by kernel_rfl)) (fun _ _ _ h=>h) (Or.inl ⟨by rfl,?_⟩) ?_ ?_
                       rotate_left
                       ·intro w'
                        go_simp
                        with_reducible rfl
                       rotate_left
                       ·simp only [Act.put,List.setIfInBounds_toArray,List.set_cons_zero,List.set_cons_succ,i64_w,i32_w]
                        rfl
                       refine take_ (i:=4) (N:=some 115) (v:=?_) (a':=?_) #[true,true,true,true,true,true,true,true,false,false,true,false,false,false,false] rfl rfl (take_ofW HT_.out HW_.out (by kernel_rfl)) (fun _ _ _ h=>h) (Or.inl ⟨by rfl,?_⟩) hHeld ?_ ?_
                       rotate_left
                       ·rintro w' ⟨s0,s1⟩
                        go_simp
                        with_reducible rfl
                       rotate_left
                       ·simp only [Act.put,List.setIfInBounds_toArray,List.set_cons_zero,List.set_cons_succ,i64_w,i32_w]
                        rfl
                       refine take_ (i:=8) (N:=some 119) (v:=?_) (a':=?_) #[true,true,true,true,true,true,true,true,true,false,true,false,false,false,false] rfl rfl (take_ofW HT_.out HW_.out (by kernel_rfl)) (fun _ _ _ h=>h) (Or.inl ⟨by rfl,?_⟩) hHeld ?_ ?_
                       rotate_left
                       ·rintro w' ⟨s0,s1⟩
                        go_simp
                        with_reducible rfl
                       rotate_left
                       ·simp only [Act.put,List.setIfInBounds_toArray,List.set_cons_zero,List.set_cons_succ,i64_w,i32_w]
                        rfl
                       refine pure_ (i:=9) (N:=some 120) (v:=?_) (a':=?_) #[true,true,true,true,true,true,true,true,true,true,true,false,false,false,false] rfl rfl (any_of HT_.out (by kernel_rfl)) (fun _ _ _ h=>h) (Or.inl ⟨by rfl,?_⟩) ?_ ?_
                       rotate_left
                       ·intro w'
                        go_simp
                        with_reducible rfl
                       rotate_left
                       ·simp only [Act.put,List.setIfInBounds_toArray,List.set_cons_zero,List.set_cons_succ,i64_w,i32_w]
                        rfl
                       refine pure_ (i:=11) (N:=some 122) (v:=?_) (a':=?_) #[true,true,true,true,true,true,true,true,true,true,true,true,false,false,false] rfl rfl (any_of HT_.out (by kernel_rfl)) (fun _ _ _ h=>h) (Or.inl ⟨by rfl,?_⟩) ?_ ?_
                       rotate_left
                       ·intro w'
                        go_simp
                        with_reducible rfl
                       rotate_left
                       ·simp only [Act.put,List.setIfInBounds_toArray,List.set_cons_zero,List.set_cons_succ,i64_w,i32_w]
                        rfl
                       refine one_ (i:=12) (N:=some 123) #[true,true,true,true,true,true,true,true,true,true,true,true,true,false,false] rfl rfl (one_of HT_.out (by kernel_rfl)) (by decide) (fun K hK=>?_)
                       refine value_ (w1:=?_) (v:=?_) (by rfl) rfl ?_ ?_
                       rotate_left 2
                       ·go_simp
                        constructor
                        ·rfl
                        ·rfl
                       refine hK.out _ _ ⟨(World.cell?_alloc_lt _ _ _ (World.block_lt_of_cell? _ _ (((HB.out.cell (World.block_lt_of_cell? w _ hw113_0)).trans hw113_0)))).trans (((HB.out.cell (World.block_lt_of_cell? w _ hw113_0)).trans hw113_0)),(World.cell?_alloc_lt _ _ _ (World.block_lt_of_cell? _ _ (((HB.out.cell (World.block_lt_of_cell? w _ hw114_0)).trans hw114_0)))).trans (((HB.out.cell (World.block_lt_of_cell? w _ hw114_0)).trans hw114_0))⟩ (fun hHeld=>?_)
                       clear hK K
                       refine norm_ (a':=?_) ?_ ?_
                       rotate_left
                       ·show Act.put _ (some 123) _ = _
                        simp only [Act.put,List.setIfInBounds_toArray,List.set_cons_zero,List.set_cons_succ,i64_w,i32_w]
                        rfl
                       refine one_ (i:=13) (N:=some 124) #[true,true,true,true,true,true,true,true,true,true,true,true,true,true,false] rfl rfl (one_of HT_.out (by kernel_rfl)) (by decide) (fun K hK=>?_)
                       refine Kd.R_append_step (Kd.int .i64) (w0:=w) w.heap.size (by rfl) (.tmp 111) (.tmp 123) 26 2 (.int .i64 0) 8 rfl Try.underlying26 info2 rfl (by decide) (by omega) u17 QC (wrap64 ((wrap64 ((rd l1 Qi) - (rd l1 Qm))) + (Int.tmod (rd l2 (ji53)) (wrap64 (a3 + 1))))) [.int .i64 (wrap64 ((wrap64 ((rd l1 Qi) - (rd l1 Qm))) + (Int.tmod (rd l2 (ji53)) (wrap64 (a3 + 1)))))] (fun k_=>some k_ ≠ (u15 : Value).ownBlock) (fun _=>False) rfl rfl ?aP (fun _ hk=>hk.elim) ?aF ?aO ?aB ?aS ?aL ?_
                       (case aP=>exact rfl)
                       (case aB=>exact (by repeat (first|(with_reducible first|exact HB.out|apply below_alloc|apply pw_below_drewN|apply below_drew1|refine below_set ?_ Qz.out)|exact HB.out)))
                       (case aF=>exact (fun k_ hk=>Kd.fresh' (Kd.R_lt (by (with_reducible repeat (first|apply Kd.R_alloc|apply Kd.R_drewN|apply Kd.R_drew));exact HO_15.out)) k_ hk))
                       (case aO=>exact (by (with_reducible repeat (first|apply Kd.R_alloc|apply Kd.R_drewN|apply Kd.R_drew));exact HO_17.out))
                       (case aS=>exact (kz_ HB))
                       (case aL=>have:=LMc60.out;omega)
                       intro v116 w62 ho hb hg hat
                       rw [← Ny115.out] at ho
                       have n0_:=Aside0.mk (Kd.R_after (ok:=(fun _=>True)) (by (with_reducible repeat (first|apply Kd.R_alloc|apply Kd.R_drewN|apply Kd.R_drew));exact Kd.R_mono HO_15.out (fun _ hk=>⟨trivial,hk⟩)) hg hat)
                       have n1_:=Aside0.mk (blk_grown (g:=Qb) (o:=.cells #[.int .i64 Qn,.int .i64 Qk,.int .i64 Qo,.int .i64 Qp,.int .i64 Qq,.int .i64 Qr,.int .i64 Qs,.int .i64 Qt,.int .i64 Qu,.int .i64 Qv,.int .i64 Qc,.int .i64 Qd,.int .i64 Qe,.int .i64 Qf,.int .i64 Qg,.int .i64 Qh] 23 (0,0)) (by (with_reducible repeat (first|refine blk_drewN ?_ _|refine blk_drew ?_|refine blk_alloc ?_ _));exact Qa.out) hg (Kd.R_ne HO_17.out Qa.out (by decide)))
                       have n2_:=Aside0.mk (hb)
                       have n3_:=Aside0.mk (ho)
                       clear HO_15
                       clear Qa
                       clear HB
                       clear HO_17
                       have HO_15:=n0_
                       have Qa:=n1_
                       have HB:=n2_
                       have HO117:=n3_
                       clear n0_ n1_ n2_ n3_
                       clear ho hb hg hat
                       refine hK.out _ _ ⟨((HB.out.cell (World.block_lt_of_cell? w _ hw113_0)).trans hw113_0),((HB.out.cell (World.block_lt_of_cell? w _ hw114_0)).trans hw114_0)⟩ (fun hHeld=>?_)
                       clear hK K
                       refine norm_ (a':=?_) ?_ ?_
                       rotate_left
                       ·show Act.put _ (some 124) _ = _
                        simp only [Act.put,List.setIfInBounds_toArray,List.set_cons_zero,List.set_cons_succ,i64_w,i32_w]
                        rfl
                       refine pure_ (i:=14) (N:=some 17) (v:=?_) (a':=?_) #[true,true,true,true,true,true,true,true,true,true,true,true,true,true,true] rfl rfl (any_of HT_.out (by kernel_rfl)) (fun _ _ _ h=>h) (Or.inl ⟨by rfl,?_⟩) ?_ ?_
                       rotate_left
                       ·intro w'
                        go_simp
                        with_reducible rfl
                       rotate_left
                       ·simp only [Act.put,List.setIfInBounds_toArray,List.set_cons_zero,List.set_cons_succ,i64_w,i32_w]
                        rfl
                       refine done_ (done_of HT_.out (by kernel_rfl)) ?_
                       try go_wp2
                       go_roundg k4
                       case measure=>have:=HJ5.out;have:=HK2.out;have:=HK3.out;have:=HK4.out;omega
                       case rel=>exact ⟨(y115),(wrap64 (Qm + 1)),(by first|rfl|(simp;done)|(simp [*];done)),H',⟨by have:=HJ5.out;have:=HK2.out;have:=HK3.out;have:=HK4.out;omega⟩,⟨by (with_reducible repeat (first|apply Kd.R_alloc|apply Kd.R_drewN|apply Kd.R_drew));exact Kd.R_mono HO_15.out (fun _ hk=>hk.2)⟩,⟨by (with_reducible repeat (first|apply Kd.R_alloc|apply Kd.R_drewN|apply Kd.R_drew));exact HO117.out⟩,⟨by (with_reducible repeat (first|refine blk_drewN ?_ _|refine blk_drew ?_|refine blk_alloc ?_ _));exact Qa.out⟩,⟨by repeat (first|(with_reducible first|exact HB.out|apply below_alloc|apply pw_below_drewN|apply below_drew1|refine below_set ?_ Qz.out)|exact HB.out)⟩⟩
                      ·rw [if_neg c60] at H
                       exact absurd H (by simp)
                     ·rw [if_neg c59] at H
                      exact absurd H (by simp)
                    ·rw [if_neg c58] at H
                     exact absurd H (by simp)
                   ·rw [if_neg c57] at H
                    exact absurd H (by simp)
                  ·rw [if_neg c56] at H
                   exact absurd H (by simp)
                ·rw [if_neg c54] at H
                 exact absurd H (by simp)
               ·rw [if_neg c52] at H
                have c52b0 : decide ((wrap64 ((wrap64 (Qi * (l1.length : Int))) + Qm)) < (l2.length : Int)) = false:=decide_eq_false c52
                clear c52
                by_cases c63 : 0 ≤ Qi
                ·rw [if_pos c63] at H
                 have c63b0 : decide (0 ≤ Qi) = true:=decide_eq_true c63
                 clear c63
                 by_cases c64 : Qi < (l1.length : Int)
                 ·rw [if_pos c64] at H
                  have c64b0 : decide (Qi < (l1.length : Int)) = true:=decide_eq_true c64
                  clear c64
                  by_cases c65 : 0 ≤ Qm
                  ·rw [if_pos c65] at H
                   have c65b0 : decide (0 ≤ Qm) = true:=decide_eq_true c65
                   clear c65
                   by_cases c66 : Qm < (l1.length : Int)
                   ·rw [if_pos c66] at H
                    have c66b0 : decide (Qm < (l1.length : Int)) = true:=decide_eq_true c66
                    clear c66
                    by_cases c67 : QC.length < 17592186044416
                    ·rw [if_pos c67] at H
                     have LMc67:=Aside0.mk c67
                     clear c67
                     obtain ⟨y120,hy120⟩ : ∃ y_ : List Int,y_ = (QC++[wrap64 (wrap64 ((rd l1 Qi) - (rd l1 Qm)))]):=⟨_,rfl⟩
                     replace H : (vesperslaw15_ResyncTogether.l2 k4 l1 l2 a3 Qy (l1.length : Int) QA QB Ql Qi y120 (l1.length : Int) Qi (l1.length : Int) (wrap64 (Qm + 1)) Qn Qk Qo Qp Qq Qr Qs Qt Qu Qv Qc Qd Qe Qf Qg Qh) = some r:=by first|(rw [hy120];with_reducible exact H)|(have H2_:=(Option.bind_some _ _).symm.trans H;rw [hy120];with_reducible exact H2_)|(have H2_:=(Option.bind_some _ _).symm.trans H;with_reducible exact H2_)|with_reducible exact H|(rw [hy120];exact H)|exact H
                     have Ny120:=Aside0.mk hy120
                     clear hy120
                     have H':=Aside0.mk H
                     clear H
                     try go_wp2
                     have n0_:=Aside0.mk (Kd.R_drew HO_15.out)
                     have n1_:=Aside0.mk (Kd.R_drew HO_17.out)
                     have n2_:=Aside0.mk (blk_drew Qa.out)
                     have n3_:=Aside0.mk (below_drew1 HB.out)
                     clear HO_15
                     clear HO_17
                     clear Qa
                     clear HB
                     have HO_15:=n0_
                     have HO_17:=n1_
                     have Qa:=n2_
                     have HB:=n3_
                     clear n0_ n1_ n2_ n3_
                     have p118 : 0 ≤ (Qi : Int):=of_decide_eq_true (by first|(with_reducible assumption)|assumption)
                     have q118 : Qi < (l1.length : Int):=of_decide_eq_true (by first|(with_reducible assumption)|assumption)
                     obtain ⟨ad118,e118,hx118_0⟩:=Kd.at_int HR1.out Qi p118 q118
                     have hw118_0:=hx118_0
                     obtain rfl : ad104 = ad118:=(by injection e118)
                     replace hx118_0:=(HB.out.cell (World.block_lt_of_cell? w _ hx118_0)).trans hx118_0
                     replace p118:=eq_true p118
                     replace q118:=eq_true q118
                     have p119 : 0 ≤ (Qm : Int):=of_decide_eq_true (by first|(with_reducible assumption)|assumption)
                     have q119 : Qm < (l1.length : Int):=of_decide_eq_true (by first|(with_reducible assumption)|assumption)
                     obtain ⟨ad119,e119,hx119_0⟩:=Kd.at_int HR1.out Qm p119 q119
                     have hw119_0:=hx119_0
                     obtain rfl : ad104 = ad119:=(by injection e119)
                     replace hx119_0:=(HB.out.cell (World.block_lt_of_cell? w _ hx119_0)).trans hx119_0
                     replace p119:=eq_true p119
                     replace q119:=eq_true q119
                     refine start_ (n:=15) (S:=fun w'=>w'.cell? (ad104.add (Qi).toNat) = some (.int .i64 (rd l1 Qi))∧w'.cell? (ad104.add (Qm).toNat) = some (.int .i64 (rd l1 Qm))) (ds:=[]) #[false,false,false,false,false,false,false,false,false,false,false,false,false,false,false] (by kernel_rfl) rfl rfl ⟨((HB.out.cell (World.block_lt_of_cell? w _ hw118_0)).trans hw118_0),((HB.out.cell (World.block_lt_of_cell? w _ hw119_0)).trans hw119_0)⟩ (fun hHeld=>?_);refine with_tabW vesperslaw15_ResyncTogether.tab25 vesperslaw15_ResyncTogether.bits25 (fun HT_ HW_=>?_)
                     generalize wr.drew = w68 at HO_15 HO_17 Qa HB hx118_0 hx119_0 hHeld ⊢
                     refine pure_ (i:=0) (N:=some 111) (v:=?_) (a':=?_) #[true,false,false,false,false,false,false,false,false,false,false,false,false,false,false] rfl rfl (any_of HT_.out (by kernel_rfl)) (fun _ _ _ h=>h) (Or.inl ⟨by rfl,?_⟩) ?_ ?_
                     rotate_left
                     ·intro w'
                      go_simp
                      with_reducible rfl
                     rotate_left
                     ·simp only [Act.put,List.setIfInBounds_toArray,List.set_cons_zero,List.set_cons_succ,i64_w,i32_w]
                      rfl
                     refine pure_ (i:=1) (N:=some 112) (v:=?_) (a':=?_) #[true,true,false,false,false,false,false,false,false,false,false,false,false,false,false] rfl rfl (any_of HT_.out (by kernel_rfl)) (fun _ _ _ h=>h) (Or.inl ⟨by rfl,?_⟩) ?_ ?_
                     rotate_left
                     ·intro w'
                      go_simp
                      with_reducible rfl
                     rotate_left
                     ·simp only [Act.put,List.setIfInBounds_toArray,List.set_cons_zero,List.set_cons_succ,i64_w,i32_w]
                      rfl
                     refine pure_ (i:=2) (N:=some 113) (v:=?_) (a':=?_) #[true,true,true,false,false,false,false,false,false,false,false,false,false,false,false] rfl rfl (any_of HT_.out (by kernel_rfl)) (fun _ _ _ h=>h) (Or.inl ⟨by rfl,?_⟩) ?_ ?_
                     rotate_left
                     ·intro w'
                      go_simp
                      with_reducible rfl
                     rotate_left
                     ·simp only [Act.put,List.setIfInBounds_toArray,List.set_cons_zero,List.set_cons_succ,i64_w,i32_w]
                      rfl
                     refine pure_ (i:=3) (N:=some 114) (v:=?_) (a':=?_) #[true,true,true,true,false,false,false,false,false,false,false,false,false,false,false] rfl rfl (any_of HT_.out (by kernel_rfl)) (fun _ _ _ h=>h) (Or.inl ⟨by rfl,?_⟩) ?_ ?_
                     rotate_left
                     ·intro w'
                      go_simp
                      with_reducible rfl
                     rotate_left
                     ·simp only [Act.put,List.setIfInBounds_toArray,List.set_cons_zero,List.set_cons_succ,i64_w,i32_w]
                      rfl
                     refine pure_ (i:=5) (N:=some 116) (v:=?_) (a':=?_) #[true,true,true,true,false,true,false,false,false,false,false,false,false,false,false] rfl rfl (any_of HT_.out (by kernel_rfl)) (fun _ _ _ h=>h) (Or.inl ⟨by rfl,?_⟩) ?_ ?_
                     rotate_left
                     ·intro w'
                      go_simp
                      with_reducible rfl
                     rotate_left
                     ·simp only [Act.put,List.setIfInBounds_toArray,List.set_cons_zero,List.set_cons_succ,i64_w,i32_w]
                      rfl
                     refine pure_ (i:=6) (N:=some 117) (v:=?_) (a':=?_) #[true,true,true,true,false,true,true,false,false,false,false,false,false,false,false] rfl rfl (any_of HT_.out (by kernel_rfl)) (fun _ _ _ h=>h) (Or.inl ⟨by rfl,?_⟩) ?_ ?_
                     rotate_left
                     ·intro w'
                      go_simp
                      with_reducible rfl
                     rotate_left
                     ·simp only [Act.put,List.setIfInBounds_toArray,List.set_cons_zero,List.set_cons_succ,i64_w,i32_w]
                      rfl
                     refine pure_ (i:=7) (N:=some 118) (v:=?_) (a':=?_) #[true,true,true,true,false,true,true,true,false,false,false,false,false,false,false] rfl rfl (any_of HT_.out (by kernel_rfl)) (fun _ _ _ h=>h) (Or.inl ⟨by rfl,?_⟩) ?_ ?_
                     rotate_left
                     ·intro w'
                      go_simp
                      with_reducible rfl
                     rotate_left
                     ·simp only [Act.put,List.setIfInBounds_toArray,List.set_cons_zero,List.set_cons_succ,i64_w,i32_w]
                      rfl
                     refine pure_ (i:=10) (N:=some 121) (v:=?_) (a':=?_) #[true,true,true,true,false,true,true,true,false,false,true,false,false,false,false] rfl rfl (any_of HT_.out (by kernel_rfl)) (fun _ _ _ h=>h) (Or.inl ⟨by rfl,?_⟩) ?_ ?_
                     rotate_left
                     ·intro w'
                      go_simp
                      with_reducible rfl
                     rotate_left
                     ·simp only [Act.put,List.setIfInBounds_toArray,List.set_cons_zero,List.set_cons_succ,i64_w,i32_w]
                      rfl
                     refine take_ (i:=4) (N:=some 115) (v:=?_) (a':=?_) #[true,true,true,true,true,true,true,true,false,false,true,false,false,false,false] rfl rfl (take_ofW HT_.out HW_.out (by kernel_rfl)) (fun _ _ _ h=>h) (Or.inl ⟨by rfl,?_⟩) hHeld ?_ ?_
                     rotate_left
                     ·rintro w' ⟨s0,s1⟩
                      go_simp
                      with_reducible rfl
                     rotate_left
                     ·simp only [Act.put,List.setIfInBounds_toArray,List.set_cons_zero,List.set_cons_succ,i64_w,i32_w]
                      rfl
                     refine take_ (i:=8) (N:=some 119) (v:=?_) (a':=?_) #[true,true,true,true,true,true,true,true,true,false,true,false,false,false,false] rfl rfl (take_ofW HT_.out HW_.out (by kernel_rfl)) (fun _ _ _ h=>h) (Or.inl ⟨by rfl,?_⟩) hHeld ?_ ?_
                     rotate_left
                     ·rintro w' ⟨s0,s1⟩
                      go_simp
                      with_reducible rfl
                     rotate_left
                     ·simp only [Act.put,List.setIfInBounds_toArray,List.set_cons_zero,List.set_cons_succ,i64_w,i32_w]
                      rfl
                     refine pure_ (i:=9) (N:=some 120) (v:=?_) (a':=?_) #[true,true,true,true,true,true,true,true,true,true,true,false,false,false,false] rfl rfl (any_of HT_.out (by kernel_rfl)) (fun _ _ _ h=>h) (Or.inl ⟨by rfl,?_⟩) ?_ ?_
                     rotate_left
                     ·intro w'
                      go_simp
                      with_reducible rfl
                     rotate_left
                     ·simp only [Act.put,List.setIfInBounds_toArray,List.set_cons_zero,List.set_cons_succ,i64_w,i32_w]
                      rfl
                     refine pure_ (i:=11) (N:=some 122) (v:=?_) (a':=?_) #[true,true,true,true,true,true,true,true,true,true,true,true,false,false,false] rfl rfl (any_of HT_.out (by kernel_rfl)) (fun _ _ _ h=>h) (Or.inl ⟨by rfl,?_⟩) ?_ ?_
                     rotate_left
                     ·intro w'
                      go_simp
                      with_reducible rfl
                     rotate_left
                     ·simp only [Act.put,List.setIfInBounds_toArray,List.set_cons_zero,List.set_cons_succ,i64_w,i32_w]
                      rfl
                     refine one_ (i:=12) (N:=some 123) #[true,true,true,true,true,true,true,true,true,true,true,true,true,false,false] rfl rfl (one_of HT_.out (by kernel_rfl)) (by decide) (fun K hK=>?_)
                     refine value_ (w1:=?_) (v:=?_) (by rfl) rfl ?_ ?_
                     rotate_left 2
                     ·go_simp
                      constructor
                      ·rfl
                      ·rfl
                     refine hK.out _ _ ⟨(World.cell?_alloc_lt _ _ _ (World.block_lt_of_cell? _ _ (((HB.out.cell (World.block_lt_of_cell? w _ hw118_0)).trans hw118_0)))).trans (((HB.out.cell (World.block_lt_of_cell? w _ hw118_0)).trans hw118_0)),(World.cell?_alloc_lt _ _ _ (World.block_lt_of_cell? _ _ (((HB.out.cell (World.block_lt_of_cell? w _ hw119_0)).trans hw119_0)))).trans (((HB.out.cell (World.block_lt_of_cell? w _ hw119_0)).trans hw119_0))⟩ (fun hHeld=>?_)
                     clear hK K
                     refine norm_ (a':=?_) ?_ ?_
                     rotate_left
                     ·show Act.put _ (some 123) _ = _
                      simp only [Act.put,List.setIfInBounds_toArray,List.set_cons_zero,List.set_cons_succ,i64_w,i32_w]
                      rfl
                     refine one_ (i:=13) (N:=some 124) #[true,true,true,true,true,true,true,true,true,true,true,true,true,true,false] rfl rfl (one_of HT_.out (by kernel_rfl)) (by decide) (fun K hK=>?_)
                     refine Kd.R_append_step (Kd.int .i64) (w0:=w) w.heap.size (by rfl) (.tmp 111) (.tmp 123) 26 2 (.int .i64 0) 8 rfl Try.underlying26 info2 rfl (by decide) (by omega) u17 QC (wrap64 (wrap64 ((rd l1 Qi) - (rd l1 Qm)))) [.int .i64 (wrap64 (wrap64 ((rd l1 Qi) - (rd l1 Qm))))] (fun k_=>some k_ ≠ (u15 : Value).ownBlock) (fun _=>False) rfl rfl ?aP (fun _ hk=>hk.elim) ?aF ?aO ?aB ?aS ?aL ?_
                     (case aP=>exact rfl)
                     (case aB=>exact (by repeat (first|(with_reducible first|exact HB.out|apply below_alloc|apply pw_below_drewN|apply below_drew1|refine below_set ?_ Qz.out)|exact HB.out)))
                     (case aF=>exact (fun k_ hk=>Kd.fresh' (Kd.R_lt (by (with_reducible repeat (first|apply Kd.R_alloc|apply Kd.R_drewN|apply Kd.R_drew));exact HO_15.out)) k_ hk))
                     (case aO=>exact (by (with_reducible repeat (first|apply Kd.R_alloc|apply Kd.R_drewN|apply Kd.R_drew));exact HO_17.out))
                     (case aS=>exact (kz_ HB))
                     (case aL=>have:=LMc67.out;omega)
                     intro v121 w69 ho hb hg hat
                     rw [← Ny120.out] at ho
                     have n0_:=Aside0.mk (Kd.R_after (ok:=(fun _=>True)) (by (with_reducible repeat (first|apply Kd.R_alloc|apply Kd.R_drewN|apply Kd.R_drew));exact Kd.R_mono HO_15.out (fun _ hk=>⟨trivial,hk⟩)) hg hat)
                     have n1_:=Aside0.mk (blk_grown (g:=Qb) (o:=.cells #[.int .i64 Qn,.int .i64 Qk,.int .i64 Qo,.int .i64 Qp,.int .i64 Qq,.int .i64 Qr,.int .i64 Qs,.int .i64 Qt,.int .i64 Qu,.int .i64 Qv,.int .i64 Qc,.int .i64 Qd,.int .i64 Qe,.int .i64 Qf,.int .i64 Qg,.int .i64 Qh] 23 (0,0)) (by (with_reducible repeat (first|refine blk_drewN ?_ _|refine blk_drew ?_|refine blk_alloc ?_ _));exact Qa.out) hg (Kd.R_ne HO_17.out Qa.out (by decide)))
                     have n2_:=Aside0.mk (hb)
                     have n3_:=Aside0.mk (ho)
                     clear HO_15
                     clear Qa
                     clear HB
                     clear HO_17
                     have HO_15:=n0_
                     have Qa:=n1_
                     have HB:=n2_
                     have HO122:=n3_
                     clear n0_ n1_ n2_ n3_
                     clear ho hb hg hat
                     refine hK.out _ _ ⟨((HB.out.cell (World.block_lt_of_cell? w _ hw118_0)).trans hw118_0),((HB.out.cell (World.block_lt_of_cell? w _ hw119_0)).trans hw119_0)⟩ (fun hHeld=>?_)
                     clear hK K
                     refine norm_ (a':=?_) ?_ ?_
                     rotate_left
                     ·show Act.put _ (some 124) _ = _
                      simp only [Act.put,List.setIfInBounds_toArray,List.set_cons_zero,List.set_cons_succ,i64_w,i32_w]
                      rfl
                     refine pure_ (i:=14) (N:=some 17) (v:=?_) (a':=?_) #[true,true,true,true,true,true,true,true,true,true,true,true,true,true,true] rfl rfl (any_of HT_.out (by kernel_rfl)) (fun _ _ _ h=>h) (Or.inl ⟨by rfl,?_⟩) ?_ ?_
                     rotate_left
                     ·intro w'
                      go_simp
                      with_reducible rfl
                     rotate_left
                     ·simp only [Act.put,List.setIfInBounds_toArray,List.set_cons_zero,List.set_cons_succ,i64_w,i32_w]
                      rfl
                     refine done_ (done_of HT_.out (by kernel_rfl)) ?_
                     try go_wp2
                     go_roundg k4
                     case measure=>have:=HJ5.out;have:=HK2.out;have:=HK3.out;have:=HK4.out;omega
                     case rel=>exact ⟨(y120),(wrap64 (Qm + 1)),(by first|rfl|(simp;done)|(simp [*];done)),H',⟨by have:=HJ5.out;have:=HK2.out;have:=HK3.out;have:=HK4.out;omega⟩,⟨by (with_reducible repeat (first|apply Kd.R_alloc|apply Kd.R_drewN|apply Kd.R_drew));exact Kd.R_mono HO_15.out (fun _ hk=>hk.2)⟩,⟨by (with_reducible repeat (first|apply Kd.R_alloc|apply Kd.R_drewN|apply Kd.R_drew));exact HO122.out⟩,⟨by (with_reducible repeat (first|refine blk_drewN ?_ _|refine blk_drew ?_|refine blk_alloc ?_ _));exact Qa.out⟩,⟨by repeat (first|(with_reducible first|exact HB.out|apply below_alloc|apply pw_below_drewN|apply below_drew1|refine below_set ?_ Qz.out)|exact HB.out)⟩⟩
                    ·rw [if_neg c67] at H
                     exact absurd H (by simp)
                   ·rw [if_neg c66] at H
                    exact absurd H (by simp)
                  ·rw [if_neg c65] at H
                   exact absurd H (by simp)
                 ·rw [if_neg c64] at H
                  exact absurd H (by simp)
                ·rw [if_neg c63] at H
                 exact absurd H (by simp)
             ·rw [if_neg c43] at H
              have c43b0 : decide (Qm < (l1.length : Int)) = false:=decide_eq_false c43
              clear c43
              replace H:=Option.bind_eq_some_iff.mp H
              obtain ⟨⟨t123,QG⟩,A700,H⟩:=H
              replace H : (if QG = 151 then (some Qy) else (if QG = 0 then (if 0 ≤ Qi then (if Qi < (l1.length : Int) then (if Ql.length < 17592186044416 then (vesperslaw15_ResyncTogether.l1 k4 l1 l2 a3 Qy (l1.length : Int) QA QB (Ql++[wrap64 ((rd l1 Qi) + t123)]) (l1.length : Int) (wrap64 (Qi + 1)) Qn Qk Qo Qp Qq Qr Qs Qt Qu Qv Qc Qd Qe Qf Qg Qh) else (none)) else (none)) else (none)) else (none))) = some r:=H
              have A70:=Aside0.mk A700
              clear A700
              by_cases c71 : QG = 151
              ·rw [if_pos c71] at H
               have c71b0 : (QG == 151) = true:=beq_iff_eq.mpr c71
               have c71b1 : (QG != 151) = false:=bne_eq_false_iff_eq.mpr c71
               clear c71
               obtain rfl:=Option.some.inj H
               have hcz72_0 : wr.cell? ⟨Qb,0,none⟩ = some (.int .i64 Qn):=(blk_cell Qa.out 0).trans rfl
               have hcz72_1 : wr.cell? ⟨Qb,1,none⟩ = some (.int .i64 Qk):=(blk_cell Qa.out 1).trans rfl
               have hcz72_2 : wr.cell? ⟨Qb,2,none⟩ = some (.int .i64 Qo):=(blk_cell Qa.out 2).trans rfl
               have hcz72_3 : wr.cell? ⟨Qb,3,none⟩ = some (.int .i64 Qp):=(blk_cell Qa.out 3).trans rfl
               have hcz72_4 : wr.cell? ⟨Qb,4,none⟩ = some (.int .i64 Qq):=(blk_cell Qa.out 4).trans rfl
               have hcz72_5 : wr.cell? ⟨Qb,5,none⟩ = some (.int .i64 Qr):=(blk_cell Qa.out 5).trans rfl
               have hcz72_6 : wr.cell? ⟨Qb,6,none⟩ = some (.int .i64 Qs):=(blk_cell Qa.out 6).trans rfl
               have hcz72_7 : wr.cell? ⟨Qb,7,none⟩ = some (.int .i64 Qt):=(blk_cell Qa.out 7).trans rfl
               have hcz72_8 : wr.cell? ⟨Qb,8,none⟩ = some (.int .i64 Qu):=(blk_cell Qa.out 8).trans rfl
               have hcz72_9 : wr.cell? ⟨Qb,9,none⟩ = some (.int .i64 Qv):=(blk_cell Qa.out 9).trans rfl
               have hcz72_10 : wr.cell? ⟨Qb,10,none⟩ = some (.int .i64 Qc):=(blk_cell Qa.out 10).trans rfl
               have hcz72_11 : wr.cell? ⟨Qb,11,none⟩ = some (.int .i64 Qd):=(blk_cell Qa.out 11).trans rfl
               have hcz72_12 : wr.cell? ⟨Qb,12,none⟩ = some (.int .i64 Qe):=(blk_cell Qa.out 12).trans rfl
               have hcz72_13 : wr.cell? ⟨Qb,13,none⟩ = some (.int .i64 Qf):=(blk_cell Qa.out 13).trans rfl
               have hcz72_14 : wr.cell? ⟨Qb,14,none⟩ = some (.int .i64 Qg):=(blk_cell Qa.out 14).trans rfl
               have hcz72_15 : wr.cell? ⟨Qb,15,none⟩ = some (.int .i64 Qh):=(blk_cell Qa.out 15).trans rfl
               have hfz72_0:=blk_frozen Qa.out 0
               have hfz72_1:=blk_frozen Qa.out 1
               have hfz72_2:=blk_frozen Qa.out 2
               have hfz72_3:=blk_frozen Qa.out 3
               have hfz72_4:=blk_frozen Qa.out 4
               have hfz72_5:=blk_frozen Qa.out 5
               have hfz72_6:=blk_frozen Qa.out 6
               have hfz72_7:=blk_frozen Qa.out 7
               have hfz72_8:=blk_frozen Qa.out 8
               have hfz72_9:=blk_frozen Qa.out 9
               have hfz72_10:=blk_frozen Qa.out 10
               have hfz72_11:=blk_frozen Qa.out 11
               have hfz72_12:=blk_frozen Qa.out 12
               have hfz72_13:=blk_frozen Qa.out 13
               have hfz72_14:=blk_frozen Qa.out 14
               have hfz72_15:=blk_frozen Qa.out 15
               obtain ⟨Ao73,co73,eo73⟩:=Kd.R_slice HO_17.out
               subst eo73
               go_wp2_with (first|((with_reducible refine gate_callee (f:=7) rfl ?_);refine goesL_ (some 129) rfl rfl Try.func7 (by kernel_rfl) rfl #[.agg #[.int .i64 Qn,.int .i64 Qk,.int .i64 Qo,.int .i64 Qp,.int .i64 Qq,.int .i64 Qr,.int .i64 Qs,.int .i64 Qt,.int .i64 Qu,.int .i64 Qv,.int .i64 Qc,.int .i64 Qd,.int .i64 Qe,.int .i64 Qf,.int .i64 Qg,.int .i64 Qh],.slice Ao73 QC.length co73] rfl (by (try simp only [List.map_toArray,List.map_cons,List.map_nil]);first|done|rfl|(simp only [List.length_drop,List.length_take];rfl)) ?_;(with_reducible refine (resync_Correction.calls k4 Qn Qk Qo Qp Qq Qr Qs Qt Qu Qv Qc Qd Qe Qf Qg Qh _ _ QC t123 QG _ ?side1 ?side2 A70.out).mono ?_);(case side1=>repeat (first|exact (Kd.R_reads' HO_17.out).2.2|(with_reducible refine Kd.C_alloc ?_ _)|(with_reducible refine Kd.C_drewN ?_ _)|(with_reducible refine Kd.C_drew ?_)));(case side2=>exact (Kd.R_reads' HO_17.out).2.1);rintro e w74 ⟨rfl,hb⟩;refine ⟨_,rfl,?_⟩;have n0_:=kr_ HO_15 hb;have n1_:=kr_ HO_17 hb;have n2_:=kb_ Qa hb;have n3_:=ks_ HB hb;clear HO_15;clear HO_17;clear Qa;clear HB;have HO_15:=n0_;have HO_17:=n1_;have Qa:=n2_;have HB:=n3_;clear n0_ n1_ n2_ n3_;(try clear hb);(try clear hb2);(try clear hk);(try clear hi)))
               go_ret
               exact ⟨by first|rfl|(simp [errW_none,errW_some] <;> rfl)|(simp [*,errW_none,errW_some] <;> rfl),by repeat (first|(with_reducible first|exact HB.out|apply below_alloc|apply pw_below_drewN|apply below_drew1|refine below_set ?_ Qz.out)|exact HB.out)⟩
              ·rw [if_neg c71] at H
               have c71b0 : (QG == 151) = false:=beq_eq_false_iff_ne.mpr c71
               have c71b1 : (QG != 151) = true:=bne_iff_ne.mpr c71
               by_cases c75 : QG = 0
               ·rw [if_pos c75] at H
                have c75b0 : (QG == 0) = true:=beq_iff_eq.mpr c75
                have c75b1 : (QG != 0) = false:=bne_eq_false_iff_eq.mpr c75
                clear c75
                by_cases c76 : 0 ≤ Qi
                ·rw [if_pos c76] at H
                 have c76b0 : decide (0 ≤ Qi) = true:=decide_eq_true c76
                 clear c76
                 by_cases c77 : Qi < (l1.length : Int)
                 ·rw [if_pos c77] at H
                  have c77b0 : decide (Qi < (l1.length : Int)) = true:=decide_eq_true c77
                  clear c77
                  by_cases c78 : Ql.length < 17592186044416
                  ·rw [if_pos c78] at H
                   have LMc78:=Aside0.mk c78
                   clear c78
                   obtain ⟨y126,hy126⟩ : ∃ y_ : List Int,y_ = (Ql++[wrap64 ((rd l1 Qi) + t123)]):=⟨_,rfl⟩
                   replace H : (vesperslaw15_ResyncTogether.l1 k4 l1 l2 a3 Qy (l1.length : Int) QA QB y126 (l1.length : Int) (wrap64 (Qi + 1)) Qn Qk Qo Qp Qq Qr Qs Qt Qu Qv Qc Qd Qe Qf Qg Qh) = some r:=by first|(rw [hy126];with_reducible exact H)|(have H2_:=(Option.bind_some _ _).symm.trans H;rw [hy126];with_reducible exact H2_)|(have H2_:=(Option.bind_some _ _).symm.trans H;with_reducible exact H2_)|with_reducible exact H|(rw [hy126];exact H)|exact H
                   have Ny126:=Aside0.mk hy126
                   clear hy126
                   have H':=Aside0.mk H
                   clear H
                   have hcz79_0 : wr.cell? ⟨Qb,0,none⟩ = some (.int .i64 Qn):=(blk_cell Qa.out 0).trans rfl
                   have hcz79_1 : wr.cell? ⟨Qb,1,none⟩ = some (.int .i64 Qk):=(blk_cell Qa.out 1).trans rfl
                   have hcz79_2 : wr.cell? ⟨Qb,2,none⟩ = some (.int .i64 Qo):=(blk_cell Qa.out 2).trans rfl
                   have hcz79_3 : wr.cell? ⟨Qb,3,none⟩ = some (.int .i64 Qp):=(blk_cell Qa.out 3).trans rfl
                   have hcz79_4 : wr.cell? ⟨Qb,4,none⟩ = some (.int .i64 Qq):=(blk_cell Qa.out 4).trans rfl
                   have hcz79_5 : wr.cell? ⟨Qb,5,none⟩ = some (.int .i64 Qr):=(blk_cell Qa.out 5).trans rfl
                   have hcz79_6 : wr.cell? ⟨Qb,6,none⟩ = some (.int .i64 Qs):=(blk_cell Qa.out 6).trans rfl
                   have hcz79_7 : wr.cell? ⟨Qb,7,none⟩ = some (.int .i64 Qt):=(blk_cell Qa.out 7).trans rfl
                   have hcz79_8 : wr.cell? ⟨Qb,8,none⟩ = some (.int .i64 Qu):=(blk_cell Qa.out 8).trans rfl
                   have hcz79_9 : wr.cell? ⟨Qb,9,none⟩ = some (.int .i64 Qv):=(blk_cell Qa.out 9).trans rfl
                   have hcz79_10 : wr.cell? ⟨Qb,10,none⟩ = some (.int .i64 Qc):=(blk_cell Qa.out 10).trans rfl
                   have hcz79_11 : wr.cell? ⟨Qb,11,none⟩ = some (.int .i64 Qd):=(blk_cell Qa.out 11).trans rfl
                   have hcz79_12 : wr.cell? ⟨Qb,12,none⟩ = some (.int .i64 Qe):=(blk_cell Qa.out 12).trans rfl
                   have hcz79_13 : wr.cell? ⟨Qb,13,none⟩ = some (.int .i64 Qf):=(blk_cell Qa.out 13).trans rfl
                   have hcz79_14 : wr.cell? ⟨Qb,14,none⟩ = some (.int .i64 Qg):=(blk_cell Qa.out 14).trans rfl
                   have hcz79_15 : wr.cell? ⟨Qb,15,none⟩ = some (.int .i64 Qh):=(blk_cell Qa.out 15).trans rfl
                   have hfz79_0:=blk_frozen Qa.out 0
                   have hfz79_1:=blk_frozen Qa.out 1
                   have hfz79_2:=blk_frozen Qa.out 2
                   have hfz79_3:=blk_frozen Qa.out 3
                   have hfz79_4:=blk_frozen Qa.out 4
                   have hfz79_5:=blk_frozen Qa.out 5
                   have hfz79_6:=blk_frozen Qa.out 6
                   have hfz79_7:=blk_frozen Qa.out 7
                   have hfz79_8:=blk_frozen Qa.out 8
                   have hfz79_9:=blk_frozen Qa.out 9
                   have hfz79_10:=blk_frozen Qa.out 10
                   have hfz79_11:=blk_frozen Qa.out 11
                   have hfz79_12:=blk_frozen Qa.out 12
                   have hfz79_13:=blk_frozen Qa.out 13
                   have hfz79_14:=blk_frozen Qa.out 14
                   have hfz79_15:=blk_frozen Qa.out 15
                   obtain ⟨Ao80,co80,eo80⟩:=Kd.R_slice HO_17.out
                   subst eo80
                   go_wp2_with (first|((with_reducible refine gate_callee (f:=7) rfl ?_);refine goesL_ (some 129) rfl rfl Try.func7 (by kernel_rfl) rfl #[.agg #[.int .i64 Qn,.int .i64 Qk,.int .i64 Qo,.int .i64 Qp,.int .i64 Qq,.int .i64 Qr,.int .i64 Qs,.int .i64 Qt,.int .i64 Qu,.int .i64 Qv,.int .i64 Qc,.int .i64 Qd,.int .i64 Qe,.int .i64 Qf,.int .i64 Qg,.int .i64 Qh],.slice Ao80 QC.length co80] rfl (by (try simp only [List.map_toArray,List.map_cons,List.map_nil]);first|done|rfl|(simp only [List.length_drop,List.length_take];rfl)) ?_;(with_reducible refine (resync_Correction.calls k4 Qn Qk Qo Qp Qq Qr Qs Qt Qu Qv Qc Qd Qe Qf Qg Qh _ _ QC t123 QG _ ?side1 ?side2 A70.out).mono ?_);(case side1=>repeat (first|exact (Kd.R_reads' HO_17.out).2.2|(with_reducible refine Kd.C_alloc ?_ _)|(with_reducible refine Kd.C_drewN ?_ _)|(with_reducible refine Kd.C_drew ?_)));(case side2=>exact (Kd.R_reads' HO_17.out).2.1);rintro e w81 ⟨rfl,hb⟩;refine ⟨_,rfl,?_⟩;have n0_:=kr_ HO_15 hb;have n1_:=kr_ HO_17 hb;have n2_:=kb_ Qa hb;have n3_:=ks_ HB hb;clear HO_15;clear HO_17;clear Qa;clear HB;have HO_15:=n0_;have HO_17:=n1_;have Qa:=n2_;have HB:=n3_;clear n0_ n1_ n2_ n3_;(try clear hb);(try clear hb2);(try clear hk);(try clear hi);have p125 : 0 ≤ (Qi : Int):=of_decide_eq_true (by first|(with_reducible assumption)|assumption);have q125 : Qi < (l1.length : Int):=of_decide_eq_true (by first|(with_reducible assumption)|assumption);obtain ⟨ad125,e125,hx125_0⟩:=Kd.at_int HR1.out Qi p125 q125;obtain rfl : ad104 = ad125:=(by injection e125);replace hx125_0:=(HB.out.cell (World.block_lt_of_cell? w _ hx125_0)).trans hx125_0;replace p125:=eq_true p125;replace q125:=eq_true q125)|((with_reducible refine gate_builtin (b:=.append) (xs:=#[.tmp 137,.tmp 144]) rfl ?_);(try (refine gate_guard (by rfl) ?_;dsimp only));at_builtin;refine Kd.R_append (Kd.int .i64) (w0:=w) w.heap.size rfl (.tmp 137) (.tmp 144) 26 2 (.int .i64 0) 8 rfl Try.underlying26 info2 rfl (by decide) (by omega) u15 Ql (wrap64 ((rd l1 Qi) + t123)) [.int .i64 (wrap64 ((rd l1 Qi) + t123))] (fun k_=>some k_ ≠ (.slice Ao80 QC.length co80 : Value).ownBlock) (fun _=>False) rfl rfl ?aP (fun _ hk=>hk.elim) ?aF ?aO ?aB ?aS ?aL ?_;(case aP=>exact rfl);(case aB=>exact (by repeat (first|(with_reducible first|exact HB.out|apply below_alloc|apply pw_below_drewN|apply below_drew1|refine below_set ?_ Qz.out)|exact HB.out)));(case aF=>exact (fun k_ hk=>Kd.fresh' (Kd.R_lt (by (with_reducible repeat (first|apply Kd.R_alloc|apply Kd.R_drewN|apply Kd.R_drew));exact HO_17.out)) k_ hk));(case aO=>exact (by (with_reducible repeat (first|apply Kd.R_alloc|apply Kd.R_drewN|apply Kd.R_drew));exact HO_15.out));(case aS=>exact (kz_ HB));(case aL=>have:=LMc78.out;omega);intro v127 w82 ho hb hg hat;rw [← Ny126.out] at ho;have n0_:=Aside0.mk (Kd.R_after (ok:=(fun _=>True)) (by (with_reducible repeat (first|apply Kd.R_alloc|apply Kd.R_drewN|apply Kd.R_drew));exact Kd.R_mono HO_17.out (fun _ hk=>⟨trivial,hk⟩)) hg hat);have n1_:=Aside0.mk (blk_grown (g:=Qb) (o:=.cells #[.int .i64 Qn,.int .i64 Qk,.int .i64 Qo,.int .i64 Qp,.int .i64 Qq,.int .i64 Qr,.int .i64 Qs,.int .i64 Qt,.int .i64 Qu,.int .i64 Qv,.int .i64 Qc,.int .i64 Qd,.int .i64 Qe,.int .i64 Qf,.int .i64 Qg,.int .i64 Qh] 23 (0,0)) (by (with_reducible repeat (first|refine blk_drewN ?_ _|refine blk_drew ?_|refine blk_alloc ?_ _));exact Qa.out) hg (Kd.R_ne HO_15.out Qa.out (by decide)));have n2_:=Aside0.mk (hb);have n3_:=Aside0.mk (ho);clear HO_17;clear Qa;clear HB;clear HO_15;have HO_17:=n0_;have Qa:=n1_;have HB:=n2_;have HO128:=n3_;clear n0_ n1_ n2_ n3_;clear ho hb hg hat))
                   go_roundg k4
                   case measure=>have:=HJ5.out;have:=HK2.out;have:=HK3.out;have:=HK4.out;omega
                   case rel=>exact ⟨(y126),(wrap64 (Qi + 1)),(by first|rfl|(simp;done)|(simp [*];done)),H',⟨by have:=HJ5.out;have:=HK2.out;have:=HK3.out;have:=HK4.out;omega⟩,⟨by (with_reducible repeat (first|apply Kd.R_alloc|apply Kd.R_drewN|apply Kd.R_drew));exact Kd.R_mono HO128.out (fun _ hk=>trivial)⟩,⟨by (with_reducible repeat (first|refine blk_drewN ?_ _|refine blk_drew ?_|refine blk_alloc ?_ _));exact Qa.out⟩,⟨by repeat (first|(with_reducible first|exact HB.out|apply below_alloc|apply pw_below_drewN|apply below_drew1|refine below_set ?_ Qz.out)|exact HB.out)⟩⟩
                  ·rw [if_neg c78] at H
                   exact absurd H (by simp)
                 ·rw [if_neg c77] at H
                  exact absurd H (by simp)
                ·rw [if_neg c76] at H
                 exact absurd H (by simp)
               ·rw [if_neg c75] at H
                exact absurd H (by simp)
          ·rw [if_neg c42] at H
           have c42b0 : decide (Qi < (l1.length : Int)) = false:=decide_eq_false c42
           clear c42
           have H':=Aside0.mk H
           clear H
           obtain ⟨Ao83,co83,eo83⟩:=Kd.R_slice HO_15.out
           subst eo83
           go_wp2
           go_loopg [149] k3 (fun kq v149 w'=>∃ (Qj : Int),v149 = .int .i64 Qj∧Aside0 (vesperslaw15_ResyncTogether.l3 kq a3 Qy QA QB Ql (Ql.length : Int) Qj = some r)∧Aside0 (kq ≤ k3)∧Aside0 (Kd.R (Kd.int .i64) 2 w' w.heap.size (fun _=>True) (.slice Ao83 Ql.length co83) Ql)∧Aside0 (w'.heap[Qb]? = some (.cells #[.int .i64 Qn,.int .i64 Qk,.int .i64 Qo,.int .i64 Qp,.int .i64 Qq,.int .i64 Qr,.int .i64 Qs,.int .i64 Qt,.int .i64 Qu,.int .i64 Qv,.int .i64 Qc,.int .i64 Qd,.int .i64 Qe,.int .i64 Qf,.int .i64 Qg,.int .i64 Qh] 23 (0,0)))∧Aside0 (Below w.heap.size w w'))
           case atStart=>exact ⟨(0),(by first|rfl|(simp;done)|(simp [*];done)),H',⟨Nat.le_refl _⟩,⟨by (with_reducible repeat (first|apply Kd.R_alloc|apply Kd.R_drewN|apply Kd.R_drew));exact HO_15.out⟩,⟨by (with_reducible repeat (first|refine blk_drewN ?_ _|refine blk_drew ?_|refine blk_alloc ?_ _));exact Qa.out⟩,⟨by repeat (first|(with_reducible first|exact HB.out|apply below_alloc|apply pw_below_drewN|apply below_drew1|refine below_set ?_ Qz.out)|exact HB.out)⟩⟩
           case round =>
            clear H'
            try clear p1
            try clear q1
            try clear hx1
            try clear p2
            try clear c4
            try clear c5
            try clear c6
            try clear p6
            try clear c7
            try clear p11
            try clear q11
            try clear hx11
            try clear p12
            try clear q12
            try clear hx12
            try clear c42
            try clear c42b0
            try clear c43
            try clear c43b0
            try clear c52
            try clear c52b0
            try clear c54
            try clear c54b0
            try clear c55
            try clear c55b0
            try clear c55b1
            try clear c56
            try clear c56b0
            try clear c57
            try clear c57b0
            try clear c58
            try clear c58b0
            try clear c59
            try clear c59b0
            try clear c60
            try clear c63
            try clear c63b0
            try clear c64
            try clear c64b0
            try clear p64
            try clear c65
            try clear c65b0
            try clear c66
            try clear c66b0
            try clear c67
            try clear c71
            try clear c71b0
            try clear c71b1
            try clear c75
            try clear c75b0
            try clear c75b1
            try clear c76
            try clear c76b0
            try clear c77
            try clear c77b0
            try clear c78
            try clear hcz72_0
            try clear hcz72_1
            try clear hcz72_10
            try clear hcz72_11
            try clear hcz72_12
            try clear hcz72_13
            try clear hcz72_14
            try clear hcz72_15
            try clear hcz72_2
            try clear hcz72_3
            try clear hcz72_4
            try clear hcz72_5
            try clear hcz72_6
            try clear hcz72_7
            try clear hcz72_8
            try clear hcz72_9
            try clear hcz79_0
            try clear hcz79_1
            try clear hcz79_10
            try clear hcz79_11
            try clear hcz79_12
            try clear hcz79_13
            try clear hcz79_14
            try clear hcz79_15
            try clear hcz79_2
            try clear hcz79_3
            try clear hcz79_4
            try clear hcz79_5
            try clear hcz79_6
            try clear hcz79_7
            try clear hcz79_8
            try clear hcz79_9
            try clear hfz72_0
            try clear hfz72_1
            try clear hfz72_10
            try clear hfz72_11
            try clear hfz72_12
            try clear hfz72_13
            try clear hfz72_14
            try clear hfz72_15
            try clear hfz72_2
            try clear hfz72_3
            try clear hfz72_4
            try clear hfz72_5
            try clear hfz72_6
            try clear hfz72_7
            try clear hfz72_8
            try clear hfz72_9
            try clear hfz79_0
            try clear hfz79_1
            try clear hfz79_10
            try clear hfz79_11
            try clear hfz79_12
            try clear hfz79_13
            try clear hfz79_14
            try clear hfz79_15
            try clear hfz79_2
            try clear hfz79_3
            try clear hfz79_4
            try clear hfz79_5
            try clear hfz79_6
            try clear hfz79_7
            try clear hfz79_8
            try clear hfz79_9
            try clear hx112_0
            try clear hx113_0
            try clear hx114_0
            try clear hx118_0
            try clear hx119_0
            try clear hx125_0
            try clear p112
            try clear p113
            try clear p114
            try clear p118
            try clear p119
            try clear p125
            try clear q112
            try clear q113
            try clear q114
            try clear q118
            try clear q119
            try clear q125
            obtain ⟨Qj,rfl,HA,HK4,HO_15,Qa,HB⟩:=hrel
            cases gk with
            | zero=>exact absurd HA.out (by simp [vesperslaw15_ResyncTogether.l3])
            | succ k4 =>
             have H:=HA.out
             clear HA
             simp only [vesperslaw15_ResyncTogether.l3] at H
             by_cases c84 : Qj < (Ql.length : Int)
             ·rw [if_pos c84] at H
              have c84b0 : decide (Qj < (Ql.length : Int)) = true:=decide_eq_true c84
              clear c84
              have HC85:=Aside0.mk H
              clear H
              go_upto_region 37 with (fail)
              go_cut [169] (fun v169 wc=>∃ (kq : Nat) (QH : Bool),v169 = .bool QH∧Aside0 (vesperslaw15_ResyncTogether.j5 kq a3 Qy QA QB Ql Qj (Ql.length : Int) Qj QH = some r)∧Aside0 (kq ≤ k4)∧Aside0 (Kd.R (Kd.int .i64) 2 wc w.heap.size (fun _=>True) (.slice Ao83 Ql.length co83) Ql)∧Aside0 (wc.heap[Qb]? = some (.cells #[.int .i64 Qn,.int .i64 Qk,.int .i64 Qo,.int .i64 Qp,.int .i64 Qq,.int .i64 Qr,.int .i64 Qs,.int .i64 Qt,.int .i64 Qu,.int .i64 Qv,.int .i64 Qc,.int .i64 Qd,.int .i64 Qe,.int .i64 Qf,.int .i64 Qg,.int .i64 Qh] 23 (0,0)))∧Aside0 (Below w.heap.size w wc))
              case first=>as_aux_lemma =>
               have H:=HC85.out
               clear HC85
               by_cases c86 : 0 ≤ Qj
               ·rw [if_pos c86] at H
                have c86b0 : decide (0 ≤ Qj) = true:=decide_eq_true c86
                clear c86
                (first|rw [c86b0]|(simp only [i64_w,i32_w];rw [c86b0])|skip)
                by_cases c87 : Qj < (Ql.length : Int)
                ·rw [if_pos c87] at H
                 have c87b0 : decide (Qj < (Ql.length : Int)) = true:=decide_eq_true c87
                 clear c87
                 by_cases c88 : (rd Ql Qj) < (wrap64 (QA - a3))
                 ·rw [if_pos c88] at H
                  have c88b0 : decide ((rd Ql Qj) < (wrap64 (QA - a3))) = true:=decide_eq_true c88
                  clear c88
                  have H':=Aside0.mk H
                  clear H
                  have p129 : 0 ≤ (Qj : Int):=of_decide_eq_true (by first|(with_reducible assumption)|assumption)
                  have q129 : Qj < (Ql.length : Int):=of_decide_eq_true (by first|(with_reducible assumption)|assumption)
                  obtain ⟨ad129,e129,hx129_0⟩:=Kd.at_int (Kd.R_reads' HO_15.out).2.2 Qj p129 q129
                  cases e129
                  replace p129:=eq_true p129
                  replace q129:=eq_true q129
                  go_wp2
                  go_meet
                  case rel=>exact ⟨_,(true),(by first|rfl|(simp;done)|(simp [*];done)),H',⟨by have:=HJ5.out;have:=HK2.out;have:=HK3.out;have:=HK4.out;first|omega|exact Nat.le_refl _⟩,⟨by (with_reducible repeat (first|apply Kd.R_alloc|apply Kd.R_drewN|apply Kd.R_drew));exact HO_15.out⟩,⟨by (with_reducible repeat (first|refine blk_drewN ?_ _|refine blk_drew ?_|refine blk_alloc ?_ _));exact Qa.out⟩,⟨by repeat (first|(with_reducible first|exact HB.out|apply below_alloc|apply pw_below_drewN|apply below_drew1|refine below_set ?_ Qz.out)|exact HB.out)⟩⟩
                 ·rw [if_neg c88] at H
                  have c88b0 : decide ((rd Ql Qj) < (wrap64 (QA - a3))) = false:=decide_eq_false c88
                  clear c88
                  have H':=Aside0.mk H
                  clear H
                  have p129 : 0 ≤ (Qj : Int):=of_decide_eq_true (by first|(with_reducible assumption)|assumption)
                  have q129 : Qj < (Ql.length : Int):=of_decide_eq_true (by first|(with_reducible assumption)|assumption)
                  obtain ⟨ad129,e129,hx129_0⟩:=Kd.at_int (Kd.R_reads' HO_15.out).2.2 Qj p129 q129
                  cases e129
                  replace p129:=eq_true p129
                  replace q129:=eq_true q129
                  have p130 : 0 ≤ (Qj : Int):=of_decide_eq_true (by first|(with_reducible assumption)|assumption)
                  have q130 : Qj < (Ql.length : Int):=of_decide_eq_true (by first|(with_reducible assumption)|assumption)
                  obtain ⟨ad130,e130,hx130_0⟩:=Kd.at_int (Kd.R_reads' HO_15.out).2.2 Qj p130 q130
                  obtain rfl : ad129 = ad130:=(by injection e130)
                  replace p130:=eq_true p130
                  replace q130:=eq_true q130
                  go_wp2
                  go_meet
                  case rel=>exact ⟨_,(decide ((rd Ql Qj) > (wrap64 (QB + a3)))),(by first|rfl|(simp;done)|(simp [*];done)),H',⟨by have:=HJ5.out;have:=HK2.out;have:=HK3.out;have:=HK4.out;first|omega|exact Nat.le_refl _⟩,⟨by (with_reducible repeat (first|apply Kd.R_alloc|apply Kd.R_drewN|apply Kd.R_drew));exact HO_15.out⟩,⟨by (with_reducible repeat (first|refine blk_drewN ?_ _|refine blk_drew ?_|refine blk_alloc ?_ _));exact Qa.out⟩,⟨by repeat (first|(with_reducible first|exact HB.out|apply below_alloc|apply pw_below_drewN|apply below_drew1|refine below_set ?_ Qz.out)|exact HB.out)⟩⟩
                ·rw [if_neg c87] at H
                 exact absurd H (by simp)
               ·rw [if_neg c86] at H
                exact absurd H (by simp)
              case rest=>as_aux_lemma =>
               clear HC85
               try clear p1
               try clear q1
               try clear hx1
               try clear p2
               try clear c4
               try clear c5
               try clear c6
               try clear p6
               try clear c7
               try clear c8
               try clear p11
               try clear q11
               try clear hx11
               try clear p12
               try clear q12
               try clear hx12
               try clear p13
               try clear q13
               try clear hx13
               try clear c42
               try clear c42b0
               try clear c43
               try clear c43b0
               try clear c52
               try clear c52b0
               try clear c54
               try clear c54b0
               try clear c55
               try clear c55b0
               try clear c55b1
               try clear c56
               try clear c56b0
               try clear c57
               try clear c57b0
               try clear c58
               try clear c58b0
               try clear c59
               try clear c59b0
               try clear c60
               try clear c63
               try clear c63b0
               try clear c64
               try clear c64b0
               try clear p64
               try clear c65
               try clear c65b0
               try clear c66
               try clear c66b0
               try clear c67
               try clear c71
               try clear c71b0
               try clear c71b1
               try clear c75
               try clear c75b0
               try clear c75b1
               try clear c76
               try clear c76b0
               try clear c77
               try clear c77b0
               try clear c78
               try clear c84
               try clear c84b0
               try clear c86
               try clear c86b0
               try clear c87
               try clear c87b0
               try clear c88
               try clear c88b0
               try clear hcz72_0
               try clear hcz72_1
               try clear hcz72_10
               try clear hcz72_11
               try clear hcz72_12
               try clear hcz72_13
               try clear hcz72_14
               try clear hcz72_15
               try clear hcz72_2
               try clear hcz72_3
               try clear hcz72_4
               try clear hcz72_5
               try clear hcz72_6
               try clear hcz72_7
               try clear hcz72_8
               try clear hcz72_9
               try clear hcz79_0
               try clear hcz79_1
               try clear hcz79_10
               try clear hcz79_11
               try clear hcz79_12
               try clear hcz79_13
               try clear hcz79_14
               try clear hcz79_15
               try clear hcz79_2
               try clear hcz79_3
               try clear hcz79_4
               try clear hcz79_5
               try clear hcz79_6
               try clear hcz79_7
               try clear hcz79_8
               try clear hcz79_9
               try clear hfz72_0
               try clear hfz72_1
               try clear hfz72_10
               try clear hfz72_11
               try clear hfz72_12
               try clear hfz72_13
               try clear hfz72_14
               try clear hfz72_15
               try clear hfz72_2
               try clear hfz72_3
               try clear hfz72_4
               try clear hfz72_5
               try clear hfz72_6
               try clear hfz72_7
               try clear hfz72_8
               try clear hfz72_9
               try clear hfz79_0
               try clear hfz79_1
               try clear hfz79_10
               try clear hfz79_11
               try clear hfz79_12
               try clear hfz79_13
               try clear hfz79_14
               try clear hfz79_15
               try clear hfz79_2
               try clear hfz79_3
               try clear hfz79_4
               try clear hfz79_5
               try clear hfz79_6
               try clear hfz79_7
               try clear hfz79_8
               try clear hfz79_9
               try clear hx112_0
               try clear hx113_0
               try clear hx114_0
               try clear hx118_0
               try clear hx119_0
               try clear hx125_0
               try clear hx129_0
               try clear hx130_0
               try clear p1
               try clear p11
               try clear p112
               try clear p113
               try clear p114
               try clear p118
               try clear p119
               try clear p12
               try clear p125
               try clear p129
               try clear p130
               try clear p2
               try clear p6
               try clear p64
               try clear q1
               try clear q11
               try clear q112
               try clear q113
               try clear q114
               try clear q118
               try clear q119
               try clear q12
               try clear q125
               try clear q129
               try clear q130
               obtain ⟨kq,QH,rfl,HA,HJ84,HO_15,Qa,HB⟩:=hcut
               cases kq with
               | zero=>exact absurd HA.out (by simp [vesperslaw15_ResyncTogether.j5])
               | succ kj84 =>
                have H:=HA.out
                clear HA
                simp only [vesperslaw15_ResyncTogether.j5] at H
                by_cases c89 : QH = true
                ·subst c89
                 have H1 : (none) = some r:=by rw [if_pos rfl] at H;exact H
                 clear H
                 have H:=H1
                 clear H1
                 exact absurd H (by simp)
                ·replace c89:=Bool.eq_false_iff.mpr c89
                 subst c89
                 have H1 : (vesperslaw15_ResyncTogether.l4 kj84 a3 Qy QA QB Ql Qj (Ql.length : Int) Qj Qj 0) = some r:=by rw [if_neg (show ¬ (false = true) by decide)] at H;exact H
                 clear H
                 have H:=H1
                 clear H1
                 have H':=Aside0.mk H
                 clear H
                 go_wp2
                 go_loopg [171] kj84 (fun kq v171 w'=>∃ (Qx : Int),v171 = .int .i64 Qx∧Aside0 (vesperslaw15_ResyncTogether.l4 kq a3 Qy QA QB Ql Qj (Ql.length : Int) Qj Qj Qx = some r)∧Aside0 (kq ≤ kj84)∧Aside0 (Kd.R (Kd.int .i64) 2 w' w.heap.size (fun _=>True) (.slice Ao83 Ql.length co83) Ql)∧Aside0 (w'.heap[Qb]? = some (.cells #[.int .i64 Qn,.int .i64 Qk,.int .i64 Qo,.int .i64 Qp,.int .i64 Qq,.int .i64 Qr,.int .i64 Qs,.int .i64 Qt,.int .i64 Qu,.int .i64 Qv,.int .i64 Qc,.int .i64 Qd,.int .i64 Qe,.int .i64 Qf,.int .i64 Qg,.int .i64 Qh] 23 (0,0)))∧Aside0 (Below w.heap.size w w'))
                 case atStart=>exact ⟨(0),(by first|rfl|(simp;done)|(simp [*];done)),H',⟨Nat.le_refl _⟩,⟨by (with_reducible repeat (first|apply Kd.R_alloc|apply Kd.R_drewN|apply Kd.R_drew));exact HO_15.out⟩,⟨by (with_reducible repeat (first|refine blk_drewN ?_ _|refine blk_drew ?_|refine blk_alloc ?_ _));exact Qa.out⟩,⟨by repeat (first|(with_reducible first|exact HB.out|apply below_alloc|apply pw_below_drewN|apply below_drew1|refine below_set ?_ Qz.out)|exact HB.out)⟩⟩
                 case round =>
                  clear H'
                  try clear p1
                  try clear q1
                  try clear hx1
                  try clear p2
                  try clear c4
                  try clear c5
                  try clear c6
                  try clear p6
                  try clear c7
                  try clear c8
                  try clear p11
                  try clear q11
                  try clear hx11
                  try clear p12
                  try clear q12
                  try clear hx12
                  try clear p13
                  try clear q13
                  try clear hx13
                  try clear c42
                  try clear c42b0
                  try clear c43
                  try clear c43b0
                  try clear c52
                  try clear c52b0
                  try clear c54
                  try clear c54b0
                  try clear c55
                  try clear c55b0
                  try clear c55b1
                  try clear c56
                  try clear c56b0
                  try clear c57
                  try clear c57b0
                  try clear c58
                  try clear c58b0
                  try clear c59
                  try clear c59b0
                  try clear c60
                  try clear c63
                  try clear c63b0
                  try clear c64
                  try clear c64b0
                  try clear p64
                  try clear c65
                  try clear c65b0
                  try clear c66
                  try clear c66b0
                  try clear c67
                  try clear c71
                  try clear c71b0
                  try clear c71b1
                  try clear c75
                  try clear c75b0
                  try clear c75b1
                  try clear c76
                  try clear c76b0
                  try clear c77
                  try clear c77b0
                  try clear c78
                  try clear c84
                  try clear c84b0
                  try clear c86
                  try clear c86b0
                  try clear c87
                  try clear c87b0
                  try clear c88
                  try clear c88b0
                  try clear c89
                  try clear hcz72_0
                  try clear hcz72_1
                  try clear hcz72_10
                  try clear hcz72_11
                  try clear hcz72_12
                  try clear hcz72_13
                  try clear hcz72_14
                  try clear hcz72_15
                  try clear hcz72_2
                  try clear hcz72_3
                  try clear hcz72_4
                  try clear hcz72_5
                  try clear hcz72_6
                  try clear hcz72_7
                  try clear hcz72_8
                  try clear hcz72_9
                  try clear hcz79_0
                  try clear hcz79_1
                  try clear hcz79_10
                  try clear hcz79_11
                  try clear hcz79_12
                  try clear hcz79_13
                  try clear hcz79_14
                  try clear hcz79_15
                  try clear hcz79_2
                  try clear hcz79_3
                  try clear hcz79_4
                  try clear hcz79_5
                  try clear hcz79_6
                  try clear hcz79_7
                  try clear hcz79_8
                  try clear hcz79_9
                  try clear hfz72_0
                  try clear hfz72_1
                  try clear hfz72_10
                  try clear hfz72_11
                  try clear hfz72_12
                  try clear hfz72_13
                  try clear hfz72_14
                  try clear hfz72_15
                  try clear hfz72_2
                  try clear hfz72_3
                  try clear hfz72_4
                  try clear hfz72_5
                  try clear hfz72_6
                  try clear hfz72_7
                  try clear hfz72_8
                  try clear hfz72_9
                  try clear hfz79_0
                  try clear hfz79_1
                  try clear hfz79_10
                  try clear hfz79_11
                  try clear hfz79_12
                  try clear hfz79_13
                  try clear hfz79_14
                  try clear hfz79_15
                  try clear hfz79_2
                  try clear hfz79_3
                  try clear hfz79_4
                  try clear hfz79_5
                  try clear hfz79_6
                  try clear hfz79_7
                  try clear hfz79_8
                  try clear hfz79_9
                  try clear hx112_0
                  try clear hx113_0
                  try clear hx114_0
                  try clear hx118_0
                  try clear hx119_0
                  try clear hx125_0
                  try clear hx129_0
                  try clear hx130_0
                  try clear p1
                  try clear p11
                  try clear p112
                  try clear p113
                  try clear p114
                  try clear p118
                  try clear p119
                  try clear p12
                  try clear p125
                  try clear p129
                  try clear p13
                  try clear p130
                  try clear p2
                  try clear p6
                  try clear p64
                  try clear q1
                  try clear q11
                  try clear q112
                  try clear q113
                  try clear q114
                  try clear q118
                  try clear q119
                  try clear q12
                  try clear q125
                  try clear q129
                  try clear q13
                  try clear q130
                  obtain ⟨Qx,rfl,HA,HK6,HO_15,Qa,HB⟩:=hrel
                  cases gk with
                  | zero=>exact absurd HA.out (by simp [vesperslaw15_ResyncTogether.l4])
                  | succ k6 =>
                   have H:=HA.out
                   clear HA
                   simp only [vesperslaw15_ResyncTogether.l4] at H
                   by_cases c90 : Qx < Qj
                   ·rw [if_pos c90] at H
                    have c90b0 : decide (Qx < Qj) = true:=decide_eq_true c90
                    clear c90
                    by_cases c91 : 0 ≤ Qj
                    ·rw [if_pos c91] at H
                     have c91b0 : decide (0 ≤ Qj) = true:=decide_eq_true c91
                     clear c91
                     by_cases c92 : Qj < (Ql.length : Int)
                     ·rw [if_pos c92] at H
                      have c92b0 : decide (Qj < (Ql.length : Int)) = true:=decide_eq_true c92
                      clear c92
                      by_cases c93 : 0 ≤ Qx
                      ·rw [if_pos c93] at H
                       have c93b0 : decide (0 ≤ Qx) = true:=decide_eq_true c93
                       clear c93
                       by_cases c94 : Qx < (Ql.length : Int)
                       ·rw [if_pos c94] at H
                        have c94b0 : decide (Qx < (Ql.length : Int)) = true:=decide_eq_true c94
                        clear c94
                        by_cases c95 : (wrap64 ((rd Ql Qj) - (rd Ql Qx))) > (wrap64 (2 * a3))
                        ·rw [if_pos c95] at H
                         have c95b0 : decide ((wrap64 (2 * a3)) < (wrap64 ((rd Ql Qj) - (rd Ql Qx)))) = true:=decide_eq_true c95
                         clear c95
                         exact absurd H (by simp)
                        ·rw [if_neg c95] at H
                         have c95b0 : decide ((wrap64 (2 * a3)) < (wrap64 ((rd Ql Qj) - (rd Ql Qx)))) = false:=decide_eq_false c95
                         clear c95
                         by_cases c96 : (wrap64 ((rd Ql Qx) - (rd Ql Qj))) > (wrap64 (2 * a3))
                         ·rw [if_pos c96] at H
                          exact absurd H (by simp)
                         ·rw [if_neg c96] at H
                          have c96b0 : decide ((wrap64 (2 * a3)) < (wrap64 ((rd Ql Qx) - (rd Ql Qj)))) = false:=decide_eq_false c96
                          clear c96
                          have H':=Aside0.mk H
                          clear H
                          try go_wp2
                          have n0_:=Aside0.mk (Kd.R_drew HO_15.out)
                          have n1_:=Aside0.mk (blk_drew Qa.out)
                          have n2_:=Aside0.mk (below_drew1 HB.out)
                          clear HO_15
                          clear Qa
                          clear HB
                          have HO_15:=n0_
                          have Qa:=n1_
                          have HB:=n2_
                          clear n0_ n1_ n2_
                          have p131 : 0 ≤ (Qj : Int):=of_decide_eq_true (by first|(with_reducible assumption)|assumption)
                          have q131 : Qj < (Ql.length : Int):=of_decide_eq_true (by first|(with_reducible assumption)|assumption)
                          obtain ⟨ad131,e131,hx131_0⟩:=Kd.at_int (Kd.R_reads' HO_15.out).2.2 Qj p131 q131
                          cases e131
                          replace p131:=eq_true p131
                          replace q131:=eq_true q131
                          have p132 : 0 ≤ (Qx : Int):=of_decide_eq_true (by first|(with_reducible assumption)|assumption)
                          have q132 : Qx < (Ql.length : Int):=of_decide_eq_true (by first|(with_reducible assumption)|assumption)
                          obtain ⟨ad132,e132,hx132_0⟩:=Kd.at_int (Kd.R_reads' HO_15.out).2.2 Qx p132 q132
                          obtain rfl : ad131 = ad132:=(by injection e132)
                          replace p132:=eq_true p132
                          replace q132:=eq_true q132
                          have p133 : 0 ≤ (Qx : Int):=of_decide_eq_true (by first|(with_reducible assumption)|assumption)
                          have q133 : Qx < (Ql.length : Int):=of_decide_eq_true (by first|(with_reducible assumption)|assumption)
                          obtain ⟨ad133,e133,hx133_0⟩:=Kd.at_int (Kd.R_reads' HO_15.out).2.2 Qx p133 q133
                          obtain rfl : ad131 = ad133:=(by injection e133)
                          replace p133:=eq_true p133
                          replace q133:=eq_true q133
                          have p134 : 0 ≤ (Qj : Int):=of_decide_eq_true (by first|(with_reducible assumption)|assumption)
                          have q134 : Qj < (Ql.length : Int):=of_decide_eq_true (by first|(with_reducible assumption)|assumption)
                          obtain ⟨ad134,e134,hx134_0⟩:=Kd.at_int (Kd.R_reads' HO_15.out).2.2 Qj p134 q134
                          obtain rfl : ad131 = ad134:=(by injection e134)
                          replace p134:=eq_true p134
                          replace q134:=eq_true q134
                          refine start_ (n:=26) (S:=fun w'=>w'.cell? (ad131.add (Qj).toNat) = some (.int .i64 (rd Ql Qj))∧w'.cell? (ad131.add (Qx).toNat) = some (.int .i64 (rd Ql Qx))∧w'.cell? (ad131.add (Qx).toNat) = some (.int .i64 (rd Ql Qx))∧w'.cell? (ad131.add (Qj).toNat) = some (.int .i64 (rd Ql Qj))) (ds:=[]) #[false,false,false,false,false,false,false,false,false,false,false,false,false,false,false,false,false,false,false,false,false,false,false,false,false,false] (by kernel_rfl) rfl rfl ⟨hx131_0,hx132_0,hx133_0,hx134_0⟩ (fun hHeld=>?_);refine with_tabW vesperslaw15_ResyncTogether.tab42 vesperslaw15_ResyncTogether.bits42 (fun HT_ HW_=>?_)
                          generalize wr.drew = w97 at HO_15 Qa HB hx131_0 hx132_0 hx133_0 hx134_0 hHeld ⊢
                          refine pure_ (i:=0) (N:=some 174) (v:=?_) (a':=?_) #[true,false,false,false,false,false,false,false,false,false,false,false,false,false,false,false,false,false,false,false,false,false,false,false,false,false] rfl rfl (any_of HT_.out (by kernel_rfl)) (fun _ _ _ h=>h) (Or.inl ⟨by rfl,?_⟩) ?_ ?_
                          rotate_left
                          ·intro w'
                           go_simp
                           with_reducible rfl
                          rotate_left
                          ·simp only [Act.put,List.setIfInBounds_toArray,List.set_cons_zero,List.set_cons_succ,i64_w,i32_w]
                           rfl
                          refine pure_ (i:=1) (N:=some 175) (v:=?_) (a':=?_) #[true,true,false,false,false,false,false,false,false,false,false,false,false,false,false,false,false,false,false,false,false,false,false,false,false,false] rfl rfl (any_of HT_.out (by kernel_rfl)) (fun _ _ _ h=>h) (Or.inl ⟨by rfl,?_⟩) ?_ ?_
                          rotate_left
                          ·intro w'
                           go_simp
                           with_reducible rfl
                          rotate_left
                          ·simp only [Act.put,List.setIfInBounds_toArray,List.set_cons_zero,List.set_cons_succ,i64_w,i32_w]
                           rfl
                          refine pure_ (i:=2) (N:=some 176) (v:=?_) (a':=?_) #[true,true,true,false,false,false,false,false,false,false,false,false,false,false,false,false,false,false,false,false,false,false,false,false,false,false] rfl rfl (any_of HT_.out (by kernel_rfl)) (fun _ _ _ h=>h) (Or.inl ⟨by rfl,?_⟩) ?_ ?_
                          rotate_left
                          ·intro w'
                           go_simp
                           with_reducible rfl
                          rotate_left
                          ·simp only [Act.put,List.setIfInBounds_toArray,List.set_cons_zero,List.set_cons_succ,i64_w,i32_w]
                           rfl
                          refine pure_ (i:=4) (N:=some 178) (v:=?_) (a':=?_) #[true,true,true,false,true,false,false,false,false,false,false,false,false,false,false,false,false,false,false,false,false,false,false,false,false,false] rfl rfl (any_of HT_.out (by kernel_rfl)) (fun _ _ _ h=>h) (Or.inl ⟨by rfl,?_⟩) ?_ ?_
                          rotate_left
                          ·intro w'
                           go_simp
                           with_reducible rfl
                          rotate_left
                          ·simp only [Act.put,List.setIfInBounds_toArray,List.set_cons_zero,List.set_cons_succ,i64_w,i32_w]
                           rfl
                          refine pure_ (i:=5) (N:=some 179) (v:=?_) (a':=?_) #[true,true,true,false,true,true,false,false,false,false,false,false,false,false,false,false,false,false,false,false,false,false,false,false,false,false] rfl rfl (any_of HT_.out (by kernel_rfl)) (fun _ _ _ h=>h) (Or.inl ⟨by rfl,?_⟩) ?_ ?_
                          rotate_left
                          ·intro w'
                           go_simp
                           with_reducible rfl
                          rotate_left
                          ·simp only [Act.put,List.setIfInBounds_toArray,List.set_cons_zero,List.set_cons_succ,i64_w,i32_w]
                           rfl
                          refine pure_ (i:=6) (N:=some 180) (v:=?_) (a':=?_) #[true,true,true,false,true,true,true,false,false,false,false,false,false,false,false,false,false,false,false,false,false,false,false,false,false,false] rfl rfl (any_of HT_.out (by kernel_rfl)) (fun _ _ _ h=>h) (Or.inl ⟨by rfl,?_⟩) ?_ ?_
                          rotate_left
                          ·intro w'
                           go_simp
                           with_reducible rfl
                          rotate_left
                          ·simp only [Act.put,List.setIfInBounds_toArray,List.set_cons_zero,List.set_cons_succ,i64_w,i32_w]
                           rfl
                          refine pure_ (i:=9) (N:=some 183) (v:=?_) (a':=?_) #[true,true,true,false,true,true,true,false,false,true,false,false,false,false,false,false,false,false,false,false,false,false,false,false,false,false] rfl rfl (any_of HT_.out (by kernel_rfl)) (fun _ _ _ h=>h) (Or.inl ⟨by rfl,?_⟩) ?_ ?_
                          rotate_left
                          ·intro w'
                           go_simp
                           with_reducible rfl
                          rotate_left
                          ·simp only [Act.put,List.setIfInBounds_toArray,List.set_cons_zero,List.set_cons_succ,i64_w,i32_w]
                           rfl
                          refine pure_ (i:=10) (N:=some 184) (v:=?_) (a':=?_) #[true,true,true,false,true,true,true,false,false,true,true,false,false,false,false,false,false,false,false,false,false,false,false,false,false,false] rfl rfl (any_of HT_.out (by kernel_rfl)) (fun _ _ _ h=>h) (Or.inl ⟨by rfl,?_⟩) ?_ ?_
                          rotate_left
                          ·intro w'
                           go_simp
                           with_reducible rfl
                          rotate_left
                          ·simp only [Act.put,List.setIfInBounds_toArray,List.set_cons_zero,List.set_cons_succ,i64_w,i32_w]
                           rfl
                          refine take_ (i:=3) (N:=some 177) (v:=?_) (a':=?_) #[true,true,true,true,true,true,true,false,false,true,true,false,false,false,false,false,false,false,false,false,false,false,false,false,false,false] rfl rfl (take_ofW HT_.out HW_.out (by kernel_rfl)) (fun _ _ _ h=>h) (Or.inl ⟨by rfl,?_⟩) hHeld ?_ ?_
                          rotate_left
                          ·rintro w' ⟨s0,s1,s2,s3⟩
                           go_simp
                           with_reducible rfl
                          rotate_left
                          ·simp only [Act.put,List.setIfInBounds_toArray,List.set_cons_zero,List.set_cons_succ,i64_w,i32_w]
                           rfl
                          refine take_ (i:=7) (N:=some 181) (v:=?_) (a':=?_) #[true,true,true,true,true,true,true,true,false,true,true,false,false,false,false,false,false,false,false,false,false,false,false,false,false,false] rfl rfl (take_ofW HT_.out HW_.out (by kernel_rfl)) (fun _ _ _ h=>h) (Or.inl ⟨by rfl,?_⟩) hHeld ?_ ?_
                          rotate_left
                          ·rintro w' ⟨s0,s1,s2,s3⟩
                           go_simp
                           with_reducible rfl
                          rotate_left
                          ·simp only [Act.put,List.setIfInBounds_toArray,List.set_cons_zero,List.set_cons_succ,i64_w,i32_w]
                           rfl
                          refine pure_ (i:=8) (N:=some 182) (v:=?_) (a':=?_) #[true,true,true,true,true,true,true,true,true,true,true,false,false,false,false,false,false,false,false,false,false,false,false,false,false,false] rfl rfl (any_of HT_.out (by kernel_rfl)) (fun _ _ _ h=>h) (Or.inl ⟨by rfl,?_⟩) ?_ ?_
                          rotate_left
                          ·intro w'
                           go_simp
                           with_reducible rfl
                          rotate_left
                          ·simp only [Act.put,List.setIfInBounds_toArray,List.set_cons_zero,List.set_cons_succ,i64_w,i32_w]
                           rfl
                          refine pure_ (i:=11) (N:=some 185) (v:=?_) (a':=?_) #[true,true,true,true,true,true,true,true,true,true,true,true,false,false,false,false,false,false,false,false,false,false,false,false,false,false] rfl rfl (any_of HT_.out (by kernel_rfl)) (fun _ _ _ h=>h) (Or.inl ⟨by rfl,?_⟩) ?_ ?_
                          rotate_left
                          ·intro w'
                           go_simp
                           with_reducible rfl
                          rotate_left
                          ·simp only [Act.put,List.setIfInBounds_toArray,List.set_cons_zero,List.set_cons_succ,i64_w,i32_w]
                           rfl
                          refine pure_ (i:=12) (N:=some 186) (v:=?_) (a':=?_) #[true,true,true,true,true,true,true,true,true,true,true,true,true,false,false,false,false,false,false,false,false,false,false,false,false,false] rfl rfl (any_of HT_.out (by kernel_rfl)) (fun _ _ _ h=>h) (Or.inl ⟨by rfl,?_⟩) ?_ ?_
                          rotate_left
                          ·intro w'
                           go_simp
                           with_reducible rfl
                          rotate_left
                          ·simp only [Act.put,List.setIfInBounds_toArray,List.set_cons_zero,List.set_cons_succ,i64_w,i32_w]
                           rfl
                          refine pure_ (i:=13) (N:=some 187) (v:=?_) (a':=?_) #[true,true,true,true,true,true,true,true,true,true,true,true,true,true,false,false,false,false,false,false,false,false,false,false,false,false] rfl rfl (any_of HT_.out (by kernel_rfl)) (fun _ _ _ h=>h) (Or.inl ⟨by rfl,?_⟩) ?_ ?_
                          rotate_left
                          ·intro w'
                           go_simp
                           with_reducible rfl
                          rotate_left
                          ·simp only [Act.put,List.setIfInBounds_toArray,List.set_cons_zero,List.set_cons_succ,i64_w,i32_w]
                           rfl
                          refine pure_ (i:=14) (N:=some 188) (v:=?_) (a':=?_) #[true,true,true,true,true,true,true,true,true,true,true,true,true,true,true,false,false,false,false,false,false,false,false,false,false,false] rfl rfl (any_of HT_.out (by kernel_rfl)) (fun _ _ _ h=>h) (Or.inl ⟨by rfl,?_⟩) ?_ ?_
                          rotate_left
                          ·intro w'
                           go_simp
                           with_reducible rfl
                          rotate_left
                          ·simp only [Act.put,List.setIfInBounds_toArray,List.set_cons_zero,List.set_cons_succ,i64_w,i32_w]
                           rfl
                          refine pure_ (i:=15) (N:=some 189) (v:=?_) (a':=?_) #[true,true,true,true,true,true,true,true,true,true,true,true,true,true,true,true,false,false,false,false,false,false,false,false,false,false] rfl rfl (any_of HT_.out (by kernel_rfl)) (fun _ _ _ h=>h) (Or.inl ⟨by rfl,?_⟩) ?_ ?_
                          rotate_left
                          ·intro w'
                           go_simp
                           with_reducible rfl
                          rotate_left
                          ·simp only [Act.put,List.setIfInBounds_toArray,List.set_cons_zero,List.set_cons_succ,i64_w,i32_w]
                           rfl
                          refine pure_ (i:=17) (N:=some 191) (v:=?_) (a':=?_) #[true,true,true,true,true,true,true,true,true,true,true,true,true,true,true,true,false,true,false,false,false,false,false,false,false,false] rfl rfl (any_of HT_.out (by kernel_rfl)) (fun _ _ _ h=>h) (Or.inl ⟨by rfl,?_⟩) ?_ ?_
                          rotate_left
                          ·intro w'
                           go_simp
                           with_reducible rfl
                          rotate_left
                          ·simp only [Act.put,List.setIfInBounds_toArray,List.set_cons_zero,List.set_cons_succ,i64_w,i32_w]
                           rfl
                          refine pure_ (i:=18) (N:=some 192) (v:=?_) (a':=?_) #[true,true,true,true,true,true,true,true,true,true,true,true,true,true,true,true,false,true,true,false,false,false,false,false,false,false] rfl rfl (any_of HT_.out (by kernel_rfl)) (fun _ _ _ h=>h) (Or.inl ⟨by rfl,?_⟩) ?_ ?_
                          rotate_left
                          ·intro w'
                           go_simp
                           with_reducible rfl
                          rotate_left
                          ·simp only [Act.put,List.setIfInBounds_toArray,List.set_cons_zero,List.set_cons_succ,i64_w,i32_w]
                           rfl
                          refine pure_ (i:=19) (N:=some 193) (v:=?_) (a':=?_) #[true,true,true,true,true,true,true,true,true,true,true,true,true,true,true,true,false,true,true,true,false,false,false,false,false,false] rfl rfl (any_of HT_.out (by kernel_rfl)) (fun _ _ _ h=>h) (Or.inl ⟨by rfl,?_⟩) ?_ ?_
                          rotate_left
                          ·intro w'
                           go_simp
                           with_reducible rfl
                          rotate_left
                          ·simp only [Act.put,List.setIfInBounds_toArray,List.set_cons_zero,List.set_cons_succ,i64_w,i32_w]
                           rfl
                          refine pure_ (i:=22) (N:=some 196) (v:=?_) (a':=?_) #[true,true,true,true,true,true,true,true,true,true,true,true,true,true,true,true,false,true,true,true,false,false,true,false,false,false] rfl rfl (any_of HT_.out (by kernel_rfl)) (fun _ _ _ h=>h) (Or.inl ⟨by rfl,?_⟩) ?_ ?_
                          rotate_left
                          ·intro w'
                           go_simp
                           with_reducible rfl
                          rotate_left
                          ·simp only [Act.put,List.setIfInBounds_toArray,List.set_cons_zero,List.set_cons_succ,i64_w,i32_w]
                           rfl
                          refine pure_ (i:=23) (N:=some 197) (v:=?_) (a':=?_) #[true,true,true,true,true,true,true,true,true,true,true,true,true,true,true,true,false,true,true,true,false,false,true,true,false,false] rfl rfl (any_of HT_.out (by kernel_rfl)) (fun _ _ _ h=>h) (Or.inl ⟨by rfl,?_⟩) ?_ ?_
                          rotate_left
                          ·intro w'
                           go_simp
                           with_reducible rfl
                          rotate_left
                          ·simp only [Act.put,List.setIfInBounds_toArray,List.set_cons_zero,List.set_cons_succ,i64_w,i32_w]
                           rfl
                          refine take_ (i:=16) (N:=some 190) (v:=?_) (a':=?_) #[true,true,true,true,true,true,true,true,true,true,true,true,true,true,true,true,true,true,true,true,false,false,true,true,false,false] rfl rfl (take_ofW HT_.out HW_.out (by kernel_rfl)) (fun _ _ _ h=>h) (Or.inl ⟨by rfl,?_⟩) hHeld ?_ ?_
                          rotate_left
                          ·rintro w' ⟨s0,s1,s2,s3⟩
                           go_simp
                           with_reducible rfl
                          rotate_left
                          ·simp only [Act.put,List.setIfInBounds_toArray,List.set_cons_zero,List.set_cons_succ,i64_w,i32_w]
                           rfl
                          refine take_ (i:=20) (N:=some 194) (v:=?_) (a':=?_) #[true,true,true,true,true,true,true,true,true,true,true,true,true,true,true,true,true,true,true,true,true,false,true,true,false,false] rfl rfl (take_ofW HT_.out HW_.out (by kernel_rfl)) (fun _ _ _ h=>h) (Or.inl ⟨by rfl,?_⟩) hHeld ?_ ?_
                          rotate_left
                          ·rintro w' ⟨s0,s1,s2,s3⟩
                           go_simp
                           with_reducible rfl
                          rotate_left
                          ·simp only [Act.put,List.setIfInBounds_toArray,List.set_cons_zero,List.set_cons_succ,i64_w,i32_w]
                           rfl
                          refine pure_ (i:=21) (N:=some 195) (v:=?_) (a':=?_) #[true,true,true,true,true,true,true,true,true,true,true,true,true,true,true,true,true,true,true,true,true,true,true,true,false,false] rfl rfl (any_of HT_.out (by kernel_rfl)) (fun _ _ _ h=>h) (Or.inl ⟨by rfl,?_⟩) ?_ ?_
                          rotate_left
                          ·intro w'
                           go_simp
                           with_reducible rfl
                          rotate_left
                          ·simp only [Act.put,List.setIfInBounds_toArray,List.set_cons_zero,List.set_cons_succ,i64_w,i32_w]
                           rfl
                          refine pure_ (i:=24) (N:=some 198) (v:=?_) (a':=?_) #[true,true,true,true,true,true,true,true,true,true,true,true,true,true,true,true,true,true,true,true,true,true,true,true,true,false] rfl rfl (any_of HT_.out (by kernel_rfl)) (fun _ _ _ h=>h) (Or.inl ⟨by rfl,?_⟩) ?_ ?_
                          rotate_left
                          ·intro w'
                           go_simp
                           with_reducible rfl
                          rotate_left
                          ·simp only [Act.put,List.setIfInBounds_toArray,List.set_cons_zero,List.set_cons_succ,i64_w,i32_w]
                           rfl
                          refine pure_ (i:=25) (N:=some 199) (v:=?_) (a':=?_) #[true,true,true,true,true,true,true,true,true,true,true,true,true,true,true,true,true,true,true,true,true,true,true,true,true,true] rfl rfl (any_of HT_.out (by kernel_rfl)) (fun _ _ _ h=>h) (Or.inl ⟨by rfl,?_⟩) ?_ ?_
                          rotate_left
                          ·intro w'
                           go_simp
                           with_reducible rfl
                          rotate_left
                          ·simp only [Act.put,List.setIfInBounds_toArray,List.set_cons_zero,List.set_cons_succ,i64_w,i32_w]
                           rfl
                          refine done_ (done_of HT_.out (by kernel_rfl)) ?_
                          try go_wp2
                          go_roundg k6
                          case measure=>have:=HJ5.out;have:=HK2.out;have:=HK3.out;have:=HK4.out;have:=HJ84.out;have:=HK6.out;omega
                          case rel=>exact ⟨(wrap64 (Qx + 1)),(by first|rfl|(simp;done)|(simp [*];done)),H',⟨by have:=HJ5.out;have:=HK2.out;have:=HK3.out;have:=HK4.out;have:=HJ84.out;have:=HK6.out;omega⟩,⟨by (with_reducible repeat (first|apply Kd.R_alloc|apply Kd.R_drewN|apply Kd.R_drew));exact HO_15.out⟩,⟨by (with_reducible repeat (first|refine blk_drewN ?_ _|refine blk_drew ?_|refine blk_alloc ?_ _));exact Qa.out⟩,⟨by repeat (first|(with_reducible first|exact HB.out|apply below_alloc|apply pw_below_drewN|apply below_drew1|refine below_set ?_ Qz.out)|exact HB.out)⟩⟩
                       ·rw [if_neg c94] at H
                        exact absurd H (by simp)
                      ·rw [if_neg c93] at H
                       exact absurd H (by simp)
                     ·rw [if_neg c92] at H
                      exact absurd H (by simp)
                    ·rw [if_neg c91] at H
                     exact absurd H (by simp)
                   ·rw [if_neg c90] at H
                    have c90b0 : decide (Qx < Qj) = false:=decide_eq_false c90
                    clear c90
                    have H':=Aside0.mk H
                    clear H
                    go_wp2
                    go_roundg k6
                    case measure=>have:=HJ5.out;have:=HK2.out;have:=HK3.out;have:=HK4.out;have:=HJ84.out;have:=HK6.out;omega
                    case rel=>exact ⟨(wrap64 (Qj + 1)),(by first|rfl|(simp;done)|(simp [*];done)),H',⟨by have:=HJ5.out;have:=HK2.out;have:=HK3.out;have:=HK4.out;have:=HJ84.out;have:=HK6.out;omega⟩,⟨by (with_reducible repeat (first|apply Kd.R_alloc|apply Kd.R_drewN|apply Kd.R_drew));exact HO_15.out⟩,⟨by (with_reducible repeat (first|refine blk_drewN ?_ _|refine blk_drew ?_|refine blk_alloc ?_ _));exact Qa.out⟩,⟨by repeat (first|(with_reducible first|exact HB.out|apply below_alloc|apply pw_below_drewN|apply below_drew1|refine below_set ?_ Qz.out)|exact HB.out)⟩⟩
             ·rw [if_neg c84] at H
              have c84b0 : decide (Qj < (Ql.length : Int)) = false:=decide_eq_false c84
              clear c84
              obtain rfl:=Option.some.inj H
              go_wp2
              go_ret
              exact ⟨by first|rfl|(simp [errW_none,errW_some] <;> rfl)|(simp [*,errW_none,errW_some] <;> rfl),by repeat (first|(with_reducible first|exact HB.out|apply below_alloc|apply pw_below_drewN|apply below_drew1|refine below_set ?_ Qz.out)|exact HB.out)⟩
    ·rw [if_neg c33] at H
     exact absurd H (by simp)

/-- THE ONE PURE STATEMENT of vesperslaw15_ResyncTogether. -/
def vesperslaw15_ResyncTogether.Pure : Prop:=∀ (Qn : Int) (Qk : Int) (Qo : Int) (Qp : Int) (Qq : Int) (Qr : Int) (Qs : Int) (Qt : Int) (Qu : Int) (Qv : Int) (Qc : Int) (Qd : Int) (Qe : Int) (Qf : Int) (Qg : Int) (Qh : Int) (l1 : List Int) (l2 : List Int) (a3 : Int),(Lit.int .i64 Qn).wf = true→(Lit.int .i64 Qk).wf = true→(Lit.int .i64 Qo).wf = true→(Lit.int .i64 Qp).wf = true→(Lit.int .i64 Qq).wf = true→(Lit.int .i64 Qr).wf = true→(Lit.int .i64 Qs).wf = true→(Lit.int .i64 Qt).wf = true→(Lit.int .i64 Qu).wf = true→(Lit.int .i64 Qv).wf = true→(Lit.int .i64 Qc).wf = true→(Lit.int .i64 Qd).wf = true→(Lit.int .i64 Qe).wf = true→(Lit.int .i64 Qf).wf = true→(Lit.int .i64 Qg).wf = true→(Lit.int .i64 Qh).wf = true→l1.length ≤ maxLen→l1.length * 8 ≤ 140737488351232→(∀ x ∈ l1,(Lit.int .i64 x).wf = true)→l2.length ≤ maxLen→l2.length * 8 ≤ 140737488351232→(∀ x ∈ l2,(Lit.int .i64 x).wf = true)→(Lit.int .i64 a3).wf = true→∃ k,vesperslaw15_ResyncTogether.f k Qn Qk Qo Qp Qq Qr Qs Qt Qu Qv Qc Qd Qe Qf Qg Qh l1 l2 a3 = some true

end Go.Proofs.Ytnmephdamgofnaa.PT
