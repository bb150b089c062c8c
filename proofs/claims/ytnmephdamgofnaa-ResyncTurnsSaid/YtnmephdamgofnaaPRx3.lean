/- Written by a program of this session (wip/jprint.py, over the printer of the kit): functions that a law comes to, as plain Lean functions, and walks; Lean checks it. -/
import Derived.Test.YtnmephdamgofnaaPRx0
namespace Go.Proofs.Ytnmephdamgofnaa.PR
open Go.RowKit Go.Proofs.Ytnmephdamgofnaa.Hand Go.Proofs.Ytnmephdamgofnaa.PA Go.Proofs.Ytnmephdamgofnaa.PB Go.Proofs.YtnmephdamgofnaaW.PrintWords Go.Proofs.YtnmephdamgofnaaW.PrintLast Go.Proofs.YtnmephdamgofnaaW.PrintMore
attribute [local go_sem] max2_int min2_int max_two min_two max_three min_three max_four min_four   -- for this text's walks alone
set_option linter.unusedVariables false
set_option linter.unusedSimpArgs false

theorem nl_ {wp w1 : World} {g g' : Nat} {o : Obj} (h : Aside0 (wp.heap[g]? = some o)) (hg : g' = w1.heap.size) (hs : wp.heap[g]? = some o→w1.heap[g]? = some o:=by (intro h_;repeat (first|(with_reducible exact h_)|(with_reducible refine blk_drewN ?_ _)|(with_reducible refine blk_drew ?_)|(with_reducible refine blk_alloc ?_ _)))) : Aside0 (g ≠ g'):=⟨by rw [hg];exact Nat.ne_of_lt (blk_lt (hs h.out))⟩
theorem ng_ {wp w1 : World} {g g' : Nat} {o : Obj} (h : Aside0 (wp.heap[g]? = some o)) (hg : g' = w1.heap.size) (hs : wp.heap[g]? = some o→w1.heap[g]? = some o:=by (intro h_;repeat (first|(with_reducible exact h_)|(with_reducible refine blk_drewN ?_ _)|(with_reducible refine blk_drew ?_)|(with_reducible refine blk_alloc ?_ _)))) : Aside0 (g' ≠ g):=⟨by rw [hg];exact Nat.ne_of_gt (blk_lt (hs h.out))⟩
theorem kb_ {wp w1 w' : World} {g : Nat} {o : Obj} (h : Aside0 (wp.heap[g]? = some o)) (hb : Below w1.heap.size w1 w') (hs : wp.heap[g]? = some o→w1.heap[g]? = some o:=by (intro h_;repeat (first|(with_reducible exact h_)|(with_reducible refine blk_drewN ?_ _)|(with_reducible refine blk_drew ?_)|(with_reducible refine blk_alloc ?_ _)|(refine blk_far ?_ (Aside0.out (by assumption)) _)))) : Aside0 (w'.heap[g]? = some o):=⟨blk_below (hs h.out) hb⟩
theorem kr_ {α : Type} {d : Kd α} {e : Nat} {wp w1 w' : World} {base : Nat} {ok : Nat→Prop} {v : Value} {xs : List α} (h : Aside0 (d.R e wp base ok v xs)) (hb : Below w1.heap.size w1 w') (hs : d.R e wp base ok v xs→d.R e w1 base ok v xs:=by (intro h_;with_reducible repeat (first|exact h_|apply Kd.R_alloc|apply Kd.R_drewN|apply Kd.R_drew))) : Aside0 (d.R e w' base ok v xs):=⟨Kd.R_below (hs h.out) hb⟩
theorem ks_ {w W0 W w2 : World} (h : Aside0 (Below w.heap.size w W0)) (hb : Below W.heap.size W w2) (hs : Below w.heap.size w W0→Below w.heap.size w W:=by (intro h_;repeat (first|(with_reducible first|exact h_|apply below_alloc|apply pw_below_drewN|apply below_drew1|refine below_set ?_ (Aside0.out (by assumption)))|exact h_))) : Aside0 (Below w.heap.size w w2):=⟨below_step (hs h.out) hb⟩
theorem kz_ {w W0 W : World} (h : Aside0 (Below w.heap.size w W0)) (hs : Below w.heap.size w W0→Below w.heap.size w W:=by (intro h_;repeat (first|(with_reducible first|exact h_|apply below_alloc|apply pw_below_drewN|apply below_drew1|refine below_set ?_ (Aside0.out (by assumption)))|exact h_))) : w.heap.size ≤ W.heap.size:=below_size (hs h.out)
theorem rf4_ {α : Type} {d : Kd α} {e : Nat} {w : World} {base g : Nat} {ok : Nat→Prop} {v : Value} {xs : List α} {a b c z : Value} (h : d.R e w base (fun k=>ok k∧k ≠ g) v xs) : d.R e ((((w.setCell ⟨g,0,none⟩ a).setCell ⟨g,1,none⟩ b).setCell ⟨g,2,none⟩ c).setCell ⟨g,3,none⟩ z) base ok v xs :=
 Kd.R_mono (Kd.R_far (p:=⟨g,3,none⟩) (Kd.R_far (p:=⟨g,2,none⟩) (Kd.R_far (p:=⟨g,1,none⟩) (Kd.R_far (p:=⟨g,0,none⟩) h (fun _ hk=>hk.2) a) (fun _ hk=>hk.2) b) (fun _ hk=>hk.2) c) (fun _ hk=>hk.2) z) (fun _ h_=>h_.1)
/-! ### vespersref15_Fold: function 12 -/
def vespersref15_Fold.l0 : Nat→List (List Int)→Int→Int→Int→Int→Int→Int→Int→Int→Int→Int→Int→Int→Int→Int→Int→Int→Int→Int→Int→Int→Bool→Option (Int × Int × Int × Bool × Int)
 | 0,_,_,_,_,_,_,_,_,_,_,_,_,_,_,_,_,_,_,_,_,_,_=>none
 | k + 1,x1,x7,x102000,x102001,x102002,x102003,x102004,x102005,x102006,x102007,x102008,x102009,x102010,x102011,x102012,x102013,x102014,x102015,x104000,x104001,x104002,x104003=>if x7 < (x1.length : Int) then (if 0 ≤ x7 then ((vespersref15_Turn.f k x102000 x102001 x102002 x102003 x102004 x102005 x102006 x102007 x102008 x102009 x102010 x102011 x102012 x102013 x102014 x102015 x104000 x104001 x104002 x104003 (rd_L2 x1 x7)).bind fun QW=>(if QW.2.2.2.2.2 = 0 then (vespersref15_Fold.l0 k x1 (wrap64 (x7 + 1)) x102000 x102001 x102002 x102003 x102004 x102005 x102006 x102007 x102008 x102009 x102010 x102011 x102012 x102013 x102014 x102015 QW.1 QW.2.1 QW.2.2.1 QW.2.2.2.1) else (some (QW.1,QW.2.1,QW.2.2.1,QW.2.2.2.1,QW.2.2.2.2.2)))) else (none)) else (some (x104000,x104001,x104002,x104003,0))
def vespersref15_Fold.f (k : Nat) (QF : Int) (QG : Int) (QH : Int) (QI : Int) (QJ : Int) (QK : Int) (QL : Int) (QM : Int) (QN : Int) (QO : Int) (Qw : Int) (Qx : Int) (Qy : Int) (Qz : Int) (QA : Int) (QB : Int) (l1 : List (List Int)) : Option (Int × Int × Int × Bool × Int):=vespersref15_Fold.l0 k l1 0 QF QG QH QI QJ QK QL QM QN QO Qw Qx Qy Qz QA QB 0 0 0 false
theorem vespersref15_Fold.mono_l : ∀ k,(∀ y0 y1 y2 y3 y4 y5 y6 y7 y8 y9 y10 y11 y12 y13 y14 y15 y16 y17 y18 y19 y20 y21,LeO (vespersref15_Fold.l0 k y0 y1 y2 y3 y4 y5 y6 y7 y8 y9 y10 y11 y12 y13 y14 y15 y16 y17 y18 y19 y20 y21) (vespersref15_Fold.l0 (k + 1) y0 y1 y2 y3 y4 y5 y6 y7 y8 y9 y10 y11 y12 y13 y14 y15 y16 y17 y18 y19 y20 y21))
 | 0=>fun _ _ _ _ _ _ _ _ _ _ _ _ _ _ _ _ _ _ _ _ _ _ r h=>by simp [vespersref15_Fold.l0] at h
 | k + 1=>by
  have ih0:=vespersref15_Fold.mono_l k
  ·intro y0 y1 y2 y3 y4 y5 y6 y7 y8 y9 y10 y11 y12 y13 y14 y15 y16 y17 y18 y19 y20 y21
   unfold vespersref15_Fold.l0
   repeat' first
   | (with_reducible exact ih0 _ _ _ _ _ _ _ _ _ _ _ _ _ _ _ _ _ _ _ _ _ _)
   | (with_reducible exact vespersref15_Turn.mono _ _ _ _ _ _ _ _ _ _ _ _ _ _ _ _ _ _ _ _ _ _)
   | (with_reducible exact LeO.refl _)
   | (with_reducible exact LeO.none _)
   | (with_reducible refine LeO.ite ?_ ?_)
   | (with_reducible refine LeO.bind ?_ (fun _=>?_))
   | exact ih0 _ _ _ _ _ _ _ _ _ _ _ _ _ _ _ _ _ _ _ _ _ _
   | exact vespersref15_Turn.mono _ _ _ _ _ _ _ _ _ _ _ _ _ _ _ _ _ _ _ _ _ _
   | exact LeO.none _
   | refine LeO.ite ?_ ?_
   | refine LeO.bind ?_ (fun _=>?_)
theorem vespersref15_Fold.mono : ∀ a0 a1 a2 a3 a4 a5 a6 a7 a8 a9 a10 a11 a12 a13 a14 a15 a16 k,LeO (vespersref15_Fold.f k a0 a1 a2 a3 a4 a5 a6 a7 a8 a9 a10 a11 a12 a13 a14 a15 a16) (vespersref15_Fold.f (k + 1) a0 a1 a2 a3 a4 a5 a6 a7 a8 a9 a10 a11 a12 a13 a14 a15 a16):=by
 intro a0 a1 a2 a3 a4 a5 a6 a7 a8 a9 a10 a11 a12 a13 a14 a15 a16 k
 have ih0:=vespersref15_Fold.mono_l k
 unfold vespersref15_Fold.f
 repeat' first
   | (with_reducible exact ih0 _ _ _ _ _ _ _ _ _ _ _ _ _ _ _ _ _ _ _ _ _ _)
   | (with_reducible exact vespersref15_Turn.mono _ _ _ _ _ _ _ _ _ _ _ _ _ _ _ _ _ _ _ _ _ _)
   | (with_reducible exact LeO.refl _)
   | (with_reducible exact LeO.none _)
   | (with_reducible refine LeO.ite ?_ ?_)
   | (with_reducible refine LeO.bind ?_ (fun _=>?_))
   | exact ih0 _ _ _ _ _ _ _ _ _ _ _ _ _ _ _ _ _ _ _ _ _ _
   | exact vespersref15_Turn.mono _ _ _ _ _ _ _ _ _ _ _ _ _ _ _ _ _ _ _ _ _ _
   | exact LeO.none _
   | refine LeO.ite ?_ ?_
   | refine LeO.bind ?_ (fun _=>?_)
def vespersref15_Fold.T5 : Bool × List (List Nat × List Nat):=(true,[([],[]),([],[]),([],[]),([],[]),([2,3],[2,3]),([4],[4]),([0,1,5],[0,1,5]),([6],[6]),([7],[7]),([7],[7]),([7],[7]),([],[]),([11,8,6,0,1,2,3,4,5,6,7,8,11],[8,11]),([9,12,0,1,2,3,4,5,6,7,8,9,11,12],[9]),([10,13,0,1,2,3,4,5,6,7,8,9,10,11,12,13],[10])])
def vespersref15_Fold.B5 : List Nat:=[0,0,0,0,12,28,63,127,255,255,255,0,2559,7167,16383]
theorem vespersref15_Fold.tab5 : rtab .any (opsOf Try.f12 5) = vespersref15_Fold.T5:=by kernel_rfl
theorem vespersref15_Fold.bits5 : waitsOk vespersref15_Fold.T5.2 vespersref15_Fold.B5 = true:=by kernel_rfl
set_option maxHeartbeats 8000000 in
set_option maxRecDepth 100000 in
theorem vespersref15_Fold.calls (k : Nat) (QF : Int) (QG : Int) (QH : Int) (QI : Int) (QJ : Int) (QK : Int) (QL : Int) (QM : Int) (QN : Int) (QO : Int) (Qw : Int) (Qx : Int) (Qy : Int) (Qz : Int) (QA : Int) (QB : Int) (A1 : Option Addr) (c1 : Nat) (l1 : List (List Int)) (r1 : Int) (r2 : Int) (r3 : Int) (r4 : Bool) (r5 : Int) (w : World) (hr1 : Kd.C (Kd.slice 2 (Kd.int .i64)) w A1 l1.length l1) (hc1 : l1.length ≤ c1) (h : vespersref15_Fold.f k QF QG QH QI QJ QK QL QM QN QO Qw Qx Qy Qz QA QB l1 = some (r1,r2,r3,r4,r5)) :
  Calls Try.prog 12 #[.agg #[.int .i64 QF,.int .i64 QG,.int .i64 QH,.int .i64 QI,.int .i64 QJ,.int .i64 QK,.int .i64 QL,.int .i64 QM,.int .i64 QN,.int .i64 QO,.int .i64 Qw,.int .i64 Qx,.int .i64 Qy,.int .i64 Qz,.int .i64 QA,.int .i64 QB],.slice A1 l1.length c1] w fun e w'=>e = .returned (.tuple #[.agg #[.int .i64 r1,.int .i64 r2,.int .i64 r3,.bool r4],.int .i64 r5])∧Below w.heap.size w w':=by
 have hu23:=Try.underlying23
 have hu25:=Try.underlying25
 have HR1:=Aside0.mk hr1
 have HC1:=Aside0.mk hc1
 clear hr1 hc1
 have HB:=Aside0.mk (Below.refl w.heap.size w)
 have H : (vespersref15_Fold.l0 k l1 0 QF QG QH QI QJ QK QL QM QN QO Qw Qx Qy Qz QA QB 0 0 0 false) = some (r1,r2,r3,r4,r5):=h
 clear h
 have H':=Aside0.mk H
 clear H
 go_enter Try.func12,Try.ntmps12
 go_wp2_with (first|((with_reducible refine gate_dst (N:=2) rfl ?_);refine box_event ?hg (N:=2) ?hd (cs:=#[.int .i64 QF,.int .i64 QG,.int .i64 QH,.int .i64 QI,.int .i64 QJ,.int .i64 QK,.int .i64 QL,.int .i64 QM,.int .i64 QN,.int .i64 QO,.int .i64 Qw,.int .i64 Qx,.int .i64 Qy,.int .i64 Qz,.int .i64 QA,.int .i64 QB]) (t:=23) ?hr ?_;(case hd=>rfl);(case hg=>rfl);(case hr=>first|(go_simp;done)|(go_simp;rfl));intro Qf hg w3 hbox hb;have n0_:=ks_ HB hb;have n1_:=Aside0.mk (hbox);have n2_:=Aside0.mk ((by rw [hg];exact (kz_ HB) : w.heap.size ≤ Qf));have n3_:=Aside0.mk ((by rw [hg];exact (kz_ HB) : w.heap.size ≤ Qf));clear HB;have HB:=n0_;have Qb:=n1_;have GW101:=n2_;have QY:=n3_;clear n0_ n1_ n2_ n3_;clear hb hbox hg)|((with_reducible refine gate_dst (N:=4) rfl ?_);refine box_event ?hg (N:=4) ?hd (cs:=#[.int .i64 0,.int .i64 0,.int .i64 0,.bool false]) (t:=25) ?hr ?_;(case hd=>rfl);(case hg=>rfl);(case hr=>first|(go_simp;done)|(go_simp;rfl));intro QD hg w4 hbox hb;have n0_:=kb_ Qb hb;have n1_:=ks_ HB hb;have n2_:=Aside0.mk (hbox);have n3_:=Aside0.mk ((by rw [hg];exact (kz_ HB) : w.heap.size ≤ QD));have n4_:=Aside0.mk ((by rw [hg];exact (kz_ HB) : w.heap.size ≤ QD));have n5_:=nl_ Qb hg;have n6_:=ng_ Qb hg;clear Qb;clear HB;have Qb:=n0_;have HB:=n1_;have Qg:=n2_;have GW102:=n3_;have QZ:=n4_;have Zc:=n5_;have Zd:=n6_;clear n0_ n1_ n2_ n3_ n4_ n5_ n6_;clear hb hbox hg)|((with_reducible refine gate_dst (N:=6) rfl ?_);refine box_event ?hg (N:=6) ?hd (cs:=#[.int .i64 0,.int .i64 0,.int .i64 0,.bool false]) (t:=25) ?hr ?_;(case hd=>rfl);(case hg=>rfl);(case hr=>first|(go_simp;done)|(go_simp;rfl));intro Qm hg w5 hbox hb;have n0_:=kb_ Qb hb;have n1_:=kb_ Qg hb;have n2_:=ks_ HB hb;have n3_:=Aside0.mk (hbox);have n4_:=Aside0.mk ((by rw [hg];exact (kz_ HB) : w.heap.size ≤ Qm));have n5_:=Aside0.mk ((by rw [hg];exact (kz_ HB) : w.heap.size ≤ Qm));have n6_:=nl_ Qb hg;have n7_:=ng_ Qb hg;have n8_:=nl_ Qg hg;have n9_:=ng_ Qg hg;clear Qb;clear Qg;clear HB;have Qb:=n0_;have Qg:=n1_;have HB:=n2_;have Qe:=n3_;have GW103:=n4_;have Za:=n5_;have Qv:=n6_;have QT:=n7_;have Qs:=n8_;have QU:=n9_;clear n0_ n1_ n2_ n3_ n4_ n5_ n6_ n7_ n8_ n9_;clear hb hbox hg;have hnb6:=QT.out;have hnc6:=Qv.out;have hnb7:=QU.out;have hnc7:=Qs.out;have hcz8_0 : w5.cell? ⟨Qm,0,none⟩ = some (.int .i64 0):=(blk_cell Qe.out 0).trans rfl;have hcz8_1 : w5.cell? ⟨Qm,1,none⟩ = some (.int .i64 0):=(blk_cell Qe.out 1).trans rfl;have hcz8_2 : w5.cell? ⟨Qm,2,none⟩ = some (.int .i64 0):=(blk_cell Qe.out 2).trans rfl;have hcz8_3 : w5.cell? ⟨Qm,3,none⟩ = some (.bool false):=(blk_cell Qe.out 3).trans rfl;have hfz8_0:=blk_frozen Qe.out 0;have hfz8_1:=blk_frozen Qe.out 1;have hfz8_2:=blk_frozen Qe.out 2;have hfz8_3:=blk_frozen Qe.out 3))
 go_loopg [7] k (fun kq v7 w'=>∃ (QE : Int) (QC : Int) (Qu : Int) (Qt : Int) (Qr : Bool) (Qh : Int) (Qi : Int) (Qj : Int) (Qk : Bool),v7 = .int .i64 QE∧Aside0 (vespersref15_Fold.l0 kq l1 QE QF QG QH QI QJ QK QL QM QN QO Qw Qx Qy Qz QA QB Qh Qi Qj Qk = some (r1,r2,r3,r4,r5))∧Aside0 (kq ≤ k)∧Aside0 (w'.heap[Qf]? = some (.cells #[.int .i64 QF,.int .i64 QG,.int .i64 QH,.int .i64 QI,.int .i64 QJ,.int .i64 QK,.int .i64 QL,.int .i64 QM,.int .i64 QN,.int .i64 QO,.int .i64 Qw,.int .i64 Qx,.int .i64 Qy,.int .i64 Qz,.int .i64 QA,.int .i64 QB] 23 (0,0)))∧Aside0 (w'.heap[QD]? = some (.cells #[.int .i64 QC,.int .i64 Qu,.int .i64 Qt,.bool Qr] 25 (0,0)))∧Aside0 (w'.heap[Qm]? = some (.cells #[.int .i64 Qh,.int .i64 Qi,.int .i64 Qj,.bool Qk] 25 (0,0)))∧Aside0 (Below w.heap.size w w'))
 case atStart=>exact ⟨(0),(0),(0),(0),(false),(0),(0),(0),(false),(by first|rfl|(simp;done)|(simp [*];done)),H',⟨Nat.le_refl _⟩,⟨by (with_reducible repeat (first|refine blk_drewN ?_ _|refine blk_drew ?_|refine blk_alloc ?_ _));refine blk_far ?_ Qv.out _;(with_reducible repeat (first|refine blk_drewN ?_ _|refine blk_drew ?_|refine blk_alloc ?_ _));refine blk_far ?_ Qv.out _;(with_reducible repeat (first|refine blk_drewN ?_ _|refine blk_drew ?_|refine blk_alloc ?_ _));refine blk_far ?_ Qv.out _;(with_reducible repeat (first|refine blk_drewN ?_ _|refine blk_drew ?_|refine blk_alloc ?_ _));refine blk_far ?_ Qv.out _;(with_reducible repeat (first|refine blk_drewN ?_ _|refine blk_drew ?_|refine blk_alloc ?_ _));exact Qb.out⟩,⟨by (with_reducible repeat (first|refine blk_drewN ?_ _|refine blk_drew ?_|refine blk_alloc ?_ _));refine blk_far ?_ Qs.out _;(with_reducible repeat (first|refine blk_drewN ?_ _|refine blk_drew ?_|refine blk_alloc ?_ _));refine blk_far ?_ Qs.out _;(with_reducible repeat (first|refine blk_drewN ?_ _|refine blk_drew ?_|refine blk_alloc ?_ _));refine blk_far ?_ Qs.out _;(with_reducible repeat (first|refine blk_drewN ?_ _|refine blk_drew ?_|refine blk_alloc ?_ _));refine blk_far ?_ Qs.out _;(with_reducible repeat (first|refine blk_drewN ?_ _|refine blk_drew ?_|refine blk_alloc ?_ _));exact Qg.out⟩,⟨by (with_reducible repeat (first|refine blk_drewN ?_ _|refine blk_drew ?_|refine blk_alloc ?_ _));refine blk_put (cs:=#[.int .i64 0,.int .i64 0,.int .i64 0,.bool false]) ?_ 3 _ rfl;(with_reducible repeat (first|refine blk_drewN ?_ _|refine blk_drew ?_|refine blk_alloc ?_ _));refine blk_put (cs:=#[.int .i64 0,.int .i64 0,.int .i64 0,.bool false]) ?_ 2 _ rfl;(with_reducible repeat (first|refine blk_drewN ?_ _|refine blk_drew ?_|refine blk_alloc ?_ _));refine blk_put (cs:=#[.int .i64 0,.int .i64 0,.int .i64 0,.bool false]) ?_ 1 _ rfl;(with_reducible repeat (first|refine blk_drewN ?_ _|refine blk_drew ?_|refine blk_alloc ?_ _));refine blk_put (cs:=#[.int .i64 0,.int .i64 0,.int .i64 0,.bool false]) ?_ 0 _ rfl;(with_reducible repeat (first|refine blk_drewN ?_ _|refine blk_drew ?_|refine blk_alloc ?_ _));exact Qe.out⟩,⟨by repeat (first|(with_reducible first|exact HB.out|apply below_alloc|apply pw_below_drewN|apply below_drew1|refine below_set ?_ QY.out|refine below_set ?_ QZ.out|refine below_set ?_ Za.out)|exact HB.out)⟩⟩
 case round =>
  clear H'
  try clear c1
  try clear p2
  try clear c6
  try clear c7
  try clear hcz8_0
  try clear hcz8_1
  try clear hcz8_2
  try clear hcz8_3
  try clear hfz8_0
  try clear hfz8_1
  try clear hfz8_2
  try clear hfz8_3
  obtain ⟨QE,QC,Qu,Qt,Qr,Qh,Qi,Qj,Qk,rfl,HA,HK1,Qb,Qg,Qe,HB⟩:=hrel
  cases gk with
  | zero=>exact absurd HA.out (by simp [vespersref15_Fold.l0])
  | succ k1 =>
   have H:=HA.out
   clear HA
   simp only [vespersref15_Fold.l0] at H
   by_cases c9 : QE < (l1.length : Int)
   ·rw [if_pos c9] at H
    have c9b0 : decide (QE < (l1.length : Int)) = true:=decide_eq_true c9
    clear c9
    by_cases c10 : 0 ≤ QE
    ·rw [if_pos c10] at H
     have c10b0 : decide (0 ≤ QE) = true:=decide_eq_true c10
     clear c10
     replace H:=Option.bind_eq_some_iff.mp H
     obtain ⟨⟨QQ,QR,QV,QX,Zb,QS⟩,A110,H⟩:=H
     replace H : (if QS = 0 then (vespersref15_Fold.l0 k1 l1 (wrap64 (QE + 1)) QF QG QH QI QJ QK QL QM QN QO Qw Qx Qy Qz QA QB QQ QR QV QX) else (some (QQ,QR,QV,QX,QS))) = some (r1,r2,r3,r4,r5):=H
     have A11:=Aside0.mk A110
     clear A110
     by_cases c12 : QS = 0
     ·rw [if_pos c12] at H
      have c12b0 : (QS == 0) = true:=beq_iff_eq.mpr c12
      have c12b1 : (QS != 0) = false:=bne_eq_false_iff_eq.mpr c12
      clear c12
      have H':=Aside0.mk H
      clear H
      try go_wp2
      have n0_:=Aside0.mk (blk_drew Qb.out)
      have n1_:=Aside0.mk (blk_drew Qg.out)
      have n2_:=Aside0.mk (blk_drew Qe.out)
      have n3_:=Aside0.mk (below_drew1 HB.out)
      clear Qb
      clear Qg
      clear Qe
      clear HB
      have Qb:=n0_
      have Qg:=n1_
      have Qe:=n2_
      have HB:=n3_
      clear n0_ n1_ n2_ n3_
      have p104 : 0 ≤ (QE : Int):=of_decide_eq_true (by first|(with_reducible assumption)|assumption)
      have q104 : QE < (l1.length : Int):=of_decide_eq_true (by first|(with_reducible assumption)|assumption)
      obtain ⟨ad104,A104_0,c104_0,e104,hx104_0,hl104_0,hi104_0⟩:=at_L2 HR1.out QE p104 q104
      have hw104_0:=hx104_0
      cases e104
      replace hx104_0:=(HB.out.cell (World.block_lt_of_cell? w _ hx104_0)).trans hx104_0
      have HR104_0:=Aside0.mk hi104_0
      have HC104_0:=Aside0.mk hl104_0
      clear hi104_0 hl104_0
      replace p104:=eq_true p104
      replace q104:=eq_true q104
      refine start_ (n:=15) (S:=fun w'=>w'.cell? ⟨Qf,0,none⟩ = some (.int .i64 QF)∧w'.cell? ⟨Qf,1,none⟩ = some (.int .i64 QG)∧w'.cell? ⟨Qf,2,none⟩ = some (.int .i64 QH)∧w'.cell? ⟨Qf,3,none⟩ = some (.int .i64 QI)∧w'.cell? ⟨Qf,4,none⟩ = some (.int .i64 QJ)∧w'.cell? ⟨Qf,5,none⟩ = some (.int .i64 QK)∧w'.cell? ⟨Qf,6,none⟩ = some (.int .i64 QL)∧w'.cell? ⟨Qf,7,none⟩ = some (.int .i64 QM)∧w'.cell? ⟨Qf,8,none⟩ = some (.int .i64 QN)∧w'.cell? ⟨Qf,9,none⟩ = some (.int .i64 QO)∧w'.cell? ⟨Qf,10,none⟩ = some (.int .i64 Qw)∧w'.cell? ⟨Qf,11,none⟩ = some (.int .i64 Qx)∧w'.cell? ⟨Qf,12,none⟩ = some (.int .i64 Qy)∧w'.cell? ⟨Qf,13,none⟩ = some (.int .i64 Qz)∧w'.cell? ⟨Qf,14,none⟩ = some (.int .i64 QA)∧w'.cell? ⟨Qf,15,none⟩ = some (.int .i64 QB)∧w'.cell? ⟨Qm,0,none⟩ = some (.int .i64 Qh)∧w'.cell? ⟨Qm,1,none⟩ = some (.int .i64 Qi)∧w'.cell? ⟨Qm,2,none⟩ = some (.int .i64 Qj)∧w'.cell? ⟨Qm,3,none⟩ = some (.bool Qk)∧w'.cell? (ad104.add (QE).toNat) = some (.slice A104_0 (rd_L2 l1 QE).length c104_0)) (ds:=[]) #[false,false,false,false,false,false,false,false,false,false,false,false,false,false,false] (by kernel_rfl) rfl rfl ⟨(blk_cell Qb.out 0).trans rfl,(blk_cell Qb.out 1).trans rfl,(blk_cell Qb.out 2).trans rfl,(blk_cell Qb.out 3).trans rfl,(blk_cell Qb.out 4).trans rfl,(blk_cell Qb.out 5).trans rfl,(blk_cell Qb.out 6).trans rfl,(blk_cell Qb.out 7).trans rfl,(blk_cell Qb.out 8).trans rfl,(blk_cell Qb.out 9).trans rfl,(blk_cell Qb.out 10).trans rfl,(blk_cell Qb.out 11).trans rfl,(blk_cell Qb.out 12).trans rfl,(blk_cell Qb.out 13).trans rfl,(blk_cell Qb.out 14).trans rfl,(blk_cell Qb.out 15).trans rfl,(blk_cell Qe.out 0).trans rfl,(blk_cell Qe.out 1).trans rfl,(blk_cell Qe.out 2).trans rfl,(blk_cell Qe.out 3).trans rfl,((HB.out.cell (World.block_lt_of_cell? w _ hw104_0)).trans hw104_0)⟩ (fun hHeld=>?_);refine with_tabW vespersref15_Fold.tab5 vespersref15_Fold.bits5 (fun HT_ HW_=>?_)
      generalize wr.drew = w13 at Qb Qg Qe HB HR104_0 hx104_0 hHeld ⊢
      refine pure_ (i:=2) (N:=some 21) (v:=?_) (a':=?_) #[false,false,true,false,false,false,false,false,false,false,false,false,false,false,false] rfl rfl (any_of HT_.out (by kernel_rfl)) (fun _ _ _ h=>h) (Or.inl ⟨by rfl,?_⟩) ?_ ?_
      rotate_left
      ·intro w'
       go_simp
       with_reducible rfl
      rotate_left
      ·simp only [Act.put,List.setIfInBounds_toArray,List.set_cons_zero,List.set_cons_succ,i64_w,i32_w]
       rfl
      refine pure_ (i:=3) (N:=some 22) (v:=?_) (a':=?_) #[false,false,true,true,false,false,false,false,false,false,false,false,false,false,false] rfl rfl (any_of HT_.out (by kernel_rfl)) (fun _ _ _ h=>h) (Or.inl ⟨by rfl,?_⟩) ?_ ?_
      rotate_left
      ·intro w'
       go_simp
       with_reducible rfl
      rotate_left
      ·simp only [Act.put,List.setIfInBounds_toArray,List.set_cons_zero,List.set_cons_succ,i64_w,i32_w]
       rfl
      refine pure_ (i:=4) (N:=some 23) (v:=?_) (a':=?_) #[false,false,true,true,true,false,false,false,false,false,false,false,false,false,false] rfl rfl (any_of HT_.out (by kernel_rfl)) (fun _ _ _ h=>h) (Or.inl ⟨by rfl,?_⟩) ?_ ?_
      rotate_left
      ·intro w'
       go_simp
       with_reducible rfl
      rotate_left
      ·simp only [Act.put,List.setIfInBounds_toArray,List.set_cons_zero,List.set_cons_succ,i64_w,i32_w]
       rfl
      refine take_ (i:=0) (N:=some 19) (v:=?_) (a':=?_) #[true,false,true,true,true,false,false,false,false,false,false,false,false,false,false] rfl rfl (take_ofW HT_.out HW_.out (by kernel_rfl)) (fun _ _ _ h=>h) (Or.inl ⟨by rfl,?_⟩) hHeld ?_ ?_
      rotate_left
      ·rintro w' ⟨s0,s1,s2,s3,s4,s5,s6,s7,s8,s9,s10,s11,s12,s13,s14,s15,s16,s17,s18,s19,s20⟩
       go_simp
       with_reducible rfl
      rotate_left
      ·simp only [Act.put,List.setIfInBounds_toArray,List.set_cons_zero,List.set_cons_succ,i64_w,i32_w]
       rfl
      refine take_ (i:=1) (N:=some 20) (v:=?_) (a':=?_) #[true,true,true,true,true,false,false,false,false,false,false,false,false,false,false] rfl rfl (take_ofW HT_.out HW_.out (by kernel_rfl)) (fun _ _ _ h=>h) (Or.inl ⟨by rfl,?_⟩) hHeld ?_ ?_
      rotate_left
      ·rintro w' ⟨s0,s1,s2,s3,s4,s5,s6,s7,s8,s9,s10,s11,s12,s13,s14,s15,s16,s17,s18,s19,s20⟩
       go_simp
       with_reducible rfl
      rotate_left
      ·simp only [Act.put,List.setIfInBounds_toArray,List.set_cons_zero,List.set_cons_succ,i64_w,i32_w]
       rfl
      refine take_ (i:=5) (N:=some 24) (v:=?_) (a':=?_) #[true,true,true,true,true,true,false,false,false,false,false,false,false,false,false] rfl rfl (take_ofW HT_.out HW_.out (by kernel_rfl)) (fun _ _ _ h=>h) (Or.inl ⟨by rfl,?_⟩) hHeld ?_ ?_
      rotate_left
      ·rintro w' ⟨s0,s1,s2,s3,s4,s5,s6,s7,s8,s9,s10,s11,s12,s13,s14,s15,s16,s17,s18,s19,s20⟩
       go_simp
       with_reducible rfl
      rotate_left
      ·simp only [Act.put,List.setIfInBounds_toArray,List.set_cons_zero,List.set_cons_succ,i64_w,i32_w]
       rfl
      refine join_ (σ:=Nat) 3 #[true,true,true,true,true,true,true,true,true,true,true,true,false,false,false] (fun s_=>[(25,.tuple #[.agg #[.int .i64 QQ,.int .i64 QR,.int .i64 QV,.bool QX],.int .i64 Zb,.int .i64 QS]),(8,.pointer (some ⟨s_,0,none⟩)),(18,.tuple #[.agg #[.int .i64 QQ,.int .i64 QR,.int .i64 QV,.bool QX],.int .i64 Zb,.int .i64 QS]),(26,.agg #[.int .i64 QQ,.int .i64 QR,.int .i64 QV,.bool QX]),(27,.int .i64 Zb),(28,.int .i64 QS)]) (fun s_ w'=>(w'.cell? ⟨Qf,0,none⟩ = some (.int .i64 QF)∧w'.cell? ⟨Qf,1,none⟩ = some (.int .i64 QG)∧w'.cell? ⟨Qf,2,none⟩ = some (.int .i64 QH)∧w'.cell? ⟨Qf,3,none⟩ = some (.int .i64 QI)∧w'.cell? ⟨Qf,4,none⟩ = some (.int .i64 QJ)∧w'.cell? ⟨Qf,5,none⟩ = some (.int .i64 QK)∧w'.cell? ⟨Qf,6,none⟩ = some (.int .i64 QL)∧w'.cell? ⟨Qf,7,none⟩ = some (.int .i64 QM)∧w'.cell? ⟨Qf,8,none⟩ = some (.int .i64 QN)∧w'.cell? ⟨Qf,9,none⟩ = some (.int .i64 QO)∧w'.cell? ⟨Qf,10,none⟩ = some (.int .i64 Qw)∧w'.cell? ⟨Qf,11,none⟩ = some (.int .i64 Qx)∧w'.cell? ⟨Qf,12,none⟩ = some (.int .i64 Qy)∧w'.cell? ⟨Qf,13,none⟩ = some (.int .i64 Qz)∧w'.cell? ⟨Qf,14,none⟩ = some (.int .i64 QA)∧w'.cell? ⟨Qf,15,none⟩ = some (.int .i64 QB)∧w'.cell? ⟨Qm,0,none⟩ = some (.int .i64 Qh)∧w'.cell? ⟨Qm,1,none⟩ = some (.int .i64 Qi)∧w'.cell? ⟨Qm,2,none⟩ = some (.int .i64 Qj)∧w'.cell? ⟨Qm,3,none⟩ = some (.bool Qk)∧w'.cell? (ad104.add (QE).toNat) = some (.slice A104_0 (rd_L2 l1 QE).length c104_0))∧(w'.heap[Qf]? = some (.cells #[.int .i64 QF,.int .i64 QG,.int .i64 QH,.int .i64 QI,.int .i64 QJ,.int .i64 QK,.int .i64 QL,.int .i64 QM,.int .i64 QN,.int .i64 QO,.int .i64 Qw,.int .i64 Qx,.int .i64 Qy,.int .i64 Qz,.int .i64 QA,.int .i64 QB] 23 (0,0)))∧(w'.heap[QD]? = some (.cells #[.int .i64 QC,.int .i64 Qu,.int .i64 Qt,.bool Qr] 25 (0,0)))∧(w'.heap[Qm]? = some (.cells #[.int .i64 Qh,.int .i64 Qi,.int .i64 Qj,.bool Qk] 25 (0,0)))∧(w'.heap[s_]? = some (.cells #[.int .i64 0,.int .i64 0,.int .i64 0,.bool false] 25 (0,0)))∧(w.heap.size ≤ s_)∧(w.heap.size ≤ s_)∧(Qf ≠ s_)∧(s_ ≠ Qf)∧(QD ≠ s_)∧(s_ ≠ QD)∧(Qm ≠ s_)∧(s_ ≠ Qm)∧(Below w.heap.size w w')) ?_ ?_
      rotate_left
      ·intro hCont
       refine two_ (i:=6) (j:=11) (Ni:=some 25) (Nj:=some 8) #[true,true,true,true,true,true,true,false,false,false,false,false,false,false,false] #[true,true,true,true,true,true,false,false,false,false,false,true,false,false,false] rfl rfl rfl rfl (two_of HT_.out (by kernel_rfl)) (by decide) (by decide) (fun K hK=>?_) (fun K hK=>?_)
       ·skip
        refine goes_ Try.func10 (by kernel_rfl) rfl #[.agg #[.int .i64 QF,.int .i64 QG,.int .i64 QH,.int .i64 QI,.int .i64 QJ,.int .i64 QK,.int .i64 QL,.int .i64 QM,.int .i64 QN,.int .i64 QO,.int .i64 Qw,.int .i64 Qx,.int .i64 Qy,.int .i64 Qz,.int .i64 QA,.int .i64 QB],.agg #[.int .i64 Qh,.int .i64 Qi,.int .i64 Qj,.bool Qk],.slice A104_0 (rd_L2 l1 QE).length c104_0] (by rfl) rfl rfl (by (try simp only [List.map_toArray,List.map_cons,List.map_nil]);first|done|rfl|(simp only [List.length_drop,List.length_take];rfl)) ?_
        with_reducible refine (vespersref15_Turn.calls k1 QF QG QH QI QJ QK QL QM QN QO Qw Qx Qy Qz QA QB Qh Qi Qj Qk _ _ (rd_L2 l1 QE) QQ QR QV QX Zb QS _ ?side1 ?side2 A11.out).mono ?_
        (case side1=>repeat (first|exact (Kd.C_below HR104_0.out HB.out)|(with_reducible refine Kd.C_alloc ?_ _)|(with_reducible refine Kd.C_drewN ?_ _)|(with_reducible refine Kd.C_drew ?_)))
        (case side2=>exact HC104_0.out)
        rintro e w14 ⟨rfl,hb⟩
        refine ⟨_,rfl,?_⟩
        have n0_:=kb_ Qb hb
        have n1_:=kb_ Qg hb
        have n2_:=kb_ Qe hb
        have n3_:=ks_ HB hb
        clear Qb
        clear Qg
        clear Qe
        clear HB
        have Qb:=n0_
        have Qg:=n1_
        have Qe:=n2_
        have HB:=n3_
        clear n0_ n1_ n2_ n3_
        (try clear hb)
        (try clear hb2)
        (try clear hk)
        (try clear hi)
        refine hK.out _ _ ⟨(blk_cell Qb.out 0).trans rfl,(blk_cell Qb.out 1).trans rfl,(blk_cell Qb.out 2).trans rfl,(blk_cell Qb.out 3).trans rfl,(blk_cell Qb.out 4).trans rfl,(blk_cell Qb.out 5).trans rfl,(blk_cell Qb.out 6).trans rfl,(blk_cell Qb.out 7).trans rfl,(blk_cell Qb.out 8).trans rfl,(blk_cell Qb.out 9).trans rfl,(blk_cell Qb.out 10).trans rfl,(blk_cell Qb.out 11).trans rfl,(blk_cell Qb.out 12).trans rfl,(blk_cell Qb.out 13).trans rfl,(blk_cell Qb.out 14).trans rfl,(blk_cell Qb.out 15).trans rfl,(blk_cell Qe.out 0).trans rfl,(blk_cell Qe.out 1).trans rfl,(blk_cell Qe.out 2).trans rfl,(blk_cell Qe.out 3).trans rfl,((HB.out.cell (World.block_lt_of_cell? w _ hw104_0)).trans hw104_0)⟩ (fun hHeld=>?_)
        clear hK K
        refine norm_ (a':=?_) ?_ ?_
        rotate_left
        ·show Act.put _ (some 25) _ = _
         simp only [Act.put,List.setIfInBounds_toArray,List.set_cons_zero,List.set_cons_succ,i64_w,i32_w]
         rfl
        refine pure_ (i:=7) (N:=some 18) (v:=?_) (a':=?_) #[true,true,true,true,true,true,true,true,false,false,false,false,false,false,false] rfl rfl (any_of HT_.out (by kernel_rfl)) (fun _ _ _ h=>h) (Or.inl ⟨by rfl,?_⟩) ?_ ?_
        rotate_left
        ·intro w'
         go_simp
         with_reducible rfl
        rotate_left
        ·simp only [Act.put,List.setIfInBounds_toArray,List.set_cons_zero,List.set_cons_succ,i64_w,i32_w]
         rfl
        refine pure_ (i:=8) (N:=some 26) (v:=?_) (a':=?_) #[true,true,true,true,true,true,true,true,true,false,false,false,false,false,false] rfl rfl (any_of HT_.out (by kernel_rfl)) (fun _ _ _ h=>h) (Or.inl ⟨by rfl,?_⟩) ?_ ?_
        rotate_left
        ·intro w'
         go_simp
         with_reducible rfl
        rotate_left
        ·simp only [Act.put,List.setIfInBounds_toArray,List.set_cons_zero,List.set_cons_succ,i64_w,i32_w]
         rfl
        refine pure_ (i:=9) (N:=some 27) (v:=?_) (a':=?_) #[true,true,true,true,true,true,true,true,true,true,false,false,false,false,false] rfl rfl (any_of HT_.out (by kernel_rfl)) (fun _ _ _ h=>h) (Or.inl ⟨by rfl,?_⟩) ?_ ?_
        rotate_left
        ·intro w'
         go_simp
         with_reducible rfl
        rotate_left
        ·simp only [Act.put,List.setIfInBounds_toArray,List.set_cons_zero,List.set_cons_succ,i64_w,i32_w]
         rfl
        refine pure_ (i:=10) (N:=some 28) (v:=?_) (a':=?_) #[true,true,true,true,true,true,true,true,true,true,true,false,false,false,false] rfl rfl (any_of HT_.out (by kernel_rfl)) (fun _ _ _ h=>h) (Or.inl ⟨by rfl,?_⟩) ?_ ?_
        rotate_left
        ·intro w'
         go_simp
         with_reducible rfl
        rotate_left
        ·simp only [Act.put,List.setIfInBounds_toArray,List.set_cons_zero,List.set_cons_succ,i64_w,i32_w]
         rfl
        refine one_ (i:=11) (N:=some 8) #[true,true,true,true,true,true,true,true,true,true,true,true,false,false,false] rfl rfl (one_of HT_.out (by kernel_rfl)) (by decide) (fun K hK=>?_)
        refine box_step ?hg (N:=8) ?hd (cs:=#[.int .i64 0,.int .i64 0,.int .i64 0,.bool false]) (t:=25) ?hr ?_;(case hd=>rfl);(case hg=>rfl);(case hr=>first|(go_simp;done)|(go_simp;rfl))
        intro Qc hg w15 hbox hb
        have n0_:=kb_ Qb hb
        have n1_:=kb_ Qg hb
        have n2_:=kb_ Qe hb
        have n3_:=ks_ HB hb
        have n4_:=Aside0.mk (hbox)
        have n5_:=Aside0.mk ((by rw [hg];exact (kz_ HB) : w.heap.size ≤ Qc))
        have n6_:=Aside0.mk ((by rw [hg];exact (kz_ HB) : w.heap.size ≤ Qc))
        have n7_:=nl_ Qb hg
        have n8_:=ng_ Qb hg
        have n9_:=nl_ Qg hg
        have n10_:=ng_ Qg hg
        have n11_:=nl_ Qe hg
        have n12_:=ng_ Qe hg
        clear Qb
        clear Qg
        clear Qe
        clear HB
        have Qb:=n0_
        have Qg:=n1_
        have Qe:=n2_
        have HB:=n3_
        have Qn:=n4_
        have GW111:=n5_
        have QP:=n6_
        have Qa:=n7_
        have Qo:=n8_
        have Ql:=n9_
        have Qp:=n10_
        have Qd:=n11_
        have Qq:=n12_
        clear n0_ n1_ n2_ n3_ n4_ n5_ n6_ n7_ n8_ n9_ n10_ n11_ n12_
        clear hb hbox hg
        refine hK.out _ _ ⟨(blk_cell Qb.out 0).trans rfl,(blk_cell Qb.out 1).trans rfl,(blk_cell Qb.out 2).trans rfl,(blk_cell Qb.out 3).trans rfl,(blk_cell Qb.out 4).trans rfl,(blk_cell Qb.out 5).trans rfl,(blk_cell Qb.out 6).trans rfl,(blk_cell Qb.out 7).trans rfl,(blk_cell Qb.out 8).trans rfl,(blk_cell Qb.out 9).trans rfl,(blk_cell Qb.out 10).trans rfl,(blk_cell Qb.out 11).trans rfl,(blk_cell Qb.out 12).trans rfl,(blk_cell Qb.out 13).trans rfl,(blk_cell Qb.out 14).trans rfl,(blk_cell Qb.out 15).trans rfl,(blk_cell Qe.out 0).trans rfl,(blk_cell Qe.out 1).trans rfl,(blk_cell Qe.out 2).trans rfl,(blk_cell Qe.out 3).trans rfl,((HB.out.cell (World.block_lt_of_cell? w _ hw104_0)).trans hw104_0)⟩ (fun hHeld=>?_)
        clear hK K
        refine norm_ (a':=?_) ?_ ?_
        rotate_left
        ·show Act.put _ (some 8) _ = _
         simp only [Act.put,List.setIfInBounds_toArray,List.set_cons_zero,List.set_cons_succ,i64_w,i32_w]
         rfl
        exact norm_ (by simp only [putAll,Act.put,List.setIfInBounds_toArray,List.set_cons_zero,List.set_cons_succ]) (hCont (Qc) _ ⟨hHeld,(by (with_reducible repeat (first|refine blk_drewN ?_ _|refine blk_drew ?_|refine blk_alloc ?_ _));exact Qb.out),(by (with_reducible repeat (first|refine blk_drewN ?_ _|refine blk_drew ?_|refine blk_alloc ?_ _));exact Qg.out),(by (with_reducible repeat (first|refine blk_drewN ?_ _|refine blk_drew ?_|refine blk_alloc ?_ _));exact Qe.out),(by (with_reducible repeat (first|refine blk_drewN ?_ _|refine blk_drew ?_|refine blk_alloc ?_ _));exact Qn.out),GW111.out,QP.out,Qa.out,Qo.out,Ql.out,Qp.out,Qd.out,Qq.out,(by repeat (first|(with_reducible first|exact HB.out|apply below_alloc|apply pw_below_drewN|apply below_drew1|refine below_set ?_ QY.out|refine below_set ?_ QZ.out|refine below_set ?_ Za.out|refine below_set ?_ QP.out)|exact HB.out))⟩)
       ·skip
        refine box_step ?hg (N:=8) ?hd (cs:=#[.int .i64 0,.int .i64 0,.int .i64 0,.bool false]) (t:=25) ?hr ?_;(case hd=>rfl);(case hg=>rfl);(case hr=>first|(go_simp;done)|(go_simp;rfl))
        intro Qc hg w14 hbox hb
        have n0_:=kb_ Qb hb
        have n1_:=kb_ Qg hb
        have n2_:=kb_ Qe hb
        have n3_:=ks_ HB hb
        have n4_:=Aside0.mk (hbox)
        have n5_:=Aside0.mk ((by rw [hg];exact (kz_ HB) : w.heap.size ≤ Qc))
        have n6_:=Aside0.mk ((by rw [hg];exact (kz_ HB) : w.heap.size ≤ Qc))
        have n7_:=nl_ Qb hg
        have n8_:=ng_ Qb hg
        have n9_:=nl_ Qg hg
        have n10_:=ng_ Qg hg
        have n11_:=nl_ Qe hg
        have n12_:=ng_ Qe hg
        clear Qb
        clear Qg
        clear Qe
        clear HB
        have Qb:=n0_
        have Qg:=n1_
        have Qe:=n2_
        have HB:=n3_
        have Qn:=n4_
        have GW111:=n5_
        have QP:=n6_
        have Qa:=n7_
        have Qo:=n8_
        have Ql:=n9_
        have Qp:=n10_
        have Qd:=n11_
        have Qq:=n12_
        clear n0_ n1_ n2_ n3_ n4_ n5_ n6_ n7_ n8_ n9_ n10_ n11_ n12_
        clear hb hbox hg
        refine hK.out _ _ ⟨(blk_cell Qb.out 0).trans rfl,(blk_cell Qb.out 1).trans rfl,(blk_cell Qb.out 2).trans rfl,(blk_cell Qb.out 3).trans rfl,(blk_cell Qb.out 4).trans rfl,(blk_cell Qb.out 5).trans rfl,(blk_cell Qb.out 6).trans rfl,(blk_cell Qb.out 7).trans rfl,(blk_cell Qb.out 8).trans rfl,(blk_cell Qb.out 9).trans rfl,(blk_cell Qb.out 10).trans rfl,(blk_cell Qb.out 11).trans rfl,(blk_cell Qb.out 12).trans rfl,(blk_cell Qb.out 13).trans rfl,(blk_cell Qb.out 14).trans rfl,(blk_cell Qb.out 15).trans rfl,(blk_cell Qe.out 0).trans rfl,(blk_cell Qe.out 1).trans rfl,(blk_cell Qe.out 2).trans rfl,(blk_cell Qe.out 3).trans rfl,((HB.out.cell (World.block_lt_of_cell? w _ hw104_0)).trans hw104_0)⟩ (fun hHeld=>?_)
        clear hK K
        refine norm_ (a':=?_) ?_ ?_
        rotate_left
        ·show Act.put _ (some 8) _ = _
         simp only [Act.put,List.setIfInBounds_toArray,List.set_cons_zero,List.set_cons_succ,i64_w,i32_w]
         rfl
        refine one_ (i:=6) (N:=some 25) #[true,true,true,true,true,true,true,false,false,false,false,true,false,false,false] rfl rfl (one_of HT_.out (by kernel_rfl)) (by decide) (fun K hK=>?_)
        refine goes_ Try.func10 (by kernel_rfl) rfl #[.agg #[.int .i64 QF,.int .i64 QG,.int .i64 QH,.int .i64 QI,.int .i64 QJ,.int .i64 QK,.int .i64 QL,.int .i64 QM,.int .i64 QN,.int .i64 QO,.int .i64 Qw,.int .i64 Qx,.int .i64 Qy,.int .i64 Qz,.int .i64 QA,.int .i64 QB],.agg #[.int .i64 Qh,.int .i64 Qi,.int .i64 Qj,.bool Qk],.slice A104_0 (rd_L2 l1 QE).length c104_0] (by rfl) rfl rfl (by (try simp only [List.map_toArray,List.map_cons,List.map_nil]);first|done|rfl|(simp only [List.length_drop,List.length_take];rfl)) ?_
        with_reducible refine (vespersref15_Turn.calls k1 QF QG QH QI QJ QK QL QM QN QO Qw Qx Qy Qz QA QB Qh Qi Qj Qk _ _ (rd_L2 l1 QE) QQ QR QV QX Zb QS _ ?side1 ?side2 A11.out).mono ?_
        (case side1=>repeat (first|exact (Kd.C_below HR104_0.out HB.out)|(with_reducible refine Kd.C_alloc ?_ _)|(with_reducible refine Kd.C_drewN ?_ _)|(with_reducible refine Kd.C_drew ?_)))
        (case side2=>exact HC104_0.out)
        rintro e w15 ⟨rfl,hb⟩
        refine ⟨_,rfl,?_⟩
        have n0_:=kb_ Qb hb
        have n1_:=kb_ Qg hb
        have n2_:=kb_ Qe hb
        have n3_:=kb_ Qn hb
        have n4_:=ks_ HB hb
        clear Qb
        clear Qg
        clear Qe
        clear Qn
        clear HB
        have Qb:=n0_
        have Qg:=n1_
        have Qe:=n2_
        have Qn:=n3_
        have HB:=n4_
        clear n0_ n1_ n2_ n3_ n4_
        (try clear hb)
        (try clear hb2)
        (try clear hk)
        (try clear hi)
        refine hK.out _ _ ⟨(blk_cell Qb.out 0).trans rfl,(blk_cell Qb.out 1).trans rfl,(blk_cell Qb.out 2).trans rfl,(blk_cell Qb.out 3).trans rfl,(blk_cell Qb.out 4).trans rfl,(blk_cell Qb.out 5).trans rfl,(blk_cell Qb.out 6).trans rfl,(blk_cell Qb.out 7).trans rfl,(blk_cell Qb.out 8).trans rfl,(blk_cell Qb.out 9).trans rfl,(blk_cell Qb.out 10).trans rfl,(blk_cell Qb.out 11).trans rfl,(blk_cell Qb.out 12).trans rfl,(blk_cell Qb.out 13).trans rfl,(blk_cell Qb.out 14).trans rfl,(blk_cell Qb.out 15).trans rfl,(blk_cell Qe.out 0).trans rfl,(blk_cell Qe.out 1).trans rfl,(blk_cell Qe.out 2).trans rfl,(blk_cell Qe.out 3).trans rfl,((HB.out.cell (World.block_lt_of_cell? w _ hw104_0)).trans hw104_0)⟩ (fun hHeld=>?_)
        clear hK K
        refine norm_ (a':=?_) ?_ ?_
        rotate_left
        ·show Act.put _ (some 25) _ = _
         simp only [Act.put,List.setIfInBounds_toArray,List.set_cons_zero,List.set_cons_succ,i64_w,i32_w]
         rfl
        refine pure_ (i:=7) (N:=some 18) (v:=?_) (a':=?_) #[true,true,true,true,true,true,true,true,false,false,false,true,false,false,false] rfl rfl (any_of HT_.out (by kernel_rfl)) (fun _ _ _ h=>h) (Or.inl ⟨by rfl,?_⟩) ?_ ?_
        rotate_left
        ·intro w'
         go_simp
         with_reducible rfl
        rotate_left
        ·simp only [Act.put,List.setIfInBounds_toArray,List.set_cons_zero,List.set_cons_succ,i64_w,i32_w]
         rfl
        refine pure_ (i:=8) (N:=some 26) (v:=?_) (a':=?_) #[true,true,true,true,true,true,true,true,true,false,false,true,false,false,false] rfl rfl (any_of HT_.out (by kernel_rfl)) (fun _ _ _ h=>h) (Or.inl ⟨by rfl,?_⟩) ?_ ?_
        rotate_left
        ·intro w'
         go_simp
         with_reducible rfl
        rotate_left
        ·simp only [Act.put,List.setIfInBounds_toArray,List.set_cons_zero,List.set_cons_succ,i64_w,i32_w]
         rfl
        refine pure_ (i:=9) (N:=some 27) (v:=?_) (a':=?_) #[true,true,true,true,true,true,true,true,true,true,false,true,false,false,false] rfl rfl (any_of HT_.out (by kernel_rfl)) (fun _ _ _ h=>h) (Or.inl ⟨by rfl,?_⟩) ?_ ?_
        rotate_left
        ·intro w'
         go_simp
         with_reducible rfl
        rotate_left
        ·simp only [Act.put,List.setIfInBounds_toArray,List.set_cons_zero,List.set_cons_succ,i64_w,i32_w]
         rfl
        refine pure_ (i:=10) (N:=some 28) (v:=?_) (a':=?_) #[true,true,true,true,true,true,true,true,true,true,true,true,false,false,false] rfl rfl (any_of HT_.out (by kernel_rfl)) (fun _ _ _ h=>h) (Or.inl ⟨by rfl,?_⟩) ?_ ?_
        rotate_left
        ·intro w'
         go_simp
         with_reducible rfl
        rotate_left
        ·simp only [Act.put,List.setIfInBounds_toArray,List.set_cons_zero,List.set_cons_succ,i64_w,i32_w]
         rfl
        exact norm_ (by simp only [putAll,Act.put,List.setIfInBounds_toArray,List.set_cons_zero,List.set_cons_succ]) (hCont (Qc) _ ⟨hHeld,(by (with_reducible repeat (first|refine blk_drewN ?_ _|refine blk_drew ?_|refine blk_alloc ?_ _));exact Qb.out),(by (with_reducible repeat (first|refine blk_drewN ?_ _|refine blk_drew ?_|refine blk_alloc ?_ _));exact Qg.out),(by (with_reducible repeat (first|refine blk_drewN ?_ _|refine blk_drew ?_|refine blk_alloc ?_ _));exact Qe.out),(by (with_reducible repeat (first|refine blk_drewN ?_ _|refine blk_drew ?_|refine blk_alloc ?_ _));exact Qn.out),GW111.out,QP.out,Qa.out,Qo.out,Ql.out,Qp.out,Qd.out,Qq.out,(by repeat (first|(with_reducible first|exact HB.out|apply below_alloc|apply pw_below_drewN|apply below_drew1|refine below_set ?_ QY.out|refine below_set ?_ QZ.out|refine below_set ?_ Za.out|refine below_set ?_ QP.out)|exact HB.out))⟩)
      rintro Qc w16 ⟨hS_,h0_,h1_,h2_,h3_,h4_,h5_,h6_,h7_,h8_,h9_,h10_,h11_,h12_⟩
      have n0_ : Aside0 (w16.heap[Qf]? = some (.cells #[.int .i64 QF,.int .i64 QG,.int .i64 QH,.int .i64 QI,.int .i64 QJ,.int .i64 QK,.int .i64 QL,.int .i64 QM,.int .i64 QN,.int .i64 QO,.int .i64 Qw,.int .i64 Qx,.int .i64 Qy,.int .i64 Qz,.int .i64 QA,.int .i64 QB] 23 (0,0))):=⟨h0_⟩
      have n1_ : Aside0 (w16.heap[QD]? = some (.cells #[.int .i64 QC,.int .i64 Qu,.int .i64 Qt,.bool Qr] 25 (0,0))):=⟨h1_⟩
      have n2_ : Aside0 (w16.heap[Qm]? = some (.cells #[.int .i64 Qh,.int .i64 Qi,.int .i64 Qj,.bool Qk] 25 (0,0))):=⟨h2_⟩
      have n3_ : Aside0 (w16.heap[Qc]? = some (.cells #[.int .i64 0,.int .i64 0,.int .i64 0,.bool false] 25 (0,0))):=⟨h3_⟩
      have n4_ : Aside0 (w.heap.size ≤ Qc):=⟨h4_⟩
      have n5_ : Aside0 (w.heap.size ≤ Qc):=⟨h5_⟩
      have n6_ : Aside0 (Qf ≠ Qc):=⟨h6_⟩
      have n7_ : Aside0 (Qc ≠ Qf):=⟨h7_⟩
      have n8_ : Aside0 (QD ≠ Qc):=⟨h8_⟩
      have n9_ : Aside0 (Qc ≠ QD):=⟨h9_⟩
      have n10_ : Aside0 (Qm ≠ Qc):=⟨h10_⟩
      have n11_ : Aside0 (Qc ≠ Qm):=⟨h11_⟩
      have n12_ : Aside0 (Below w.heap.size w w16):=⟨h12_⟩
      clear Qb
      clear Qg
      clear Qe
      clear HB
      clear h0_ h1_ h2_ h3_ h4_ h5_ h6_ h7_ h8_ h9_ h10_ h11_ h12_
      have Qb:=n0_
      have Qg:=n1_
      have Qe:=n2_
      have Qn:=n3_
      have GW111:=n4_
      have QP:=n5_
      have Qa:=n6_
      have Qo:=n7_
      have Ql:=n8_
      have Qp:=n9_
      have Qd:=n10_
      have Qq:=n11_
      have HB:=n12_
      clear n0_ n1_ n2_ n3_ n4_ n5_ n6_ n7_ n8_ n9_ n10_ n11_ n12_
      have hHeld : w16.cell? ⟨Qf,0,none⟩ = some (.int .i64 QF)∧w16.cell? ⟨Qf,1,none⟩ = some (.int .i64 QG)∧w16.cell? ⟨Qf,2,none⟩ = some (.int .i64 QH)∧w16.cell? ⟨Qf,3,none⟩ = some (.int .i64 QI)∧w16.cell? ⟨Qf,4,none⟩ = some (.int .i64 QJ)∧w16.cell? ⟨Qf,5,none⟩ = some (.int .i64 QK)∧w16.cell? ⟨Qf,6,none⟩ = some (.int .i64 QL)∧w16.cell? ⟨Qf,7,none⟩ = some (.int .i64 QM)∧w16.cell? ⟨Qf,8,none⟩ = some (.int .i64 QN)∧w16.cell? ⟨Qf,9,none⟩ = some (.int .i64 QO)∧w16.cell? ⟨Qf,10,none⟩ = some (.int .i64 Qw)∧w16.cell? ⟨Qf,11,none⟩ = some (.int .i64 Qx)∧w16.cell? ⟨Qf,12,none⟩ = some (.int .i64 Qy)∧w16.cell? ⟨Qf,13,none⟩ = some (.int .i64 Qz)∧w16.cell? ⟨Qf,14,none⟩ = some (.int .i64 QA)∧w16.cell? ⟨Qf,15,none⟩ = some (.int .i64 QB)∧w16.cell? ⟨Qm,0,none⟩ = some (.int .i64 Qh)∧w16.cell? ⟨Qm,1,none⟩ = some (.int .i64 Qi)∧w16.cell? ⟨Qm,2,none⟩ = some (.int .i64 Qj)∧w16.cell? ⟨Qm,3,none⟩ = some (.bool Qk)∧w16.cell? (ad104.add (QE).toNat) = some (.slice A104_0 (rd_L2 l1 QE).length c104_0):=hS_
      refine norm_ (a':=?_) ?_ ?_
      rotate_left
      ·simp only [putAll,Act.put,List.setIfInBounds_toArray,List.set_cons_zero,List.set_cons_succ]
       rfl
      refine one_ (i:=12) (N:=none) #[true,true,true,true,true,true,true,true,true,true,true,true,true,false,false] rfl rfl (one_of HT_.out (by kernel_rfl)) (by decide) (fun K hK=>?_)
      have hs17 : w16.cell? ⟨Qc,0,none⟩ = some (.int .i64 0):=(blk_cell Qn.out 0).trans rfl
      have hfs17:=blk_frozen Qn.out 0
      have hns17_0:=Qa.out
      have hns17_1:=Ql.out
      have hns17_2:=Qd.out
      have hms17_0:=Qo.out
      have hms17_1:=Qp.out
      have hms17_2:=Qq.out
      have hs18 : w16.cell? ⟨Qc,1,none⟩ = some (.int .i64 0):=(blk_cell Qn.out 1).trans rfl
      have hfs18:=blk_frozen Qn.out 1
      have hns18_0:=Qa.out
      have hns18_1:=Ql.out
      have hns18_2:=Qd.out
      have hms18_0:=Qo.out
      have hms18_1:=Qp.out
      have hms18_2:=Qq.out
      have hs19 : w16.cell? ⟨Qc,2,none⟩ = some (.int .i64 0):=(blk_cell Qn.out 2).trans rfl
      have hfs19:=blk_frozen Qn.out 2
      have hns19_0:=Qa.out
      have hns19_1:=Ql.out
      have hns19_2:=Qd.out
      have hms19_0:=Qo.out
      have hms19_1:=Qp.out
      have hms19_2:=Qq.out
      have hs20 : w16.cell? ⟨Qc,3,none⟩ = some (.bool false):=(blk_cell Qn.out 3).trans rfl
      have hfs20:=blk_frozen Qn.out 3
      have hns20_0:=Qa.out
      have hns20_1:=Ql.out
      have hns20_2:=Qd.out
      have hms20_0:=Qo.out
      have hms20_1:=Qp.out
      have hms20_2:=Qq.out
      refine skip_ (w1:=?_) (by rfl) rfl ?_ ?_
      rotate_left
      ·go_simp
       rfl
      refine hK.out _ _ ⟨((cell_far (p:=⟨Qc,_,none⟩) Qa.out _).trans (((cell_far (p:=⟨Qc,_,none⟩) Qa.out _).trans (((cell_far (p:=⟨Qc,_,none⟩) Qa.out _).trans (((cell_far (p:=⟨Qc,_,none⟩) Qa.out _).trans (hHeld.1)))))))),((cell_far (p:=⟨Qc,_,none⟩) Qa.out _).trans (((cell_far (p:=⟨Qc,_,none⟩) Qa.out _).trans (((cell_far (p:=⟨Qc,_,none⟩) Qa.out _).trans (((cell_far (p:=⟨Qc,_,none⟩) Qa.out _).trans (hHeld.2.1)))))))),((cell_far (p:=⟨Qc,_,none⟩) Qa.out _).trans (((cell_far (p:=⟨Qc,_,none⟩) Qa.out _).trans (((cell_far (p:=⟨Qc,_,none⟩) Qa.out _).trans (((cell_far (p:=⟨Qc,_,none⟩) Qa.out _).trans (hHeld.2.2.1)))))))),((cell_far (p:=⟨Qc,_,none⟩) Qa.out _).trans (((cell_far (p:=⟨Qc,_,none⟩) Qa.out _).trans (((cell_far (p:=⟨Qc,_,none⟩) Qa.out _).trans (((cell_far (p:=⟨Qc,_,none⟩) Qa.out _).trans (hHeld.2.2.2.1)))))))),((cell_far (p:=⟨Qc,_,none⟩) Qa.out _).trans (((cell_far (p:=⟨Qc,_,none⟩) Qa.out _).trans (((cell_far (p:=⟨Qc,_,none⟩) Qa.out _).trans (((cell_far (p:=⟨Qc,_,none⟩) Qa.out _).trans (hHeld.2.2.2.2.1)))))))),((cell_far (p:=⟨Qc,_,none⟩) Qa.out _).trans (((cell_far (p:=⟨Qc,_,none⟩) Qa.out _).trans (((cell_far (p:=⟨Qc,_,none⟩) Qa.out _).trans (((cell_far (p:=⟨Qc,_,none⟩) Qa.out _).trans (hHeld.2.2.2.2.2.1)))))))),((cell_far (p:=⟨Qc,_,none⟩) Qa.out _).trans (((cell_far (p:=⟨Qc,_,none⟩) Qa.out _).trans (((cell_far (p:=⟨Qc,_,none⟩) Qa.out _).trans (((cell_far (p:=⟨Qc,_,none⟩) Qa.out _).trans (hHeld.2.2.2.2.2.2.1)))))))),((cell_far (p:=⟨Qc,_,none⟩) Qa.out _).trans (((cell_far (p:=⟨Qc,_,none⟩) Qa.out _).trans (((cell_far (p:=⟨Qc,_,none⟩) Qa.out _).trans (((cell_far (p:=⟨Qc,_,none⟩) Qa.out _).trans (hHeld.2.2.2.2.2.2.2.1)))))))),((cell_far (p:=⟨Qc,_,none⟩) Qa.out _).trans (((cell_far (p:=⟨Qc,_,none⟩) Qa.out _).trans (((cell_far (p:=⟨Qc,_,none⟩) Qa.out _).trans (((cell_far (p:=⟨Qc,_,none⟩) Qa.out _).trans (hHeld.2.2.2.2.2.2.2.2.1)))))))),((cell_far (p:=⟨Qc,_,none⟩) Qa.out _).trans (((cell_far (p:=⟨Qc,_,none⟩) Qa.out _).trans (((cell_far (p:=⟨Qc,_,none⟩) Qa.out _).trans (((cell_far (p:=⟨Qc,_,none⟩) Qa.out _).trans (hHeld.2.2.2.2.2.2.2.2.2.1)))))))),((cell_far (p:=⟨Qc,_,none⟩) Qa.out _).trans (((cell_far (p:=⟨Qc,_,none⟩) Qa.out _).trans (((cell_far (p:=⟨Qc,_,none⟩) Qa.out _).trans (((cell_far (p:=⟨Qc,_,none⟩) Qa.out _).trans (hHeld.2.2.2.2.2.2.2.2.2.2.1)))))))),((cell_far (p:=⟨Qc,_,none⟩) Qa.out _).trans (((cell_far (p:=⟨Qc,_,none⟩) Qa.out _).trans (((cell_far (p:=⟨Qc,_,none⟩) Qa.out _).trans (((cell_far (p:=⟨Qc,_,none⟩) Qa.out _).trans (hHeld.2.2.2.2.2.2.2.2.2.2.2.1)))))))),((cell_far (p:=⟨Qc,_,none⟩) Qa.out _).trans (((cell_far (p:=⟨Qc,_,none⟩) Qa.out _).trans (((cell_far (p:=⟨Qc,_,none⟩) Qa.out _).trans (((cell_far (p:=⟨Qc,_,none⟩) Qa.out _).trans (hHeld.2.2.2.2.2.2.2.2.2.2.2.2.1)))))))),((cell_far (p:=⟨Qc,_,none⟩) Qa.out _).trans (((cell_far (p:=⟨Qc,_,none⟩) Qa.out _).trans (((cell_far (p:=⟨Qc,_,none⟩) Qa.out _).trans (((cell_far (p:=⟨Qc,_,none⟩) Qa.out _).trans (hHeld.2.2.2.2.2.2.2.2.2.2.2.2.2.1)))))))),((cell_far (p:=⟨Qc,_,none⟩) Qa.out _).trans (((cell_far (p:=⟨Qc,_,none⟩) Qa.out _).trans (((cell_far (p:=⟨Qc,_,none⟩) Qa.out _).trans (((cell_far (p:=⟨Qc,_,none⟩) Qa.out _).trans (hHeld.2.2.2.2.2.2.2.2.2.2.2.2.2.2.1)))))))),((cell_far (p:=⟨Qc,_,none⟩) Qa.out _).trans (((cell_far (p:=⟨Qc,_,none⟩) Qa.out _).trans (((cell_far (p:=⟨Qc,_,none⟩) Qa.out _).trans (((cell_far (p:=⟨Qc,_,none⟩) Qa.out _).trans (hHeld.2.2.2.2.2.2.2.2.2.2.2.2.2.2.2.1)))))))),((cell_far (p:=⟨Qc,_,none⟩) Qd.out _).trans (((cell_far (p:=⟨Qc,_,none⟩) Qd.out _).trans (((cell_far (p:=⟨Qc,_,none⟩) Qd.out _).trans (((cell_far (p:=⟨Qc,_,none⟩) Qd.out _).trans (hHeld.2.2.2.2.2.2.2.2.2.2.2.2.2.2.2.2.1)))))))),((cell_far (p:=⟨Qc,_,none⟩) Qd.out _).trans (((cell_far (p:=⟨Qc,_,none⟩) Qd.out _).trans (((cell_far (p:=⟨Qc,_,none⟩) Qd.out _).trans (((cell_far (p:=⟨Qc,_,none⟩) Qd.out _).trans (hHeld.2.2.2.2.2.2.2.2.2.2.2.2.2.2.2.2.2.1)))))))),((cell_far (p:=⟨Qc,_,none⟩) Qd.out _).trans (((cell_far (p:=⟨Qc,_,none⟩) Qd.out _).trans (((cell_far (p:=⟨Qc,_,none⟩) Qd.out _).trans (((cell_far (p:=⟨Qc,_,none⟩) Qd.out _).trans (hHeld.2.2.2.2.2.2.2.2.2.2.2.2.2.2.2.2.2.2.1)))))))),((cell_far (p:=⟨Qc,_,none⟩) Qd.out _).trans (((cell_far (p:=⟨Qc,_,none⟩) Qd.out _).trans (((cell_far (p:=⟨Qc,_,none⟩) Qd.out _).trans (((cell_far (p:=⟨Qc,_,none⟩) Qd.out _).trans (hHeld.2.2.2.2.2.2.2.2.2.2.2.2.2.2.2.2.2.2.2.1)))))))),((cell_far (p:=⟨Qc,_,none⟩) (by first|exact Nat.ne_of_lt (Nat.lt_of_lt_of_le (by have:=World.block_lt_of_cell? _ _ hw104_0;first|rwa [add_block] at this|exact this) GW111.out)|(rw [add_block];exact Nat.ne_of_lt (Nat.lt_of_lt_of_le (by have:=World.block_lt_of_cell? _ _ hw104_0;first|rwa [add_block] at this|exact this) GW111.out))|(show (Addr.add _ _).block ≠ _;rw [add_block];exact Nat.ne_of_lt (Nat.lt_of_lt_of_le (by have:=World.block_lt_of_cell? _ _ hw104_0;first|rwa [add_block] at this|exact this) GW111.out))|(dsimp only;exact Nat.ne_of_lt (Nat.lt_of_lt_of_le (by have:=World.block_lt_of_cell? _ _ hw104_0;first|rwa [add_block] at this|exact this) GW111.out))) _).trans (((cell_far (p:=⟨Qc,_,none⟩) (by first|exact Nat.ne_of_lt (Nat.lt_of_lt_of_le (by have:=World.block_lt_of_cell? _ _ hw104_0;first|rwa [add_block] at this|exact this) GW111.out)|(rw [add_block];exact Nat.ne_of_lt (Nat.lt_of_lt_of_le (by have:=World.block_lt_of_cell? _ _ hw104_0;first|rwa [add_block] at this|exact this) GW111.out))|(show (Addr.add _ _).block ≠ _;rw [add_block];exact Nat.ne_of_lt (Nat.lt_of_lt_of_le (by have:=World.block_lt_of_cell? _ _ hw104_0;first|rwa [add_block] at this|exact this) GW111.out))|(dsimp only;exact Nat.ne_of_lt (Nat.lt_of_lt_of_le (by have:=World.block_lt_of_cell? _ _ hw104_0;first|rwa [add_block] at this|exact this) GW111.out))) _).trans (((cell_far (p:=⟨Qc,_,none⟩) (by first|exact Nat.ne_of_lt (Nat.lt_of_lt_of_le (by have:=World.block_lt_of_cell? _ _ hw104_0;first|rwa [add_block] at this|exact this) GW111.out)|(rw [add_block];exact Nat.ne_of_lt (Nat.lt_of_lt_of_le (by have:=World.block_lt_of_cell? _ _ hw104_0;first|rwa [add_block] at this|exact this) GW111.out))|(show (Addr.add _ _).block ≠ _;rw [add_block];exact Nat.ne_of_lt (Nat.lt_of_lt_of_le (by have:=World.block_lt_of_cell? _ _ hw104_0;first|rwa [add_block] at this|exact this) GW111.out))|(dsimp only;exact Nat.ne_of_lt (Nat.lt_of_lt_of_le (by have:=World.block_lt_of_cell? _ _ hw104_0;first|rwa [add_block] at this|exact this) GW111.out))) _).trans (((cell_far (p:=⟨Qc,_,none⟩) (by first|exact Nat.ne_of_lt (Nat.lt_of_lt_of_le (by have:=World.block_lt_of_cell? _ _ hw104_0;first|rwa [add_block] at this|exact this) GW111.out)|(rw [add_block];exact Nat.ne_of_lt (Nat.lt_of_lt_of_le (by have:=World.block_lt_of_cell? _ _ hw104_0;first|rwa [add_block] at this|exact this) GW111.out))|(show (Addr.add _ _).block ≠ _;rw [add_block];exact Nat.ne_of_lt (Nat.lt_of_lt_of_le (by have:=World.block_lt_of_cell? _ _ hw104_0;first|rwa [add_block] at this|exact this) GW111.out))|(dsimp only;exact Nat.ne_of_lt (Nat.lt_of_lt_of_le (by have:=World.block_lt_of_cell? _ _ hw104_0;first|rwa [add_block] at this|exact this) GW111.out))) _).trans (hHeld.2.2.2.2.2.2.2.2.2.2.2.2.2.2.2.2.2.2.2.2))))))))⟩ (fun hHeld=>?_)
      clear hK K
      refine pure_ (i:=13) (N:=some 9) (v:=?_) (a':=?_) #[true,true,true,true,true,true,true,true,true,true,true,true,true,true,false] rfl rfl (any_of HT_.out (by kernel_rfl)) (fun _ _ _ h=>h) (Or.inl ⟨by rfl,?_⟩) ?_ ?_
      rotate_left
      ·intro w'
       go_simp
       with_reducible rfl
      rotate_left
      ·simp only [Act.put,List.setIfInBounds_toArray,List.set_cons_zero,List.set_cons_succ,i64_w,i32_w]
       rfl
      refine pure_ (i:=14) (N:=some 10) (v:=?_) (a':=?_) #[true,true,true,true,true,true,true,true,true,true,true,true,true,true,true] rfl rfl (any_of HT_.out (by kernel_rfl)) (fun _ _ _ h=>h) (Or.inl ⟨by rfl,?_⟩) ?_ ?_
      rotate_left
      ·intro w'
       go_simp
       with_reducible rfl
      rotate_left
      ·simp only [Act.put,List.setIfInBounds_toArray,List.set_cons_zero,List.set_cons_succ,i64_w,i32_w]
       rfl
      refine done_ (done_of HT_.out (by kernel_rfl)) ?_
      have hnb21:=Qo.out
      have hnc21:=Qa.out
      have hnb22:=Qp.out
      have hnc22:=Ql.out
      have hnb23:=Qq.out
      have hnc23:=Qd.out
      have hcz24_0 : w16.cell? ⟨Qc,0,none⟩ = some (.int .i64 0):=(blk_cell Qn.out 0).trans rfl
      have hcz24_1 : w16.cell? ⟨Qc,1,none⟩ = some (.int .i64 0):=(blk_cell Qn.out 1).trans rfl
      have hcz24_2 : w16.cell? ⟨Qc,2,none⟩ = some (.int .i64 0):=(blk_cell Qn.out 2).trans rfl
      have hcz24_3 : w16.cell? ⟨Qc,3,none⟩ = some (.bool false):=(blk_cell Qn.out 3).trans rfl
      have hfz24_0:=blk_frozen Qn.out 0
      have hfz24_1:=blk_frozen Qn.out 1
      have hfz24_2:=blk_frozen Qn.out 2
      have hfz24_3:=blk_frozen Qn.out 3
      have hnb25:=QT.out
      have hnc25:=Qv.out
      have hnb26:=QU.out
      have hnc26:=Qs.out
      have hcz27_0 : w16.cell? ⟨Qm,0,none⟩ = some (.int .i64 Qh):=(blk_cell Qe.out 0).trans rfl
      have hcz27_1 : w16.cell? ⟨Qm,1,none⟩ = some (.int .i64 Qi):=(blk_cell Qe.out 1).trans rfl
      have hcz27_2 : w16.cell? ⟨Qm,2,none⟩ = some (.int .i64 Qj):=(blk_cell Qe.out 2).trans rfl
      have hcz27_3 : w16.cell? ⟨Qm,3,none⟩ = some (.bool Qk):=(blk_cell Qe.out 3).trans rfl
      have hfz27_0:=blk_frozen Qe.out 0
      have hfz27_1:=blk_frozen Qe.out 1
      have hfz27_2:=blk_frozen Qe.out 2
      have hfz27_3:=blk_frozen Qe.out 3
      try go_wp2
      go_roundg k1
      case measure=>have:=HK1.out;omega
      case rel=>exact ⟨(wrap64 (QE + 1)),(QC),(Qu),(Qt),(Qr),(QQ),(QR),(QV),(QX),(by first|rfl|(simp;done)|(simp [*];done)),H',⟨by have:=HK1.out;omega⟩,⟨by (with_reducible repeat (first|refine blk_drewN ?_ _|refine blk_drew ?_|refine blk_alloc ?_ _));refine blk_far ?_ Qv.out _;(with_reducible repeat (first|refine blk_drewN ?_ _|refine blk_drew ?_|refine blk_alloc ?_ _));refine blk_far ?_ Qv.out _;(with_reducible repeat (first|refine blk_drewN ?_ _|refine blk_drew ?_|refine blk_alloc ?_ _));refine blk_far ?_ Qv.out _;(with_reducible repeat (first|refine blk_drewN ?_ _|refine blk_drew ?_|refine blk_alloc ?_ _));refine blk_far ?_ Qv.out _;(with_reducible repeat (first|refine blk_drewN ?_ _|refine blk_drew ?_|refine blk_alloc ?_ _));refine blk_far ?_ Qa.out _;(with_reducible repeat (first|refine blk_drewN ?_ _|refine blk_drew ?_|refine blk_alloc ?_ _));refine blk_far ?_ Qa.out _;(with_reducible repeat (first|refine blk_drewN ?_ _|refine blk_drew ?_|refine blk_alloc ?_ _));refine blk_far ?_ Qa.out _;(with_reducible repeat (first|refine blk_drewN ?_ _|refine blk_drew ?_|refine blk_alloc ?_ _));refine blk_far ?_ Qa.out _;(with_reducible repeat (first|refine blk_drewN ?_ _|refine blk_drew ?_|refine blk_alloc ?_ _));exact Qb.out⟩,⟨by (with_reducible repeat (first|refine blk_drewN ?_ _|refine blk_drew ?_|refine blk_alloc ?_ _));refine blk_far ?_ Qs.out _;(with_reducible repeat (first|refine blk_drewN ?_ _|refine blk_drew ?_|refine blk_alloc ?_ _));refine blk_far ?_ Qs.out _;(with_reducible repeat (first|refine blk_drewN ?_ _|refine blk_drew ?_|refine blk_alloc ?_ _));refine blk_far ?_ Qs.out _;(with_reducible repeat (first|refine blk_drewN ?_ _|refine blk_drew ?_|refine blk_alloc ?_ _));refine blk_far ?_ Qs.out _;(with_reducible repeat (first|refine blk_drewN ?_ _|refine blk_drew ?_|refine blk_alloc ?_ _));refine blk_far ?_ Ql.out _;(with_reducible repeat (first|refine blk_drewN ?_ _|refine blk_drew ?_|refine blk_alloc ?_ _));refine blk_far ?_ Ql.out _;(with_reducible repeat (first|refine blk_drewN ?_ _|refine blk_drew ?_|refine blk_alloc ?_ _));refine blk_far ?_ Ql.out _;(with_reducible repeat (first|refine blk_drewN ?_ _|refine blk_drew ?_|refine blk_alloc ?_ _));refine blk_far ?_ Ql.out _;(with_reducible repeat (first|refine blk_drewN ?_ _|refine blk_drew ?_|refine blk_alloc ?_ _));exact Qg.out⟩,⟨by (with_reducible repeat (first|refine blk_drewN ?_ _|refine blk_drew ?_|refine blk_alloc ?_ _));refine blk_put (cs:=#[.int .i64 QQ,.int .i64 QR,.int .i64 QV,.bool Qk]) ?_ 3 _ rfl;(with_reducible repeat (first|refine blk_drewN ?_ _|refine blk_drew ?_|refine blk_alloc ?_ _));refine blk_put (cs:=#[.int .i64 QQ,.int .i64 QR,.int .i64 Qj,.bool Qk]) ?_ 2 _ rfl;(with_reducible repeat (first|refine blk_drewN ?_ _|refine blk_drew ?_|refine blk_alloc ?_ _));refine blk_put (cs:=#[.int .i64 QQ,.int .i64 Qi,.int .i64 Qj,.bool Qk]) ?_ 1 _ rfl;(with_reducible repeat (first|refine blk_drewN ?_ _|refine blk_drew ?_|refine blk_alloc ?_ _));refine blk_put (cs:=#[.int .i64 Qh,.int .i64 Qi,.int .i64 Qj,.bool Qk]) ?_ 0 _ rfl;(with_reducible repeat (first|refine blk_drewN ?_ _|refine blk_drew ?_|refine blk_alloc ?_ _));refine blk_far ?_ Qd.out _;(with_reducible repeat (first|refine blk_drewN ?_ _|refine blk_drew ?_|refine blk_alloc ?_ _));refine blk_far ?_ Qd.out _;(with_reducible repeat (first|refine blk_drewN ?_ _|refine blk_drew ?_|refine blk_alloc ?_ _));refine blk_far ?_ Qd.out _;(with_reducible repeat (first|refine blk_drewN ?_ _|refine blk_drew ?_|refine blk_alloc ?_ _));refine blk_far ?_ Qd.out _;(with_reducible repeat (first|refine blk_drewN ?_ _|refine blk_drew ?_|refine blk_alloc ?_ _));exact Qe.out⟩,⟨by repeat (first|(with_reducible first|exact HB.out|apply below_alloc|apply pw_below_drewN|apply below_drew1|refine below_set ?_ QY.out|refine below_set ?_ QZ.out|refine below_set ?_ Za.out|refine below_set ?_ QP.out)|exact HB.out)⟩⟩
     ·rw [if_neg c12] at H
      have c12b0 : (QS == 0) = false:=beq_eq_false_iff_ne.mpr c12
      have c12b1 : (QS != 0) = true:=bne_iff_ne.mpr c12
      simp only [Option.some.injEq,Prod.mk.injEq] at H
      obtain ⟨rfl,rfl,rfl,rfl,rfl⟩:=H
      try go_wp2
      have n0_:=Aside0.mk (blk_drew Qb.out)
      have n1_:=Aside0.mk (blk_drew Qg.out)
      have n2_:=Aside0.mk (blk_drew Qe.out)
      have n3_:=Aside0.mk (below_drew1 HB.out)
      clear Qb
      clear Qg
      clear Qe
      clear HB
      have Qb:=n0_
      have Qg:=n1_
      have Qe:=n2_
      have HB:=n3_
      clear n0_ n1_ n2_ n3_
      have p104 : 0 ≤ (QE : Int):=of_decide_eq_true (by first|(with_reducible assumption)|assumption)
      have q104 : QE < (l1.length : Int):=of_decide_eq_true (by first|(with_reducible assumption)|assumption)
      obtain ⟨ad104,A104_0,c104_0,e104,hx104_0,hl104_0,hi104_0⟩:=at_L2 HR1.out QE p104 q104
      have hw104_0:=hx104_0
      cases e104
      replace hx104_0:=(HB.out.cell (World.block_lt_of_cell? w _ hx104_0)).trans hx104_0
      have HR104_0:=Aside0.mk hi104_0
      have HC104_0:=Aside0.mk hl104_0
      clear hi104_0 hl104_0
      replace p104:=eq_true p104
      replace q104:=eq_true q104
      refine start_ (n:=15) (S:=fun w'=>w'.cell? ⟨Qf,0,none⟩ = some (.int .i64 QF)∧w'.cell? ⟨Qf,1,none⟩ = some (.int .i64 QG)∧w'.cell? ⟨Qf,2,none⟩ = some (.int .i64 QH)∧w'.cell? ⟨Qf,3,none⟩ = some (.int .i64 QI)∧w'.cell? ⟨Qf,4,none⟩ = some (.int .i64 QJ)∧w'.cell? ⟨Qf,5,none⟩ = some (.int .i64 QK)∧w'.cell? ⟨Qf,6,none⟩ = some (.int .i64 QL)∧w'.cell? ⟨Qf,7,none⟩ = some (.int .i64 QM)∧w'.cell? ⟨Qf,8,none⟩ = some (.int .i64 QN)∧w'.cell? ⟨Qf,9,none⟩ = some (.int .i64 QO)∧w'.cell? ⟨Qf,10,none⟩ = some (.int .i64 Qw)∧w'.cell? ⟨Qf,11,none⟩ = some (.int .i64 Qx)∧w'.cell? ⟨Qf,12,none⟩ = some (.int .i64 Qy)∧w'.cell? ⟨Qf,13,none⟩ = some (.int .i64 Qz)∧w'.cell? ⟨Qf,14,none⟩ = some (.int .i64 QA)∧w'.cell? ⟨Qf,15,none⟩ = some (.int .i64 QB)∧w'.cell? ⟨Qm,0,none⟩ = some (.int .i64 Qh)∧w'.cell? ⟨Qm,1,none⟩ = some (.int .i64 Qi)∧w'.cell? ⟨Qm,2,none⟩ = some (.int .i64 Qj)∧w'.cell? ⟨Qm,3,none⟩ = some (.bool Qk)∧w'.cell? (ad104.add (QE).toNat) = some (.slice A104_0 (rd_L2 l1 QE).length c104_0)) (ds:=[]) #[false,false,false,false,false,false,false,false,false,false,false,false,false,false,false] (by kernel_rfl) rfl rfl ⟨(blk_cell Qb.out 0).trans rfl,(blk_cell Qb.out 1).trans rfl,(blk_cell Qb.out 2).trans rfl,(blk_cell Qb.out 3).trans rfl,(blk_cell Qb.out 4).trans rfl,(blk_cell Qb.out 5).trans rfl,(blk_cell Qb.out 6).trans rfl,(blk_cell Qb.out 7).trans rfl,(blk_cell Qb.out 8).trans rfl,(blk_cell Qb.out 9).trans rfl,(blk_cell Qb.out 10).trans rfl,(blk_cell Qb.out 11).trans rfl,(blk_cell Qb.out 12).trans rfl,(blk_cell Qb.out 13).trans rfl,(blk_cell Qb.out 14).trans rfl,(blk_cell Qb.out 15).trans rfl,(blk_cell Qe.out 0).trans rfl,(blk_cell Qe.out 1).trans rfl,(blk_cell Qe.out 2).trans rfl,(blk_cell Qe.out 3).trans rfl,((HB.out.cell (World.block_lt_of_cell? w _ hw104_0)).trans hw104_0)⟩ (fun hHeld=>?_);refine with_tabW vespersref15_Fold.tab5 vespersref15_Fold.bits5 (fun HT_ HW_=>?_)
      generalize wr.drew = w28 at Qb Qg Qe HB HR104_0 hx104_0 hHeld ⊢
      refine pure_ (i:=2) (N:=some 21) (v:=?_) (a':=?_) #[false,false,true,false,false,false,false,false,false,false,false,false,false,false,false] rfl rfl (any_of HT_.out (by kernel_rfl)) (fun _ _ _ h=>h) (Or.inl ⟨by rfl,?_⟩) ?_ ?_
      rotate_left
      ·intro w'
       go_simp
       with_reducible rfl
      rotate_left
      ·simp only [Act.put,List.setIfInBounds_toArray,List.set_cons_zero,List.set_cons_succ,i64_w,i32_w]
       rfl
      refine pure_ (i:=3) (N:=some 22) (v:=?_) (a':=?_) #[false,false,true,true,false,false,false,false,false,false,false,false,false,false,false] rfl rfl (any_of HT_.out (by kernel_rfl)) (fun _ _ _ h=>h) (Or.inl ⟨by rfl,?_⟩) ?_ ?_
      rotate_left
      ·intro w'
       go_simp
       with_reducible rfl
      rotate_left
      ·simp only [Act.put,List.setIfInBounds_toArray,List.set_cons_zero,List.set_cons_succ,i64_w,i32_w]
       rfl
      refine pure_ (i:=4) (N:=some 23) (v:=?_) (a':=?_) #[false,false,true,true,true,false,false,false,false,false,false,false,false,false,false] rfl rfl (any_of HT_.out (by kernel_rfl)) (fun _ _ _ h=>h) (Or.inl ⟨by rfl,?_⟩) ?_ ?_
      rotate_left
      ·intro w'
       go_simp
       with_reducible rfl
      rotate_left
      ·simp only [Act.put,List.setIfInBounds_toArray,List.set_cons_zero,List.set_cons_succ,i64_w,i32_w]
       rfl
      refine take_ (i:=0) (N:=some 19) (v:=?_) (a':=?_) #[true,false,true,true,true,false,false,false,false,false,false,false,false,false,false] rfl rfl (take_ofW HT_.out HW_.out (by kernel_rfl)) (fun _ _ _ h=>h) (Or.inl ⟨by rfl,?_⟩) hHeld ?_ ?_
      rotate_left
      ·rintro w' ⟨s0,s1,s2,s3,s4,s5,s6,s7,s8,s9,s10,s11,s12,s13,s14,s15,s16,s17,s18,s19,s20⟩
       go_simp
       with_reducible rfl
      rotate_left
      ·simp only [Act.put,List.setIfInBounds_toArray,List.set_cons_zero,List.set_cons_succ,i64_w,i32_w]
       rfl
      refine take_ (i:=1) (N:=some 20) (v:=?_) (a':=?_) #[true,true,true,true,true,false,false,false,false,false,false,false,false,false,false] rfl rfl (take_ofW HT_.out HW_.out (by kernel_rfl)) (fun _ _ _ h=>h) (Or.inl ⟨by rfl,?_⟩) hHeld ?_ ?_
      rotate_left
      ·rintro w' ⟨s0,s1,s2,s3,s4,s5,s6,s7,s8,s9,s10,s11,s12,s13,s14,s15,s16,s17,s18,s19,s20⟩
       go_simp
       with_reducible rfl
      rotate_left
      ·simp only [Act.put,List.setIfInBounds_toArray,List.set_cons_zero,List.set_cons_succ,i64_w,i32_w]
       rfl
      refine take_ (i:=5) (N:=some 24) (v:=?_) (a':=?_) #[true,true,true,true,true,true,false,false,false,false,false,false,false,false,false] rfl rfl (take_ofW HT_.out HW_.out (by kernel_rfl)) (fun _ _ _ h=>h) (Or.inl ⟨by rfl,?_⟩) hHeld ?_ ?_
      rotate_left
      ·rintro w' ⟨s0,s1,s2,s3,s4,s5,s6,s7,s8,s9,s10,s11,s12,s13,s14,s15,s16,s17,s18,s19,s20⟩
       go_simp
       with_reducible rfl
      rotate_left
      ·simp only [Act.put,List.setIfInBounds_toArray,List.set_cons_zero,List.set_cons_succ,i64_w,i32_w]
       rfl
      refine join_ (σ:=Nat) 3 #[true,true,true,true,true,true,true,true,true,true,true,true,false,false,false] (fun s_=>[(25,.tuple #[.agg #[.int .i64 QQ,.int .i64 QR,.int .i64 QV,.bool QX],.int .i64 Zb,.int .i64 QS]),(8,.pointer (some ⟨s_,0,none⟩)),(18,.tuple #[.agg #[.int .i64 QQ,.int .i64 QR,.int .i64 QV,.bool QX],.int .i64 Zb,.int .i64 QS]),(26,.agg #[.int .i64 QQ,.int .i64 QR,.int .i64 QV,.bool QX]),(27,.int .i64 Zb),(28,.int .i64 QS)]) (fun s_ w'=>(w'.cell? ⟨Qf,0,none⟩ = some (.int .i64 QF)∧w'.cell? ⟨Qf,1,none⟩ = some (.int .i64 QG)∧w'.cell? ⟨Qf,2,none⟩ = some (.int .i64 QH)∧w'.cell? ⟨Qf,3,none⟩ = some (.int .i64 QI)∧w'.cell? ⟨Qf,4,none⟩ = some (.int .i64 QJ)∧w'.cell? ⟨Qf,5,none⟩ = some (.int .i64 QK)∧w'.cell? ⟨Qf,6,none⟩ = some (.int .i64 QL)∧w'.cell? ⟨Qf,7,none⟩ = some (.int .i64 QM)∧w'.cell? ⟨Qf,8,none⟩ = some (.int .i64 QN)∧w'.cell? ⟨Qf,9,none⟩ = some (.int .i64 QO)∧w'.cell? ⟨Qf,10,none⟩ = some (.int .i64 Qw)∧w'.cell? ⟨Qf,11,none⟩ = some (.int .i64 Qx)∧w'.cell? ⟨Qf,12,none⟩ = some (.int .i64 Qy)∧w'.cell? ⟨Qf,13,none⟩ = some (.int .i64 Qz)∧w'.cell? ⟨Qf,14,none⟩ = some (.int .i64 QA)∧w'.cell? ⟨Qf,15,none⟩ = some (.int .i64 QB)∧w'.cell? ⟨Qm,0,none⟩ = some (.int .i64 Qh)∧w'.cell? ⟨Qm,1,none⟩ = some (.int .i64 Qi)∧w'.cell? ⟨Qm,2,none⟩ = some (.int .i64 Qj)∧w'.cell? ⟨Qm,3,none⟩ = some (.bool Qk)∧w'.cell? (ad104.add (QE).toNat) = some (.slice A104_0 (rd_L2 l1 QE).length c104_0))∧(w'.heap[Qf]? = some (.cells #[.int .i64 QF,.int .i64 QG,.int .i64 QH,.int .i64 QI,.int .i64 QJ,.int .i64 QK,.int .i64 QL,.int .i64 QM,.int .i64 QN,.int .i64 QO,.int .i64 Qw,.int .i64 Qx,.int .i64 Qy,.int .i64 Qz,.int .i64 QA,.int .i64 QB] 23 (0,0)))∧(w'.heap[QD]? = some (.cells #[.int .i64 QC,.int .i64 Qu,.int .i64 Qt,.bool Qr] 25 (0,0)))∧(w'.heap[Qm]? = some (.cells #[.int .i64 Qh,.int .i64 Qi,.int .i64 Qj,.bool Qk] 25 (0,0)))∧(w'.heap[s_]? = some (.cells #[.int .i64 0,.int .i64 0,.int .i64 0,.bool false] 25 (0,0)))∧(w.heap.size ≤ s_)∧(w.heap.size ≤ s_)∧(Qf ≠ s_)∧(s_ ≠ Qf)∧(QD ≠ s_)∧(s_ ≠ QD)∧(Qm ≠ s_)∧(s_ ≠ Qm)∧(Below w.heap.size w w')) ?_ ?_
      rotate_left
      ·intro hCont
       refine two_ (i:=6) (j:=11) (Ni:=some 25) (Nj:=some 8) #[true,true,true,true,true,true,true,false,false,false,false,false,false,false,false] #[true,true,true,true,true,true,false,false,false,false,false,true,false,false,false] rfl rfl rfl rfl (two_of HT_.out (by kernel_rfl)) (by decide) (by decide) (fun K hK=>?_) (fun K hK=>?_)
       ·skip
        refine goes_ Try.func10 (by kernel_rfl) rfl #[.agg #[.int .i64 QF,.int .i64 QG,.int .i64 QH,.int .i64 QI,.int .i64 QJ,.int .i64 QK,.int .i64 QL,.int .i64 QM,.int .i64 QN,.int .i64 QO,.int .i64 Qw,.int .i64 Qx,.int .i64 Qy,.int .i64 Qz,.int .i64 QA,.int .i64 QB],.agg #[.int .i64 Qh,.int .i64 Qi,.int .i64 Qj,.bool Qk],.slice A104_0 (rd_L2 l1 QE).length c104_0] (by rfl) rfl rfl (by (try simp only [List.map_toArray,List.map_cons,List.map_nil]);first|done|rfl|(simp only [List.length_drop,List.length_take];rfl)) ?_
        with_reducible refine (vespersref15_Turn.calls k1 QF QG QH QI QJ QK QL QM QN QO Qw Qx Qy Qz QA QB Qh Qi Qj Qk _ _ (rd_L2 l1 QE) QQ QR QV QX Zb QS _ ?side1 ?side2 A11.out).mono ?_
        (case side1=>repeat (first|exact (Kd.C_below HR104_0.out HB.out)|(with_reducible refine Kd.C_alloc ?_ _)|(with_reducible refine Kd.C_drewN ?_ _)|(with_reducible refine Kd.C_drew ?_)))
        (case side2=>exact HC104_0.out)
        rintro e w29 ⟨rfl,hb⟩
        refine ⟨_,rfl,?_⟩
        have n0_:=kb_ Qb hb
        have n1_:=kb_ Qg hb
        have n2_:=kb_ Qe hb
        have n3_:=ks_ HB hb
        clear Qb
        clear Qg
        clear Qe
        clear HB
        have Qb:=n0_
        have Qg:=n1_
        have Qe:=n2_
        have HB:=n3_
        clear n0_ n1_ n2_ n3_
        (try clear hb)
        (try clear hb2)
        (try clear hk)
        (try clear hi)
        refine hK.out _ _ ⟨(blk_cell Qb.out 0).trans rfl,(blk_cell Qb.out 1).trans rfl,(blk_cell Qb.out 2).trans rfl,(blk_cell Qb.out 3).trans rfl,(blk_cell Qb.out 4).trans rfl,(blk_cell Qb.out 5).trans rfl,(blk_cell Qb.out 6).trans rfl,(blk_cell Qb.out 7).trans rfl,(blk_cell Qb.out 8).trans rfl,(blk_cell Qb.out 9).trans rfl,(blk_cell Qb.out 10).trans rfl,(blk_cell Qb.out 11).trans rfl,(blk_cell Qb.out 12).trans rfl,(blk_cell Qb.out 13).trans rfl,(blk_cell Qb.out 14).trans rfl,(blk_cell Qb.out 15).trans rfl,(blk_cell Qe.out 0).trans rfl,(blk_cell Qe.out 1).trans rfl,(blk_cell Qe.out 2).trans rfl,(blk_cell Qe.out 3).trans rfl,((HB.out.cell (World.block_lt_of_cell? w _ hw104_0)).trans hw104_0)⟩ (fun hHeld=>?_)
        clear hK K
        refine norm_ (a':=?_) ?_ ?_
        rotate_left
        ·show Act.put _ (some 25) _ = _
         simp only [Act.put,List.setIfInBounds_toArray,List.set_cons_zero,List.set_cons_succ,i64_w,i32_w]
         rfl
        refine pure_ (i:=7) (N:=some 18) (v:=?_) (a':=?_) #[true,true,true,true,true,true,true,true,false,false,false,false,false,false,false] rfl rfl (any_of HT_.out (by kernel_rfl)) (fun _ _ _ h=>h) (Or.inl ⟨by rfl,?_⟩) ?_ ?_
        rotate_left
        ·intro w'
         go_simp
         with_reducible rfl
        rotate_left
        ·simp only [Act.put,List.setIfInBounds_toArray,List.set_cons_zero,List.set_cons_succ,i64_w,i32_w]
         rfl
        refine pure_ (i:=8) (N:=some 26) (v:=?_) (a':=?_) #[true,true,true,true,true,true,true,true,true,false,false,false,false,false,false] rfl rfl (any_of HT_.out (by kernel_rfl)) (fun _ _ _ h=>h) (Or.inl ⟨by rfl,?_⟩) ?_ ?_
        rotate_left
        ·intro w'
         go_simp
         with_reducible rfl
        rotate_left
        ·simp only [Act.put,List.setIfInBounds_toArray,List.set_cons_zero,List.set_cons_succ,i64_w,i32_w]
         rfl
        refine pure_ (i:=9) (N:=some 27) (v:=?_) (a':=?_) #[true,true,true,true,true,true,true,true,true,true,false,false,false,false,false] rfl rfl (any_of HT_.out (by kernel_rfl)) (fun _ _ _ h=>h) (Or.inl ⟨by rfl,?_⟩) ?_ ?_
        rotate_left
        ·intro w'
         go_simp
         with_reducible rfl
        rotate_left
        ·simp only [Act.put,List.setIfInBounds_toArray,List.set_cons_zero,List.set_cons_succ,i64_w,i32_w]
         rfl
        refine pure_ (i:=10) (N:=some 28) (v:=?_) (a':=?_) #[true,true,true,true,true,true,true,true,true,true,true,false,false,false,false] rfl rfl (any_of HT_.out (by kernel_rfl)) (fun _ _ _ h=>h) (Or.inl ⟨by rfl,?_⟩) ?_ ?_
        rotate_left
        ·intro w'
         go_simp
         with_reducible rfl
        rotate_left
        ·simp only [Act.put,List.setIfInBounds_toArray,List.set_cons_zero,List.set_cons_succ,i64_w,i32_w]
         rfl
        refine one_ (i:=11) (N:=some 8) #[true,true,true,true,true,true,true,true,true,true,true,true,false,false,false] rfl rfl (one_of HT_.out (by kernel_rfl)) (by decide) (fun K hK=>?_)
        refine box_step ?hg (N:=8) ?hd (cs:=#[.int .i64 0,.int .i64 0,.int .i64 0,.bool false]) (t:=25) ?hr ?_;(case hd=>rfl);(case hg=>rfl);(case hr=>first|(go_simp;done)|(go_simp;rfl))
        intro Qc hg w30 hbox hb
        have n0_:=kb_ Qb hb
        have n1_:=kb_ Qg hb
        have n2_:=kb_ Qe hb
        have n3_:=ks_ HB hb
        have n4_:=Aside0.mk (hbox)
        have n5_:=Aside0.mk ((by rw [hg];exact (kz_ HB) : w.heap.size ≤ Qc))
        have n6_:=Aside0.mk ((by rw [hg];exact (kz_ HB) : w.heap.size ≤ Qc))
        have n7_:=nl_ Qb hg
        have n8_:=ng_ Qb hg
        have n9_:=nl_ Qg hg
        have n10_:=ng_ Qg hg
        have n11_:=nl_ Qe hg
        have n12_:=ng_ Qe hg
        clear Qb
        clear Qg
        clear Qe
        clear HB
        have Qb:=n0_
        have Qg:=n1_
        have Qe:=n2_
        have HB:=n3_
        have Qn:=n4_
        have GW111:=n5_
        have QP:=n6_
        have Qa:=n7_
        have Qo:=n8_
        have Ql:=n9_
        have Qp:=n10_
        have Qd:=n11_
        have Qq:=n12_
        clear n0_ n1_ n2_ n3_ n4_ n5_ n6_ n7_ n8_ n9_ n10_ n11_ n12_
        clear hb hbox hg
        refine hK.out _ _ ⟨(blk_cell Qb.out 0).trans rfl,(blk_cell Qb.out 1).trans rfl,(blk_cell Qb.out 2).trans rfl,(blk_cell Qb.out 3).trans rfl,(blk_cell Qb.out 4).trans rfl,(blk_cell Qb.out 5).trans rfl,(blk_cell Qb.out 6).trans rfl,(blk_cell Qb.out 7).trans rfl,(blk_cell Qb.out 8).trans rfl,(blk_cell Qb.out 9).trans rfl,(blk_cell Qb.out 10).trans rfl,(blk_cell Qb.out 11).trans rfl,(blk_cell Qb.out 12).trans rfl,(blk_cell Qb.out 13).trans rfl,(blk_cell Qb.out 14).trans rfl,(blk_cell Qb.out 15).trans rfl,(blk_cell Qe.out 0).trans rfl,(blk_cell Qe.out 1).trans rfl,(blk_cell Qe.out 2).trans rfl,(blk_cell Qe.out 3).trans rfl,((HB.out.cell (World.block_lt_of_cell? w _ hw104_0)).trans hw104_0)⟩ (fun hHeld=>?_)
        clear hK K
        refine norm_ (a':=?_) ?_ ?_
        rotate_left
        ·show Act.put _ (some 8) _ = _
         simp only [Act.put,List.setIfInBounds_toArray,List.set_cons_zero,List.set_cons_succ,i64_w,i32_w]
         rfl
        exact norm_ (by simp only [putAll,Act.put,List.setIfInBounds_toArray,List.set_cons_zero,List.set_cons_succ]) (hCont (Qc) _ ⟨hHeld,(by (with_reducible repeat (first|refine blk_drewN ?_ _|refine blk_drew ?_|refine blk_alloc ?_ _));exact Qb.out),(by (with_reducible repeat (first|refine blk_drewN ?_ _|refine blk_drew ?_|refine blk_alloc ?_ _));exact Qg.out),(by (with_reducible repeat (first|refine blk_drewN ?_ _|refine blk_drew ?_|refine blk_alloc ?_ _));exact Qe.out),(by (with_reducible repeat (first|refine blk_drewN ?_ _|refine blk_drew ?_|refine blk_alloc ?_ _));exact Qn.out),GW111.out,QP.out,Qa.out,Qo.out,Ql.out,Qp.out,Qd.out,Qq.out,(by repeat (first|(with_reducible first|exact HB.out|apply below_alloc|apply pw_below_drewN|apply below_drew1|refine below_set ?_ QY.out|refine below_set ?_ QZ.out|refine below_set ?_ Za.out|refine below_set ?_ QP.out)|exact HB.out))⟩)
       ·skip
        refine box_step ?hg (N:=8) ?hd (cs:=#[.int .i64 0,.int .i64 0,.int .i64 0,.bool false]) (t:=25) ?hr ?_;(case hd=>rfl);(case hg=>rfl);(case hr=>first|(go_simp;done)|(go_simp;rfl))
        intro Qc hg w29 hbox hb
        have n0_:=kb_ Qb hb
        have n1_:=kb_ Qg hb
        have n2_:=kb_ Qe hb
        have n3_:=ks_ HB hb
        have n4_:=Aside0.mk (hbox)
        have n5_:=Aside0.mk ((by rw [hg];exact (kz_ HB) : w.heap.size ≤ Qc))
        have n6_:=Aside0.mk ((by rw [hg];exact (kz_ HB) : w.heap.size ≤ Qc))
        have n7_:=nl_ Qb hg
        have n8_:=ng_ Qb hg
        have n9_:=nl_ Qg hg
        have n10_:=ng_ Qg hg
        have n11_:=nl_ Qe hg
        have n12_:=ng_ Qe hg
        clear Qb
        clear Qg
        clear Qe
        clear HB
        have Qb:=n0_
        have Qg:=n1_
        have Qe:=n2_
        have HB:=n3_
        have Qn:=n4_
        have GW111:=n5_
        have QP:=n6_
        have Qa:=n7_
        have Qo:=n8_
        have Ql:=n9_
        have Qp:=n10_
        have Qd:=n11_
        have Qq:=n12_
        clear n0_ n1_ n2_ n3_ n4_ n5_ n6_ n7_ n8_ n9_ n10_ n11_ n12_
        clear hb hbox hg
        refine hK.out _ _ ⟨(blk_cell Qb.out 0).trans rfl,(blk_cell Qb.out 1).trans rfl,(blk_cell Qb.out 2).trans rfl,(blk_cell Qb.out 3).trans rfl,(blk_cell Qb.out 4).trans rfl,(blk_cell Qb.out 5).trans rfl,(blk_cell Qb.out 6).trans rfl,(blk_cell Qb.out 7).trans rfl,(blk_cell Qb.out 8).trans rfl,(blk_cell Qb.out 9).trans rfl,(blk_cell Qb.out 10).trans rfl,(blk_cell Qb.out 11).trans rfl,(blk_cell Qb.out 12).trans rfl,(blk_cell Qb.out 13).trans rfl,(blk_cell Qb.out 14).trans rfl,(blk_cell Qb.out 15).trans rfl,(blk_cell Qe.out 0).trans rfl,(blk_cell Qe.out 1).trans rfl,(blk_cell Qe.out 2).trans rfl,(blk_cell Qe.out 3).trans rfl,((HB.out.cell (World.block_lt_of_cell? w _ hw104_0)).trans hw104_0)⟩ (fun hHeld=>?_)
        clear hK K
        refine norm_ (a':=?_) ?_ ?_
        rotate_left
        ·show Act.put _ (some 8) _ = _
         simp only [Act.put,List.setIfInBounds_toArray,List.set_cons_zero,List.set_cons_succ,i64_w,i32_w]
         rfl
        refine one_ (i:=6) (N:=some 25) #[true,true,true,true,true,true,true,false,false,false,false,true,false,false,false] rfl rfl (one_of HT_.out (by kernel_rfl)) (by decide) (fun K hK=>?_)
        refine goes_ Try.func10 (by kernel_rfl) rfl #[.agg #[.int .i64 QF,.int .i64 QG,.int .i64 QH,.int .i64 QI,.int .i64 QJ,.int .i64 QK,.int .i64 QL,.int .i64 QM,.int .i64 QN,.int .i64 QO,.int .i64 Qw,.int .i64 Qx,.int .i64 Qy,.int .i64 Qz,.int .i64 QA,.int .i64 QB],.agg #[.int .i64 Qh,.int .i64 Qi,.int .i64 Qj,.bool Qk],.slice A104_0 (rd_L2 l1 QE).length c104_0] (by rfl) rfl rfl (by (try simp only [List.map_toArray,List.map_cons,List.map_nil]);first|done|rfl|(simp only [List.length_drop,List.length_take];rfl)) ?_
        with_reducible refine (vespersref15_Turn.calls k1 QF QG QH QI QJ QK QL QM QN QO Qw Qx Qy Qz QA QB Qh Qi Qj Qk _ _ (rd_L2 l1 QE) QQ QR QV QX Zb QS _ ?side1 ?side2 A11.out).mono ?_
        (case side1=>repeat (first|exact (Kd.C_below HR104_0.out HB.out)|(with_reducible refine Kd.C_alloc ?_ _)|(with_reducible refine Kd.C_drewN ?_ _)|(with_reducible refine Kd.C_drew ?_)))
        (case side2=>exact HC104_0.out)
        rintro e w30 ⟨rfl,hb⟩
        refine ⟨_,rfl,?_⟩
        have n0_:=kb_ Qb hb
        have n1_:=kb_ Qg hb
        have n2_:=kb_ Qe hb
        have n3_:=kb_ Qn hb
        have n4_:=ks_ HB hb
        clear Qb
        clear Qg
        clear Qe
        clear Qn
        clear HB
        have Qb:=n0_
        have Qg:=n1_
        have Qe:=n2_
        have Qn:=n3_
        have HB:=n4_
        clear n0_ n1_ n2_ n3_ n4_
        (try clear hb)
        (try clear hb2)
        (try clear hk)
        (try clear hi)
        refine hK.out _ _ ⟨(blk_cell Qb.out 0).trans rfl,(blk_cell Qb.out 1).trans rfl,(blk_cell Qb.out 2).trans rfl,(blk_cell Qb.out 3).trans rfl,(blk_cell Qb.out 4).trans rfl,(blk_cell Qb.out 5).trans rfl,(blk_cell Qb.out 6).trans rfl,(blk_cell Qb.out 7).trans rfl,(blk_cell Qb.out 8).trans rfl,(blk_cell Qb.out 9).trans rfl,(blk_cell Qb.out 10).trans rfl,(blk_cell Qb.out 11).trans rfl,(blk_cell Qb.out 12).trans rfl,(blk_cell Qb.out 13).trans rfl,(blk_cell Qb.out 14).trans rfl,(blk_cell Qb.out 15).trans rfl,(blk_cell Qe.out 0).trans rfl,(blk_cell Qe.out 1).trans rfl,(blk_cell Qe.out 2).trans rfl,(blk_cell Qe.out 3).trans rfl,((HB.out.cell (World.block_lt_of_cell? w _ hw104_0)).trans hw104_0)⟩ (fun hHeld=>?_)
        clear hK K
        refine norm_ (a':=?_) ?_ ?_
        rotate_left
        ·show Act.put _ (some 25) _ = _
         simp only [Act.put,List.setIfInBounds_toArray,List.set_cons_zero,List.set_cons_succ,i64_w,i32_w]
         rfl
        refine pure_ (i:=7) (N:=some 18) (v:=?_) (a':=?_) #[true,true,true,true,true,true,true,true,false,false,false,true,false,false,false] rfl rfl (any_of HT_.out (by kernel_rfl)) (fun _ _ _ h=>h) (Or.inl ⟨by rfl,?_⟩) ?_ ?_
        rotate_left
        ·intro w'
         go_simp
         with_reducible rfl
        rotate_left
        ·simp only [Act.put,List.setIfInBounds_toArray,List.set_cons_zero,List.set_cons_succ,i64_w,i32_w]
         rfl
        refine pure_ (i:=8) (N:=some 26) (v:=?_) (a':=?_) #[true,true,true,true,true,true,true,true,true,false,false,true,false,false,false] rfl rfl (any_of HT_.out (by kernel_rfl)) (fun _ _ _ h=>h) (Or.inl ⟨by rfl,?_⟩) ?_ ?_
        rotate_left
        ·intro w'
         go_simp
         with_reducible rfl
        rotate_left
        ·simp only [Act.put,List.setIfInBounds_toArray,List.set_cons_zero,List.set_cons_succ,i64_w,i32_w]
         rfl
        refine pure_ (i:=9) (N:=some 27) (v:=?_) (a':=?_) #[true,true,true,true,true,true,true,true,true,true,false,true,false,false,false] rfl rfl (any_of HT_.out (by kernel_rfl)) (fun _ _ _ h=>h) (Or.inl ⟨by rfl,?_⟩) ?_ ?_
        rotate_left
        ·intro w'
         go_simp
         with_reducible rfl
        rotate_left
        ·simp only [Act.put,List.setIfInBounds_toArray,List.set_cons_zero,List.set_cons_succ,i64_w,i32_w]
         rfl
        refine pure_ (i:=10) (N:=some 28) (v:=?_) (a':=?_) #[true,true,true,true,true,true,true,true,true,true,true,true,false,false,false] rfl rfl (any_of HT_.out (by kernel_rfl)) (fun _ _ _ h=>h) (Or.inl ⟨by rfl,?_⟩) ?_ ?_
        rotate_left
        ·intro w'
         go_simp
         with_reducible rfl
        rotate_left
        ·simp only [Act.put,List.setIfInBounds_toArray,List.set_cons_zero,List.set_cons_succ,i64_w,i32_w]
         rfl
        exact norm_ (by simp only [putAll,Act.put,List.setIfInBounds_toArray,List.set_cons_zero,List.set_cons_succ]) (hCont (Qc) _ ⟨hHeld,(by (with_reducible repeat (first|refine blk_drewN ?_ _|refine blk_drew ?_|refine blk_alloc ?_ _));exact Qb.out),(by (with_reducible repeat (first|refine blk_drewN ?_ _|refine blk_drew ?_|refine blk_alloc ?_ _));exact Qg.out),(by (with_reducible repeat (first|refine blk_drewN ?_ _|refine blk_drew ?_|refine blk_alloc ?_ _));exact Qe.out),(by (with_reducible repeat (first|refine blk_drewN ?_ _|refine blk_drew ?_|refine blk_alloc ?_ _));exact Qn.out),GW111.out,QP.out,Qa.out,Qo.out,Ql.out,Qp.out,Qd.out,Qq.out,(by repeat (first|(with_reducible first|exact HB.out|apply below_alloc|apply pw_below_drewN|apply below_drew1|refine below_set ?_ QY.out|refine below_set ?_ QZ.out|refine below_set ?_ Za.out|refine below_set ?_ QP.out)|exact HB.out))⟩)
      rintro Qc w31 ⟨hS_,h0_,h1_,h2_,h3_,h4_,h5_,h6_,h7_,h8_,h9_,h10_,h11_,h12_⟩
      have n0_ : Aside0 (w31.heap[Qf]? = some (.cells #[.int .i64 QF,.int .i64 QG,.int .i64 QH,.int .i64 QI,.int .i64 QJ,.int .i64 QK,.int .i64 QL,.int .i64 QM,.int .i64 QN,.int .i64 QO,.int .i64 Qw,.int .i64 Qx,.int .i64 Qy,.int .i64 Qz,.int .i64 QA,.int .i64 QB] 23 (0,0))):=⟨h0_⟩
      have n1_ : Aside0 (w31.heap[QD]? = some (.cells #[.int .i64 QC,.int .i64 Qu,.int .i64 Qt,.bool Qr] 25 (0,0))):=⟨h1_⟩
      have n2_ : Aside0 (w31.heap[Qm]? = some (.cells #[.int .i64 Qh,.int .i64 Qi,.int .i64 Qj,.bool Qk] 25 (0,0))):=⟨h2_⟩
      have n3_ : Aside0 (w31.heap[Qc]? = some (.cells #[.int .i64 0,.int .i64 0,.int .i64 0,.bool false] 25 (0,0))):=⟨h3_⟩
      have n4_ : Aside0 (w.heap.size ≤ Qc):=⟨h4_⟩
      have n5_ : Aside0 (w.heap.size ≤ Qc):=⟨h5_⟩
      have n6_ : Aside0 (Qf ≠ Qc):=⟨h6_⟩
      have n7_ : Aside0 (Qc ≠ Qf):=⟨h7_⟩
      have n8_ : Aside0 (QD ≠ Qc):=⟨h8_⟩
      have n9_ : Aside0 (Qc ≠ QD):=⟨h9_⟩
      have n10_ : Aside0 (Qm ≠ Qc):=⟨h10_⟩
      have n11_ : Aside0 (Qc ≠ Qm):=⟨h11_⟩
      have n12_ : Aside0 (Below w.heap.size w w31):=⟨h12_⟩
      clear Qb
      clear Qg
      clear Qe
      clear HB
      clear h0_ h1_ h2_ h3_ h4_ h5_ h6_ h7_ h8_ h9_ h10_ h11_ h12_
      have Qb:=n0_
      have Qg:=n1_
      have Qe:=n2_
      have Qn:=n3_
      have GW111:=n4_
      have QP:=n5_
      have Qa:=n6_
      have Qo:=n7_
      have Ql:=n8_
      have Qp:=n9_
      have Qd:=n10_
      have Qq:=n11_
      have HB:=n12_
      clear n0_ n1_ n2_ n3_ n4_ n5_ n6_ n7_ n8_ n9_ n10_ n11_ n12_
      have hHeld : w31.cell? ⟨Qf,0,none⟩ = some (.int .i64 QF)∧w31.cell? ⟨Qf,1,none⟩ = some (.int .i64 QG)∧w31.cell? ⟨Qf,2,none⟩ = some (.int .i64 QH)∧w31.cell? ⟨Qf,3,none⟩ = some (.int .i64 QI)∧w31.cell? ⟨Qf,4,none⟩ = some (.int .i64 QJ)∧w31.cell? ⟨Qf,5,none⟩ = some (.int .i64 QK)∧w31.cell? ⟨Qf,6,none⟩ = some (.int .i64 QL)∧w31.cell? ⟨Qf,7,none⟩ = some (.int .i64 QM)∧w31.cell? ⟨Qf,8,none⟩ = some (.int .i64 QN)∧w31.cell? ⟨Qf,9,none⟩ = some (.int .i64 QO)∧w31.cell? ⟨Qf,10,none⟩ = some (.int .i64 Qw)∧w31.cell? ⟨Qf,11,none⟩ = some (.int .i64 Qx)∧w31.cell? ⟨Qf,12,none⟩ = some (.int .i64 Qy)∧w31.cell? ⟨Qf,13,none⟩ = some (.int .i64 Qz)∧w31.cell? ⟨Qf,14,none⟩ = some (.int .i64 QA)∧w31.cell? ⟨Qf,15,none⟩ = some (.int .i64 QB)∧w31.cell? ⟨Qm,0,none⟩ = some (.int .i64 Qh)∧w31.cell? ⟨Qm,1,none⟩ = some (.int .i64 Qi)∧w31.cell? ⟨Qm,2,none⟩ = some (.int .i64 Qj)∧w31.cell? ⟨Qm,3,none⟩ = some (.bool Qk)∧w31.cell? (ad104.add (QE).toNat) = some (.slice A104_0 (rd_L2 l1 QE).length c104_0):=hS_
      refine norm_ (a':=?_) ?_ ?_
      rotate_left
      ·simp only [putAll,Act.put,List.setIfInBounds_toArray,List.set_cons_zero,List.set_cons_succ]
       rfl
      refine one_ (i:=12) (N:=none) #[true,true,true,true,true,true,true,true,true,true,true,true,true,false,false] rfl rfl (one_of HT_.out (by kernel_rfl)) (by decide) (fun K hK=>?_)
      have hs32 : w31.cell? ⟨Qc,0,none⟩ = some (.int .i64 0):=(blk_cell Qn.out 0).trans rfl
      have hfs32:=blk_frozen Qn.out 0
      have hns32_0:=Qa.out
      have hns32_1:=Ql.out
      have hns32_2:=Qd.out
      have hms32_0:=Qo.out
      have hms32_1:=Qp.out
      have hms32_2:=Qq.out
      have hs33 : w31.cell? ⟨Qc,1,none⟩ = some (.int .i64 0):=(blk_cell Qn.out 1).trans rfl
      have hfs33:=blk_frozen Qn.out 1
      have hns33_0:=Qa.out
      have hns33_1:=Ql.out
      have hns33_2:=Qd.out
      have hms33_0:=Qo.out
      have hms33_1:=Qp.out
      have hms33_2:=Qq.out
      have hs34 : w31.cell? ⟨Qc,2,none⟩ = some (.int .i64 0):=(blk_cell Qn.out 2).trans rfl
      have hfs34:=blk_frozen Qn.out 2
      have hns34_0:=Qa.out
      have hns34_1:=Ql.out
      have hns34_2:=Qd.out
      have hms34_0:=Qo.out
      have hms34_1:=Qp.out
      have hms34_2:=Qq.out
      have hs35 : w31.cell? ⟨Qc,3,none⟩ = some (.bool false):=(blk_cell Qn.out 3).trans rfl
      have hfs35:=blk_frozen Qn.out 3
      have hns35_0:=Qa.out
      have hns35_1:=Ql.out
      have hns35_2:=Qd.out
      have hms35_0:=Qo.out
      have hms35_1:=Qp.out
      have hms35_2:=Qq.out
      refine skip_ (w1:=?_) (by rfl) rfl ?_ ?_
      rotate_left
      ·go_simp
       rfl
      refine hK.out _ _ ⟨((cell_far (p:=⟨Qc,_,none⟩) Qa.out _).trans (((cell_far (p:=⟨Qc,_,none⟩) Qa.out _).trans (((cell_far (p:=⟨Qc,_,none⟩) Qa.out _).trans (((cell_far (p:=⟨Qc,_,none⟩) Qa.out _).trans (hHeld.1)))))))),((cell_far (p:=⟨Qc,_,none⟩) Qa.out _).trans (((cell_far (p:=⟨Qc,_,none⟩) Qa.out _).trans (((cell_far (p:=⟨Qc,_,none⟩) Qa.out _).trans (((cell_far (p:=⟨Qc,_,none⟩) Qa.out _).trans (hHeld.2.1)))))))),((cell_far (p:=⟨Qc,_,none⟩) Qa.out _).trans (((cell_far (p:=⟨Qc,_,none⟩) Qa.out _).trans (((cell_far (p:=⟨Qc,_,none⟩) Qa.out _).trans (((cell_far (p:=⟨Qc,_,none⟩) Qa.out _).trans (hHeld.2.2.1)))))))),((cell_far (p:=⟨Qc,_,none⟩) Qa.out _).trans (((cell_far (p:=⟨Qc,_,none⟩) Qa.out _).trans (((cell_far (p:=⟨Qc,_,none⟩) Qa.out _).trans (((cell_far (p:=⟨Qc,_,none⟩) Qa.out _).trans (hHeld.2.2.2.1)))))))),((cell_far (p:=⟨Qc,_,none⟩) Qa.out _).trans (((cell_far (p:=⟨Qc,_,none⟩) Qa.out _).trans (((cell_far (p:=⟨Qc,_,none⟩) Qa.out _).trans (((cell_far (p:=⟨Qc,_,none⟩) Qa.out _).trans (hHeld.2.2.2.2.1)))))))),((cell_far (p:=⟨Qc,_,none⟩) Qa.out _).trans (((cell_far (p:=⟨Qc,_,none⟩) Qa.out _).trans (((cell_far (p:=⟨Qc,_,none⟩) Qa.out _).trans (((cell_far (p:=⟨Qc,_,none⟩) Qa.out _).trans (hHeld.2.2.2.2.2.1)))))))),((cell_far (p:=⟨Qc,_,none⟩) Qa.out _).trans (((cell_far (p:=⟨Qc,_,none⟩) Qa.out _).trans (((cell_far (p:=⟨Qc,_,none⟩) Qa.out _).trans (((cell_far (p:=⟨Qc,_,none⟩) Qa.out _).trans (hHeld.2.2.2.2.2.2.1)))))))),((cell_far (p:=⟨Qc,_,none⟩) Qa.out _).trans (((cell_far (p:=⟨Qc,_,none⟩) Qa.out _).trans (((cell_far (p:=⟨Qc,_,none⟩) Qa.out _).trans (((cell_far (p:=⟨Qc,_,none⟩) Qa.out _).trans (hHeld.2.2.2.2.2.2.2.1)))))))),((cell_far (p:=⟨Qc,_,none⟩) Qa.out _).trans (((cell_far (p:=⟨Qc,_,none⟩) Qa.out _).trans (((cell_far (p:=⟨Qc,_,none⟩) Qa.out _).trans (((cell_far (p:=⟨Qc,_,none⟩) Qa.out _).trans (hHeld.2.2.2.2.2.2.2.2.1)))))))),((cell_far (p:=⟨Qc,_,none⟩) Qa.out _).trans (((cell_far (p:=⟨Qc,_,none⟩) Qa.out _).trans (((cell_far (p:=⟨Qc,_,none⟩) Qa.out _).trans (((cell_far (p:=⟨Qc,_,none⟩) Qa.out _).trans (hHeld.2.2.2.2.2.2.2.2.2.1)))))))),((cell_far (p:=⟨Qc,_,none⟩) Qa.out _).trans (((cell_far (p:=⟨Qc,_,none⟩) Qa.out _).trans (((cell_far (p:=⟨Qc,_,none⟩) Qa.out _).trans (((cell_far (p:=⟨Qc,_,none⟩) Qa.out _).trans (hHeld.2.2.2.2.2.2.2.2.2.2.1)))))))),((cell_far (p:=⟨Qc,_,none⟩) Qa.out _).trans (((cell_far (p:=⟨Qc,_,none⟩) Qa.out _).trans (((cell_far (p:=⟨Qc,_,none⟩) Qa.out _).trans (((cell_far (p:=⟨Qc,_,none⟩) Qa.out _).trans (hHeld.2.2.2.2.2.2.2.2.2.2.2.1)))))))),((cell_far (p:=⟨Qc,_,none⟩) Qa.out _).trans (((cell_far (p:=⟨Qc,_,none⟩) Qa.out _).trans (((cell_far (p:=⟨Qc,_,none⟩) Qa.out _).trans (((cell_far (p:=⟨Qc,_,none⟩) Qa.out _).trans (hHeld.2.2.2.2.2.2.2.2.2.2.2.2.1)))))))),((cell_far (p:=⟨Qc,_,none⟩) Qa.out _).trans (((cell_far (p:=⟨Qc,_,none⟩) Qa.out _).trans (((cell_far (p:=⟨Qc,_,none⟩) Qa.out _).trans (((cell_far (p:=⟨Qc,_,none⟩) Qa.out _).trans (hHeld.2.2.2.2.2.2.2.2.2.2.2.2.2.1)))))))),((cell_far (p:=⟨Qc,_,none⟩) Qa.out _).trans (((cell_far (p:=⟨Qc,_,none⟩) Qa.out _).trans (((cell_far (p:=⟨Qc,_,none⟩) Qa.out _).trans (((cell_far (p:=⟨Qc,_,none⟩) Qa.out _).trans (hHeld.2.2.2.2.2.2.2.2.2.2.2.2.2.2.1)))))))),((cell_far (p:=⟨Qc,_,none⟩) Qa.out _).trans (((cell_far (p:=⟨Qc,_,none⟩) Qa.out _).trans (((cell_far (p:=⟨Qc,_,none⟩) Qa.out _).trans (((cell_far (p:=⟨Qc,_,none⟩) Qa.out _).trans (hHeld.2.2.2.2.2.2.2.2.2.2.2.2.2.2.2.1)))))))),((cell_far (p:=⟨Qc,_,none⟩) Qd.out _).trans (((cell_far (p:=⟨Qc,_,none⟩) Qd.out _).trans (((cell_far (p:=⟨Qc,_,none⟩) Qd.out _).trans (((cell_far (p:=⟨Qc,_,none⟩) Qd.out _).trans (hHeld.2.2.2.2.2.2.2.2.2.2.2.2.2.2.2.2.1)))))))),((cell_far (p:=⟨Qc,_,none⟩) Qd.out _).trans (((cell_far (p:=⟨Qc,_,none⟩) Qd.out _).trans (((cell_far (p:=⟨Qc,_,none⟩) Qd.out _).trans (((cell_far (p:=⟨Qc,_,none⟩) Qd.out _).trans (hHeld.2.2.2.2.2.2.2.2.2.2.2.2.2.2.2.2.2.1)))))))),((cell_far (p:=⟨Qc,_,none⟩) Qd.out _).trans (((cell_far (p:=⟨Qc,_,none⟩) Qd.out _).trans (((cell_far (p:=⟨Qc,_,none⟩) Qd.out _).trans (((cell_far (p:=⟨Qc,_,none⟩) Qd.out _).trans (hHeld.2.2.2.2.2.2.2.2.2.2.2.2.2.2.2.2.2.2.1)))))))),((cell_far (p:=⟨Qc,_,none⟩) Qd.out _).trans (((cell_far (p:=⟨Qc,_,none⟩) Qd.out _).trans (((cell_far (p:=⟨Qc,_,none⟩) Qd.out _).trans (((cell_far (p:=⟨Qc,_,none⟩) Qd.out _).trans (hHeld.2.2.2.2.2.2.2.2.2.2.2.2.2.2.2.2.2.2.2.1)))))))),((cell_far (p:=⟨Qc,_,none⟩) (by first|exact Nat.ne_of_lt (Nat.lt_of_lt_of_le (by have:=World.block_lt_of_cell? _ _ hw104_0;first|rwa [add_block] at this|exact this) GW111.out)|(rw [add_block];exact Nat.ne_of_lt (Nat.lt_of_lt_of_le (by have:=World.block_lt_of_cell? _ _ hw104_0;first|rwa [add_block] at this|exact this) GW111.out))|(show (Addr.add _ _).block ≠ _;rw [add_block];exact Nat.ne_of_lt (Nat.lt_of_lt_of_le (by have:=World.block_lt_of_cell? _ _ hw104_0;first|rwa [add_block] at this|exact this) GW111.out))|(dsimp only;exact Nat.ne_of_lt (Nat.lt_of_lt_of_le (by have:=World.block_lt_of_cell? _ _ hw104_0;first|rwa [add_block] at this|exact this) GW111.out))) _).trans (((cell_far (p:=⟨Qc,_,none⟩) (by first|exact Nat.ne_of_lt (Nat.lt_of_lt_of_le (by have:=World.block_lt_of_cell? _ _ hw104_0;first|rwa [add_block] at this|exact this) GW111.out)|(rw [add_block];exact Nat.ne_of_lt (Nat.lt_of_lt_of_le (by have:=World.block_lt_of_cell? _ _ hw104_0;first|rwa [add_block] at this|exact this) GW111.out))|(show (Addr.add _ _).block ≠ _;rw [add_block];exact Nat.ne_of_lt (Nat.lt_of_lt_of_le (by have:=World.block_lt_of_cell? _ _ hw104_0;first|rwa [add_block] at this|exact this) GW111.out))|(dsimp only;exact Nat.ne_of_lt (Nat.lt_of_lt_of_le (by have:=World.block_lt_of_cell? _ _ hw104_0;first|rwa [add_block] at this|exact this) GW111.out))) _).trans (((cell_far (p:=⟨Qc,_,none⟩) (by first|exact Nat.ne_of_lt (Nat.lt_of_lt_of_le (by have:=World.block_lt_of_cell? _ _ hw104_0;first|rwa [add_block] at this|exact this) GW111.out)|(rw [add_block];exact Nat.ne_of_lt (Nat.lt_of_lt_of_le (by have:=World.block_lt_of_cell? _ _ hw104_0;first|rwa [add_block] at this|exact this) GW111.out))|(show (Addr.add _ _).block ≠ _;rw [add_block];exact Nat.ne_of_lt (Nat.lt_of_lt_of_le (by have:=World.block_lt_of_cell? _ _ hw104_0;first|rwa [add_block] at this|exact this) GW111.out))|(dsimp only;exact Nat.ne_of_lt (Nat.lt_of_lt_of_le (by have:=World.block_lt_of_cell? _ _ hw104_0;first|rwa [add_block] at this|exact this) GW111.out))) _).trans (((cell_far (p:=⟨Qc,_,none⟩) (by first|exact Nat.ne_of_lt (Nat.lt_of_lt_of_le (by have:=World.block_lt_of_cell? _ _ hw104_0;first|rwa [add_block] at this|exact this) GW111.out)|(rw [add_block];exact Nat.ne_of_lt (Nat.lt_of_lt_of_le (by have:=World.block_lt_of_cell? _ _ hw104_0;first|rwa [add_block] at this|exact this) GW111.out))|(show (Addr.add _ _).block ≠ _;rw [add_block];exact Nat.ne_of_lt (Nat.lt_of_lt_of_le (by have:=World.block_lt_of_cell? _ _ hw104_0;first|rwa [add_block] at this|exact this) GW111.out))|(dsimp only;exact Nat.ne_of_lt (Nat.lt_of_lt_of_le (by have:=World.block_lt_of_cell? _ _ hw104_0;first|rwa [add_block] at this|exact this) GW111.out))) _).trans (hHeld.2.2.2.2.2.2.2.2.2.2.2.2.2.2.2.2.2.2.2.2))))))))⟩ (fun hHeld=>?_)
      clear hK K
      refine pure_ (i:=13) (N:=some 9) (v:=?_) (a':=?_) #[true,true,true,true,true,true,true,true,true,true,true,true,true,true,false] rfl rfl (any_of HT_.out (by kernel_rfl)) (fun _ _ _ h=>h) (Or.inl ⟨by rfl,?_⟩) ?_ ?_
      rotate_left
      ·intro w'
       go_simp
       with_reducible rfl
      rotate_left
      ·simp only [Act.put,List.setIfInBounds_toArray,List.set_cons_zero,List.set_cons_succ,i64_w,i32_w]
       rfl
      refine pure_ (i:=14) (N:=some 10) (v:=?_) (a':=?_) #[true,true,true,true,true,true,true,true,true,true,true,true,true,true,true] rfl rfl (any_of HT_.out (by kernel_rfl)) (fun _ _ _ h=>h) (Or.inl ⟨by rfl,?_⟩) ?_ ?_
      rotate_left
      ·intro w'
       go_simp
       with_reducible rfl
      rotate_left
      ·simp only [Act.put,List.setIfInBounds_toArray,List.set_cons_zero,List.set_cons_succ,i64_w,i32_w]
       rfl
      refine done_ (done_of HT_.out (by kernel_rfl)) ?_
      have hnb36:=Qo.out
      have hnc36:=Qa.out
      have hnb37:=Qp.out
      have hnc37:=Ql.out
      have hnb38:=Qq.out
      have hnc38:=Qd.out
      have hcz39_0 : w31.cell? ⟨Qc,0,none⟩ = some (.int .i64 0):=(blk_cell Qn.out 0).trans rfl
      have hcz39_1 : w31.cell? ⟨Qc,1,none⟩ = some (.int .i64 0):=(blk_cell Qn.out 1).trans rfl
      have hcz39_2 : w31.cell? ⟨Qc,2,none⟩ = some (.int .i64 0):=(blk_cell Qn.out 2).trans rfl
      have hcz39_3 : w31.cell? ⟨Qc,3,none⟩ = some (.bool false):=(blk_cell Qn.out 3).trans rfl
      have hfz39_0:=blk_frozen Qn.out 0
      have hfz39_1:=blk_frozen Qn.out 1
      have hfz39_2:=blk_frozen Qn.out 2
      have hfz39_3:=blk_frozen Qn.out 3
      have hnb40:=QT.out
      have hnc40:=Qv.out
      have hnb41:=QU.out
      have hnc41:=Qs.out
      have hcz42_0 : w31.cell? ⟨Qm,0,none⟩ = some (.int .i64 Qh):=(blk_cell Qe.out 0).trans rfl
      have hcz42_1 : w31.cell? ⟨Qm,1,none⟩ = some (.int .i64 Qi):=(blk_cell Qe.out 1).trans rfl
      have hcz42_2 : w31.cell? ⟨Qm,2,none⟩ = some (.int .i64 Qj):=(blk_cell Qe.out 2).trans rfl
      have hcz42_3 : w31.cell? ⟨Qm,3,none⟩ = some (.bool Qk):=(blk_cell Qe.out 3).trans rfl
      have hfz42_0:=blk_frozen Qe.out 0
      have hfz42_1:=blk_frozen Qe.out 1
      have hfz42_2:=blk_frozen Qe.out 2
      have hfz42_3:=blk_frozen Qe.out 3
      have hnb43:=Zd.out
      have hnc43:=Zc.out
      have hcz44_0 : w31.cell? ⟨QD,0,none⟩ = some (.int .i64 QC):=(blk_cell Qg.out 0).trans rfl
      have hcz44_1 : w31.cell? ⟨QD,1,none⟩ = some (.int .i64 Qu):=(blk_cell Qg.out 1).trans rfl
      have hcz44_2 : w31.cell? ⟨QD,2,none⟩ = some (.int .i64 Qt):=(blk_cell Qg.out 2).trans rfl
      have hcz44_3 : w31.cell? ⟨QD,3,none⟩ = some (.bool Qr):=(blk_cell Qg.out 3).trans rfl
      have hfz44_0:=blk_frozen Qg.out 0
      have hfz44_1:=blk_frozen Qg.out 1
      have hfz44_2:=blk_frozen Qg.out 2
      have hfz44_3:=blk_frozen Qg.out 3
      try go_wp2
      refine bodyPost_ret (results_ct rfl _ _ QD 25 #[.int .i64 QQ,.int .i64 QR,.int .i64 QV,.bool QX] (0,0) _ rfl (by (with_reducible repeat (first|refine blk_drewN ?_ _|refine blk_drew ?_|refine blk_alloc ?_ _));refine blk_put (cs:=#[.int .i64 QQ,.int .i64 QR,.int .i64 QV,.bool Qr]) ?_ 3 _ rfl;(with_reducible repeat (first|refine blk_drewN ?_ _|refine blk_drew ?_|refine blk_alloc ?_ _));refine blk_put (cs:=#[.int .i64 QQ,.int .i64 QR,.int .i64 Qt,.bool Qr]) ?_ 2 _ rfl;(with_reducible repeat (first|refine blk_drewN ?_ _|refine blk_drew ?_|refine blk_alloc ?_ _));refine blk_put (cs:=#[.int .i64 QQ,.int .i64 Qu,.int .i64 Qt,.bool Qr]) ?_ 1 _ rfl;(with_reducible repeat (first|refine blk_drewN ?_ _|refine blk_drew ?_|refine blk_alloc ?_ _));refine blk_put (cs:=#[.int .i64 QC,.int .i64 Qu,.int .i64 Qt,.bool Qr]) ?_ 0 _ rfl;(with_reducible repeat (first|refine blk_drewN ?_ _|refine blk_drew ?_|refine blk_alloc ?_ _));refine blk_far ?_ Qs.out _;(with_reducible repeat (first|refine blk_drewN ?_ _|refine blk_drew ?_|refine blk_alloc ?_ _));refine blk_far ?_ Qs.out _;(with_reducible repeat (first|refine blk_drewN ?_ _|refine blk_drew ?_|refine blk_alloc ?_ _));refine blk_far ?_ Qs.out _;(with_reducible repeat (first|refine blk_drewN ?_ _|refine blk_drew ?_|refine blk_alloc ?_ _));refine blk_far ?_ Qs.out _;(with_reducible repeat (first|refine blk_drewN ?_ _|refine blk_drew ?_|refine blk_alloc ?_ _));refine blk_far ?_ Ql.out _;(with_reducible repeat (first|refine blk_drewN ?_ _|refine blk_drew ?_|refine blk_alloc ?_ _));refine blk_far ?_ Ql.out _;(with_reducible repeat (first|refine blk_drewN ?_ _|refine blk_drew ?_|refine blk_alloc ?_ _));refine blk_far ?_ Ql.out _;(with_reducible repeat (first|refine blk_drewN ?_ _|refine blk_drew ?_|refine blk_alloc ?_ _));refine blk_far ?_ Ql.out _;(with_reducible repeat (first|refine blk_drewN ?_ _|refine blk_drew ?_|refine blk_alloc ?_ _));exact Qg.out) Try.underlying25 rfl (by kernel_rfl)) rfl ?_
      exact ⟨by first|rfl|(simp [errW_none,errW_some] <;> rfl)|(simp [*,errW_none,errW_some] <;> rfl),by repeat (first|(with_reducible first|exact HB.out|apply below_alloc|apply pw_below_drewN|apply below_drew1|refine below_set ?_ QY.out|refine below_set ?_ QZ.out|refine below_set ?_ Za.out|refine below_set ?_ QP.out)|exact HB.out)⟩
    ·rw [if_neg c10] at H
     exact absurd H (by simp)
   ·rw [if_neg c9] at H
    have c9b0 : decide (QE < (l1.length : Int)) = false:=decide_eq_false c9
    clear c9
    simp only [Option.some.injEq,Prod.mk.injEq] at H
    obtain ⟨rfl,rfl,rfl,rfl,rfl⟩:=H
    have hnb45:=QT.out
    have hnc45:=Qv.out
    have hnb46:=QU.out
    have hnc46:=Qs.out
    have hcz47_0 : wr.cell? ⟨Qm,0,none⟩ = some (.int .i64 Qh):=(blk_cell Qe.out 0).trans rfl
    have hcz47_1 : wr.cell? ⟨Qm,1,none⟩ = some (.int .i64 Qi):=(blk_cell Qe.out 1).trans rfl
    have hcz47_2 : wr.cell? ⟨Qm,2,none⟩ = some (.int .i64 Qj):=(blk_cell Qe.out 2).trans rfl
    have hcz47_3 : wr.cell? ⟨Qm,3,none⟩ = some (.bool Qk):=(blk_cell Qe.out 3).trans rfl
    have hfz47_0:=blk_frozen Qe.out 0
    have hfz47_1:=blk_frozen Qe.out 1
    have hfz47_2:=blk_frozen Qe.out 2
    have hfz47_3:=blk_frozen Qe.out 3
    have hnb48:=Zd.out
    have hnc48:=Zc.out
    have hcz49_0 : wr.cell? ⟨QD,0,none⟩ = some (.int .i64 QC):=(blk_cell Qg.out 0).trans rfl
    have hcz49_1 : wr.cell? ⟨QD,1,none⟩ = some (.int .i64 Qu):=(blk_cell Qg.out 1).trans rfl
    have hcz49_2 : wr.cell? ⟨QD,2,none⟩ = some (.int .i64 Qt):=(blk_cell Qg.out 2).trans rfl
    have hcz49_3 : wr.cell? ⟨QD,3,none⟩ = some (.bool Qr):=(blk_cell Qg.out 3).trans rfl
    have hfz49_0:=blk_frozen Qg.out 0
    have hfz49_1:=blk_frozen Qg.out 1
    have hfz49_2:=blk_frozen Qg.out 2
    have hfz49_3:=blk_frozen Qg.out 3
    go_wp2
    refine bodyPost_ret (results_ct rfl _ _ QD 25 #[.int .i64 Qh,.int .i64 Qi,.int .i64 Qj,.bool Qk] (0,0) _ rfl (by (with_reducible repeat (first|refine blk_drewN ?_ _|refine blk_drew ?_|refine blk_alloc ?_ _));refine blk_put (cs:=#[.int .i64 Qh,.int .i64 Qi,.int .i64 Qj,.bool Qr]) ?_ 3 _ rfl;(with_reducible repeat (first|refine blk_drewN ?_ _|refine blk_drew ?_|refine blk_alloc ?_ _));refine blk_put (cs:=#[.int .i64 Qh,.int .i64 Qi,.int .i64 Qt,.bool Qr]) ?_ 2 _ rfl;(with_reducible repeat (first|refine blk_drewN ?_ _|refine blk_drew ?_|refine blk_alloc ?_ _));refine blk_put (cs:=#[.int .i64 Qh,.int .i64 Qu,.int .i64 Qt,.bool Qr]) ?_ 1 _ rfl;(with_reducible repeat (first|refine blk_drewN ?_ _|refine blk_drew ?_|refine blk_alloc ?_ _));refine blk_put (cs:=#[.int .i64 QC,.int .i64 Qu,.int .i64 Qt,.bool Qr]) ?_ 0 _ rfl;(with_reducible repeat (first|refine blk_drewN ?_ _|refine blk_drew ?_|refine blk_alloc ?_ _));exact Qg.out) Try.underlying25 rfl (by kernel_rfl)) rfl ?_
    exact ⟨by first|rfl|(simp [errW_none,errW_some] <;> rfl)|(simp [*,errW_none,errW_some] <;> rfl),by repeat (first|(with_reducible first|exact HB.out|apply below_alloc|apply pw_below_drewN|apply below_drew1|refine below_set ?_ QY.out|refine below_set ?_ QZ.out|refine below_set ?_ Za.out)|exact HB.out)⟩

end Go.Proofs.Ytnmephdamgofnaa.PR
