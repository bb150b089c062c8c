/- Written by a program of this session (wip/jprint.py, over the printer of the kit): functions that a law comes to, as plain Lean functions, and walks; Lean checks it. -/
import Derived.Test.YtnmephdamgofnaaPBx0
namespace Go.Proofs.Ytnmephdamgofnaa.PB
open Go.RowKit Go.Proofs.Ytnmephdamgofnaa.Hand Go.Proofs.Ytnmephdamgofnaa.PA Go.Proofs.YtnmephdamgofnaaW.PrintWords Go.Proofs.YtnmephdamgofnaaW.PrintLast Go.Proofs.YtnmephdamgofnaaW.PrintMore
attribute [local go_sem] max2_int min2_int max_two min_two max_three min_three max_four min_four   -- for this text's walks alone
set_option linter.unusedVariables false
set_option linter.unusedSimpArgs false

-- BY HAND: function 26 (plan_Fails)

theorem nl_ {wp w1 : World} {g g' : Nat} {o : Obj} (h : Aside0 (wp.heap[g]? = some o)) (hg : g' = w1.heap.size) (hs : wp.heap[g]? = some o→w1.heap[g]? = some o:=by (intro h_;repeat (first|(with_reducible exact h_)|(with_reducible refine blk_drewN ?_ _)|(with_reducible refine blk_drew ?_)|(with_reducible refine blk_alloc ?_ _)))) : Aside0 (g ≠ g'):=⟨by rw [hg];exact Nat.ne_of_lt (blk_lt (hs h.out))⟩
theorem ng_ {wp w1 : World} {g g' : Nat} {o : Obj} (h : Aside0 (wp.heap[g]? = some o)) (hg : g' = w1.heap.size) (hs : wp.heap[g]? = some o→w1.heap[g]? = some o:=by (intro h_;repeat (first|(with_reducible exact h_)|(with_reducible refine blk_drewN ?_ _)|(with_reducible refine blk_drew ?_)|(with_reducible refine blk_alloc ?_ _)))) : Aside0 (g' ≠ g):=⟨by rw [hg];exact Nat.ne_of_gt (blk_lt (hs h.out))⟩
theorem kb_ {wp w1 w' : World} {g : Nat} {o : Obj} (h : Aside0 (wp.heap[g]? = some o)) (hb : Below w1.heap.size w1 w') (hs : wp.heap[g]? = some o→w1.heap[g]? = some o:=by (intro h_;repeat (first|(with_reducible exact h_)|(with_reducible refine blk_drewN ?_ _)|(with_reducible refine blk_drew ?_)|(with_reducible refine blk_alloc ?_ _)|(refine blk_far ?_ (Aside0.out (by assumption)) _)))) : Aside0 (w'.heap[g]? = some o):=⟨blk_below (hs h.out) hb⟩
theorem kr_ {α : Type} {d : Kd α} {e : Nat} {wp w1 w' : World} {base : Nat} {ok : Nat→Prop} {v : Value} {xs : List α} (h : Aside0 (d.R e wp base ok v xs)) (hb : Below w1.heap.size w1 w') (hs : d.R e wp base ok v xs→d.R e w1 base ok v xs:=by (intro h_;with_reducible repeat (first|exact h_|apply Kd.R_alloc|apply Kd.R_drewN|apply Kd.R_drew))) : Aside0 (d.R e w' base ok v xs):=⟨Kd.R_below (hs h.out) hb⟩
theorem ks_ {w W0 W w2 : World} (h : Aside0 (Below w.heap.size w W0)) (hb : Below W.heap.size W w2) (hs : Below w.heap.size w W0→Below w.heap.size w W:=by (intro h_;repeat (first|(with_reducible first|exact h_|apply below_alloc|apply pw_below_drewN|apply below_drew1|refine below_set ?_ (Aside0.out (by assumption)))|exact h_))) : Aside0 (Below w.heap.size w w2):=⟨below_step (hs h.out) hb⟩
theorem kz_ {w W0 W : World} (h : Aside0 (Below w.heap.size w W0)) (hs : Below w.heap.size w W0→Below w.heap.size w W:=by (intro h_;repeat (first|(with_reducible first|exact h_|apply below_alloc|apply pw_below_drewN|apply below_drew1|refine below_set ?_ (Aside0.out (by assumption)))|exact h_))) : w.heap.size ≤ W.heap.size:=below_size (hs h.out)
theorem rf4_ {α : Type} {d : Kd α} {e : Nat} {w : World} {base g : Nat} {ok : Nat→Prop} {v : Value} {xs : List α} {a b c z : Value} (h : d.R e w base (fun k=>ok k∧k ≠ g) v xs) : d.R e ((((w.setCell ⟨g,0,none⟩ a).setCell ⟨g,1,none⟩ b).setCell ⟨g,2,none⟩ c).setCell ⟨g,3,none⟩ z) base ok v xs :=
 Kd.R_mono (Kd.R_far (p:=⟨g,3,none⟩) (Kd.R_far (p:=⟨g,2,none⟩) (Kd.R_far (p:=⟨g,1,none⟩) (Kd.R_far (p:=⟨g,0,none⟩) h (fun _ hk=>hk.2) a) (fun _ hk=>hk.2) b) (fun _ hk=>hk.2) c) (fun _ hk=>hk.2) z) (fun _ h_=>h_.1)
/-! ### plan_Check: function 16 -/
def plan_Check.f (Qm : Int) (Qk : Int) (Qn : Int) (Qo : Int) (Qp : Int) (Qq : Int) (Qr : Int) (Qs : Int) (Qt : Int) (Qu : Int) (Qd : Int) (Qf : Int) (Qg : Int) (Qh : Int) (Qi : Int) (Qj : Int) : Option (Int):=(plan_Fails.f Qm Qk Qn Qo Qp Qq Qr Qs Qt Qu Qd Qf Qg Qh Qi Qj).bind fun QB=>(if QB = 0 then (some 0) else (some 70))
set_option maxHeartbeats 8000000 in
set_option maxRecDepth 100000 in
theorem plan_Check.calls (Qm : Int) (Qk : Int) (Qn : Int) (Qo : Int) (Qp : Int) (Qq : Int) (Qr : Int) (Qs : Int) (Qt : Int) (Qu : Int) (Qd : Int) (Qf : Int) (Qg : Int) (Qh : Int) (Qi : Int) (Qj : Int) (r : Int) (w : World) (h : plan_Check.f Qm Qk Qn Qo Qp Qq Qr Qs Qt Qu Qd Qf Qg Qh Qi Qj = some r) :
  Calls Try.prog 16 #[.agg #[.int .i64 Qm,.int .i64 Qk,.int .i64 Qn,.int .i64 Qo,.int .i64 Qp,.int .i64 Qq,.int .i64 Qr,.int .i64 Qs,.int .i64 Qt,.int .i64 Qu,.int .i64 Qd,.int .i64 Qf,.int .i64 Qg,.int .i64 Qh,.int .i64 Qi,.int .i64 Qj]] w fun e w'=>e = .returned (.int .i64 r)∧Below w.heap.size w w':=by
 have hu23:=Try.underlying23
 have HB:=Aside0.mk (Below.refl w.heap.size w)
 have H : ((plan_Fails.f Qm Qk Qn Qo Qp Qq Qr Qs Qt Qu Qd Qf Qg Qh Qi Qj).bind fun QB=>(if QB = 0 then (some 0) else (some 70))) = some r:=h
 clear h
 replace H:=Option.bind_eq_some_iff.mp H
 obtain ⟨QB,A20,H⟩:=H
 replace H : (if QB = 0 then (some 0) else (some 70)) = some r:=H
 have A2:=Aside0.mk A20
 clear A20
 by_cases c3 : QB = 0
 ·rw [if_pos c3] at H
  have c3b0 : (QB == 0) = true:=beq_iff_eq.mpr c3
  have c3b1 : (QB != 0) = false:=bne_eq_false_iff_eq.mpr c3
  clear c3
  obtain rfl:=Option.some.inj H
  go_enter Try.func16,Try.ntmps16
  go_wp2_with (first|((with_reducible refine gate_dst (N:=1) rfl ?_);refine box_event ?hg (N:=1) ?hd (cs:=#[.int .i64 Qm,.int .i64 Qk,.int .i64 Qn,.int .i64 Qo,.int .i64 Qp,.int .i64 Qq,.int .i64 Qr,.int .i64 Qs,.int .i64 Qt,.int .i64 Qu,.int .i64 Qd,.int .i64 Qf,.int .i64 Qg,.int .i64 Qh,.int .i64 Qi,.int .i64 Qj]) (t:=23) ?hr ?_;(case hd=>rfl);(case hg=>rfl);(case hr=>first|(go_simp;done)|(go_simp;rfl));intro Qv hg w4 hbox hb;have n0_:=ks_ HB hb;have n1_:=Aside0.mk (hbox);have n2_:=Aside0.mk ((by rw [hg];exact (kz_ HB) : w.heap.size ≤ Qv));have n3_:=Aside0.mk ((by rw [hg];exact (kz_ HB) : w.heap.size ≤ Qv));clear HB;have HB:=n0_;have Qe:=n1_;have GW101:=n2_;have GE101:=n3_;clear n0_ n1_ n2_ n3_;clear hb hbox hg;have hcz5_0 : w4.cell? ⟨Qv,0,none⟩ = some (.int .i64 Qm):=(blk_cell Qe.out 0).trans rfl;have hcz5_1 : w4.cell? ⟨Qv,1,none⟩ = some (.int .i64 Qk):=(blk_cell Qe.out 1).trans rfl;have hcz5_2 : w4.cell? ⟨Qv,2,none⟩ = some (.int .i64 Qn):=(blk_cell Qe.out 2).trans rfl;have hcz5_3 : w4.cell? ⟨Qv,3,none⟩ = some (.int .i64 Qo):=(blk_cell Qe.out 3).trans rfl;have hcz5_4 : w4.cell? ⟨Qv,4,none⟩ = some (.int .i64 Qp):=(blk_cell Qe.out 4).trans rfl;have hcz5_5 : w4.cell? ⟨Qv,5,none⟩ = some (.int .i64 Qq):=(blk_cell Qe.out 5).trans rfl;have hcz5_6 : w4.cell? ⟨Qv,6,none⟩ = some (.int .i64 Qr):=(blk_cell Qe.out 6).trans rfl;have hcz5_7 : w4.cell? ⟨Qv,7,none⟩ = some (.int .i64 Qs):=(blk_cell Qe.out 7).trans rfl;have hcz5_8 : w4.cell? ⟨Qv,8,none⟩ = some (.int .i64 Qt):=(blk_cell Qe.out 8).trans rfl;have hcz5_9 : w4.cell? ⟨Qv,9,none⟩ = some (.int .i64 Qu):=(blk_cell Qe.out 9).trans rfl;have hcz5_10 : w4.cell? ⟨Qv,10,none⟩ = some (.int .i64 Qd):=(blk_cell Qe.out 10).trans rfl;have hcz5_11 : w4.cell? ⟨Qv,11,none⟩ = some (.int .i64 Qf):=(blk_cell Qe.out 11).trans rfl;have hcz5_12 : w4.cell? ⟨Qv,12,none⟩ = some (.int .i64 Qg):=(blk_cell Qe.out 12).trans rfl;have hcz5_13 : w4.cell? ⟨Qv,13,none⟩ = some (.int .i64 Qh):=(blk_cell Qe.out 13).trans rfl;have hcz5_14 : w4.cell? ⟨Qv,14,none⟩ = some (.int .i64 Qi):=(blk_cell Qe.out 14).trans rfl;have hcz5_15 : w4.cell? ⟨Qv,15,none⟩ = some (.int .i64 Qj):=(blk_cell Qe.out 15).trans rfl;have hfz5_0:=blk_frozen Qe.out 0;have hfz5_1:=blk_frozen Qe.out 1;have hfz5_2:=blk_frozen Qe.out 2;have hfz5_3:=blk_frozen Qe.out 3;have hfz5_4:=blk_frozen Qe.out 4;have hfz5_5:=blk_frozen Qe.out 5;have hfz5_6:=blk_frozen Qe.out 6;have hfz5_7:=blk_frozen Qe.out 7;have hfz5_8:=blk_frozen Qe.out 8;have hfz5_9:=blk_frozen Qe.out 9;have hfz5_10:=blk_frozen Qe.out 10;have hfz5_11:=blk_frozen Qe.out 11;have hfz5_12:=blk_frozen Qe.out 12;have hfz5_13:=blk_frozen Qe.out 13;have hfz5_14:=blk_frozen Qe.out 14;have hfz5_15:=blk_frozen Qe.out 15)|((with_reducible refine gate_callee (f:=26) rfl ?_);refine goesL_ (some 4) rfl rfl Try.func26 (by kernel_rfl) rfl #[.agg #[.int .i64 Qm,.int .i64 Qk,.int .i64 Qn,.int .i64 Qo,.int .i64 Qp,.int .i64 Qq,.int .i64 Qr,.int .i64 Qs,.int .i64 Qt,.int .i64 Qu,.int .i64 Qd,.int .i64 Qf,.int .i64 Qg,.int .i64 Qh,.int .i64 Qi,.int .i64 Qj]] rfl (by (try simp only [List.map_toArray,List.map_cons,List.map_nil]);first|done|rfl|(simp only [List.length_drop,List.length_take];rfl)) ?_;(with_reducible refine (plan_Fails.calls Qm Qk Qn Qo Qp Qq Qr Qs Qt Qu Qd Qf Qg Qh Qi Qj QB _ A2.out).mono ?_);rintro e w6 ⟨rfl,hb⟩;refine ⟨_,rfl,?_⟩;have n0_:=kb_ Qe hb;have n1_:=ks_ HB hb;clear Qe;clear HB;have Qe:=n0_;have HB:=n1_;clear n0_ n1_;(try clear hb);(try clear hb2);(try clear hk);(try clear hi)))
  go_ret
  exact ⟨by first|rfl|(simp [errW_none,errW_some] <;> rfl)|(simp [*,errW_none,errW_some] <;> rfl),by repeat (first|(with_reducible first|exact HB.out|apply below_alloc|apply pw_below_drewN|apply below_drew1|refine below_set ?_ GE101.out)|exact HB.out)⟩
 ·rw [if_neg c3] at H
  have c3b0 : (QB == 0) = false:=beq_eq_false_iff_ne.mpr c3
  have c3b1 : (QB != 0) = true:=bne_iff_ne.mpr c3
  obtain rfl:=Option.some.inj H
  go_enter Try.func16,Try.ntmps16
  go_wp2_with (first|((with_reducible refine gate_dst (N:=1) rfl ?_);refine box_event ?hg (N:=1) ?hd (cs:=#[.int .i64 Qm,.int .i64 Qk,.int .i64 Qn,.int .i64 Qo,.int .i64 Qp,.int .i64 Qq,.int .i64 Qr,.int .i64 Qs,.int .i64 Qt,.int .i64 Qu,.int .i64 Qd,.int .i64 Qf,.int .i64 Qg,.int .i64 Qh,.int .i64 Qi,.int .i64 Qj]) (t:=23) ?hr ?_;(case hd=>rfl);(case hg=>rfl);(case hr=>first|(go_simp;done)|(go_simp;rfl));intro Qv hg w7 hbox hb;have n0_:=ks_ HB hb;have n1_:=Aside0.mk (hbox);have n2_:=Aside0.mk ((by rw [hg];exact (kz_ HB) : w.heap.size ≤ Qv));have n3_:=Aside0.mk ((by rw [hg];exact (kz_ HB) : w.heap.size ≤ Qv));clear HB;have HB:=n0_;have Qe:=n1_;have GW101:=n2_;have GE101:=n3_;clear n0_ n1_ n2_ n3_;clear hb hbox hg;have hcz8_0 : w7.cell? ⟨Qv,0,none⟩ = some (.int .i64 Qm):=(blk_cell Qe.out 0).trans rfl;have hcz8_1 : w7.cell? ⟨Qv,1,none⟩ = some (.int .i64 Qk):=(blk_cell Qe.out 1).trans rfl;have hcz8_2 : w7.cell? ⟨Qv,2,none⟩ = some (.int .i64 Qn):=(blk_cell Qe.out 2).trans rfl;have hcz8_3 : w7.cell? ⟨Qv,3,none⟩ = some (.int .i64 Qo):=(blk_cell Qe.out 3).trans rfl;have hcz8_4 : w7.cell? ⟨Qv,4,none⟩ = some (.int .i64 Qp):=(blk_cell Qe.out 4).trans rfl;have hcz8_5 : w7.cell? ⟨Qv,5,none⟩ = some (.int .i64 Qq):=(blk_cell Qe.out 5).trans rfl;have hcz8_6 : w7.cell? ⟨Qv,6,none⟩ = some (.int .i64 Qr):=(blk_cell Qe.out 6).trans rfl;have hcz8_7 : w7.cell? ⟨Qv,7,none⟩ = some (.int .i64 Qs):=(blk_cell Qe.out 7).trans rfl;have hcz8_8 : w7.cell? ⟨Qv,8,none⟩ = some (.int .i64 Qt):=(blk_cell Qe.out 8).trans rfl;have hcz8_9 : w7.cell? ⟨Qv,9,none⟩ = some (.int .i64 Qu):=(blk_cell Qe.out 9).trans rfl;have hcz8_10 : w7.cell? ⟨Qv,10,none⟩ = some (.int .i64 Qd):=(blk_cell Qe.out 10).trans rfl;have hcz8_11 : w7.cell? ⟨Qv,11,none⟩ = some (.int .i64 Qf):=(blk_cell Qe.out 11).trans rfl;have hcz8_12 : w7.cell? ⟨Qv,12,none⟩ = some (.int .i64 Qg):=(blk_cell Qe.out 12).trans rfl;have hcz8_13 : w7.cell? ⟨Qv,13,none⟩ = some (.int .i64 Qh):=(blk_cell Qe.out 13).trans rfl;have hcz8_14 : w7.cell? ⟨Qv,14,none⟩ = some (.int .i64 Qi):=(blk_cell Qe.out 14).trans rfl;have hcz8_15 : w7.cell? ⟨Qv,15,none⟩ = some (.int .i64 Qj):=(blk_cell Qe.out 15).trans rfl;have hfz8_0:=blk_frozen Qe.out 0;have hfz8_1:=blk_frozen Qe.out 1;have hfz8_2:=blk_frozen Qe.out 2;have hfz8_3:=blk_frozen Qe.out 3;have hfz8_4:=blk_frozen Qe.out 4;have hfz8_5:=blk_frozen Qe.out 5;have hfz8_6:=blk_frozen Qe.out 6;have hfz8_7:=blk_frozen Qe.out 7;have hfz8_8:=blk_frozen Qe.out 8;have hfz8_9:=blk_frozen Qe.out 9;have hfz8_10:=blk_frozen Qe.out 10;have hfz8_11:=blk_frozen Qe.out 11;have hfz8_12:=blk_frozen Qe.out 12;have hfz8_13:=blk_frozen Qe.out 13;have hfz8_14:=blk_frozen Qe.out 14;have hfz8_15:=blk_frozen Qe.out 15)|((with_reducible refine gate_callee (f:=26) rfl ?_);refine goesL_ (some 4) rfl rfl Try.func26 (by kernel_rfl) rfl #[.agg #[.int .i64 Qm,.int .i64 Qk,.int .i64 Qn,.int .i64 Qo,.int .i64 Qp,.int .i64 Qq,.int .i64 Qr,.int .i64 Qs,.int .i64 Qt,.int .i64 Qu,.int .i64 Qd,.int .i64 Qf,.int .i64 Qg,.int .i64 Qh,.int .i64 Qi,.int .i64 Qj]] rfl (by (try simp only [List.map_toArray,List.map_cons,List.map_nil]);first|done|rfl|(simp only [List.length_drop,List.length_take];rfl)) ?_;(with_reducible refine (plan_Fails.calls Qm Qk Qn Qo Qp Qq Qr Qs Qt Qu Qd Qf Qg Qh Qi Qj QB _ A2.out).mono ?_);rintro e w9 ⟨rfl,hb⟩;refine ⟨_,rfl,?_⟩;have n0_:=kb_ Qe hb;have n1_:=ks_ HB hb;clear Qe;clear HB;have Qe:=n0_;have HB:=n1_;clear n0_ n1_;(try clear hb);(try clear hb2);(try clear hk);(try clear hi)))
  go_ret
  exact ⟨by first|rfl|(simp [errW_none,errW_some] <;> rfl)|(simp [*,errW_none,errW_some] <;> rfl),by repeat (first|(with_reducible first|exact HB.out|apply below_alloc|apply pw_below_drewN|apply below_drew1|refine below_set ?_ GE101.out)|exact HB.out)⟩

/-! ### resync_Enough: function 14 -/
def resync_Enough.f (Qm : Int) (Qk : Int) (Qn : Int) (Qo : Int) (Qp : Int) (Qq : Int) (Qr : Int) (Qs : Int) (Qt : Int) (Qu : Int) (Qd : Int) (Qf : Int) (Qg : Int) (Qh : Int) (Qi : Int) (Qj : Int) (a1 : Int) : Option (Bool):=(plan_Check.f Qm Qk Qn Qo Qp Qq Qr Qs Qt Qu Qd Qf Qg Qh Qi Qj).bind fun QC=>(if QC = 0 then (some (decide (a1 ≥ (wrap64 ((wrap64 (2 * Qk)) + 1))))) else (some false))
set_option maxHeartbeats 8000000 in
set_option maxRecDepth 100000 in
theorem resync_Enough.calls (Qm : Int) (Qk : Int) (Qn : Int) (Qo : Int) (Qp : Int) (Qq : Int) (Qr : Int) (Qs : Int) (Qt : Int) (Qu : Int) (Qd : Int) (Qf : Int) (Qg : Int) (Qh : Int) (Qi : Int) (Qj : Int) (a1 : Int) (r : Bool) (w : World) (h : resync_Enough.f Qm Qk Qn Qo Qp Qq Qr Qs Qt Qu Qd Qf Qg Qh Qi Qj a1 = some r) :
  Calls Try.prog 14 #[.agg #[.int .i64 Qm,.int .i64 Qk,.int .i64 Qn,.int .i64 Qo,.int .i64 Qp,.int .i64 Qq,.int .i64 Qr,.int .i64 Qs,.int .i64 Qt,.int .i64 Qu,.int .i64 Qd,.int .i64 Qf,.int .i64 Qg,.int .i64 Qh,.int .i64 Qi,.int .i64 Qj],.int .i64 a1] w fun e w'=>e = .returned (.bool r)∧Below w.heap.size w w':=by
 have hu23:=Try.underlying23
 have HB:=Aside0.mk (Below.refl w.heap.size w)
 have H : ((plan_Check.f Qm Qk Qn Qo Qp Qq Qr Qs Qt Qu Qd Qf Qg Qh Qi Qj).bind fun QC=>(if QC = 0 then (some (decide (a1 ≥ (wrap64 ((wrap64 (2 * Qk)) + 1))))) else (some false))) = some r:=h
 clear h
 replace H:=Option.bind_eq_some_iff.mp H
 obtain ⟨QC,A30,H⟩:=H
 replace H : (if QC = 0 then (some (decide (a1 ≥ (wrap64 ((wrap64 (2 * Qk)) + 1))))) else (some false)) = some r:=H
 have A3:=Aside0.mk A30
 clear A30
 by_cases c4 : QC = 0
 ·rw [if_pos c4] at H
  have c4b0 : (QC == 0) = true:=beq_iff_eq.mpr c4
  have c4b1 : (QC != 0) = false:=bne_eq_false_iff_eq.mpr c4
  clear c4
  obtain rfl:=Option.some.inj H
  go_enter Try.func14,Try.ntmps14
  go_wp2_with (first|((with_reducible refine gate_dst (N:=2) rfl ?_);refine box_event ?hg (N:=2) ?hd (cs:=#[.int .i64 Qm,.int .i64 Qk,.int .i64 Qn,.int .i64 Qo,.int .i64 Qp,.int .i64 Qq,.int .i64 Qr,.int .i64 Qs,.int .i64 Qt,.int .i64 Qu,.int .i64 Qd,.int .i64 Qf,.int .i64 Qg,.int .i64 Qh,.int .i64 Qi,.int .i64 Qj]) (t:=23) ?hr ?_;(case hd=>rfl);(case hg=>rfl);(case hr=>first|(go_simp;done)|(go_simp;rfl));intro Ql hg w5 hbox hb;have n0_:=ks_ HB hb;have n1_:=Aside0.mk (hbox);have n2_:=Aside0.mk ((by rw [hg];exact (kz_ HB) : w.heap.size ≤ Ql));have n3_:=Aside0.mk ((by rw [hg];exact (kz_ HB) : w.heap.size ≤ Ql));clear HB;have HB:=n0_;have Qc:=n1_;have GW103:=n2_;have GE103:=n3_;clear n0_ n1_ n2_ n3_;clear hb hbox hg;have hcz6_0 : w5.cell? ⟨Ql,0,none⟩ = some (.int .i64 Qm):=(blk_cell Qc.out 0).trans rfl;have hcz6_1 : w5.cell? ⟨Ql,1,none⟩ = some (.int .i64 Qk):=(blk_cell Qc.out 1).trans rfl;have hcz6_2 : w5.cell? ⟨Ql,2,none⟩ = some (.int .i64 Qn):=(blk_cell Qc.out 2).trans rfl;have hcz6_3 : w5.cell? ⟨Ql,3,none⟩ = some (.int .i64 Qo):=(blk_cell Qc.out 3).trans rfl;have hcz6_4 : w5.cell? ⟨Ql,4,none⟩ = some (.int .i64 Qp):=(blk_cell Qc.out 4).trans rfl;have hcz6_5 : w5.cell? ⟨Ql,5,none⟩ = some (.int .i64 Qq):=(blk_cell Qc.out 5).trans rfl;have hcz6_6 : w5.cell? ⟨Ql,6,none⟩ = some (.int .i64 Qr):=(blk_cell Qc.out 6).trans rfl;have hcz6_7 : w5.cell? ⟨Ql,7,none⟩ = some (.int .i64 Qs):=(blk_cell Qc.out 7).trans rfl;have hcz6_8 : w5.cell? ⟨Ql,8,none⟩ = some (.int .i64 Qt):=(blk_cell Qc.out 8).trans rfl;have hcz6_9 : w5.cell? ⟨Ql,9,none⟩ = some (.int .i64 Qu):=(blk_cell Qc.out 9).trans rfl;have hcz6_10 : w5.cell? ⟨Ql,10,none⟩ = some (.int .i64 Qd):=(blk_cell Qc.out 10).trans rfl;have hcz6_11 : w5.cell? ⟨Ql,11,none⟩ = some (.int .i64 Qf):=(blk_cell Qc.out 11).trans rfl;have hcz6_12 : w5.cell? ⟨Ql,12,none⟩ = some (.int .i64 Qg):=(blk_cell Qc.out 12).trans rfl;have hcz6_13 : w5.cell? ⟨Ql,13,none⟩ = some (.int .i64 Qh):=(blk_cell Qc.out 13).trans rfl;have hcz6_14 : w5.cell? ⟨Ql,14,none⟩ = some (.int .i64 Qi):=(blk_cell Qc.out 14).trans rfl;have hcz6_15 : w5.cell? ⟨Ql,15,none⟩ = some (.int .i64 Qj):=(blk_cell Qc.out 15).trans rfl;have hfz6_0:=blk_frozen Qc.out 0;have hfz6_1:=blk_frozen Qc.out 1;have hfz6_2:=blk_frozen Qc.out 2;have hfz6_3:=blk_frozen Qc.out 3;have hfz6_4:=blk_frozen Qc.out 4;have hfz6_5:=blk_frozen Qc.out 5;have hfz6_6:=blk_frozen Qc.out 6;have hfz6_7:=blk_frozen Qc.out 7;have hfz6_8:=blk_frozen Qc.out 8;have hfz6_9:=blk_frozen Qc.out 9;have hfz6_10:=blk_frozen Qc.out 10;have hfz6_11:=blk_frozen Qc.out 11;have hfz6_12:=blk_frozen Qc.out 12;have hfz6_13:=blk_frozen Qc.out 13;have hfz6_14:=blk_frozen Qc.out 14;have hfz6_15:=blk_frozen Qc.out 15)|((with_reducible refine gate_callee (f:=16) rfl ?_);refine goesL_ (some 6) rfl rfl Try.func16 (by kernel_rfl) rfl #[.agg #[.int .i64 Qm,.int .i64 Qk,.int .i64 Qn,.int .i64 Qo,.int .i64 Qp,.int .i64 Qq,.int .i64 Qr,.int .i64 Qs,.int .i64 Qt,.int .i64 Qu,.int .i64 Qd,.int .i64 Qf,.int .i64 Qg,.int .i64 Qh,.int .i64 Qi,.int .i64 Qj]] rfl (by (try simp only [List.map_toArray,List.map_cons,List.map_nil]);first|done|rfl|(simp only [List.length_drop,List.length_take];rfl)) ?_;(with_reducible refine (plan_Check.calls Qm Qk Qn Qo Qp Qq Qr Qs Qt Qu Qd Qf Qg Qh Qi Qj QC _ A3.out).mono ?_);rintro e w7 ⟨rfl,hb⟩;refine ⟨_,rfl,?_⟩;have n0_:=kb_ Qc hb;have n1_:=ks_ HB hb;clear Qc;clear HB;have Qc:=n0_;have HB:=n1_;clear n0_ n1_;(try clear hb);(try clear hb2);(try clear hk);(try clear hi);have hcz8_0 : w7.cell? ⟨Ql,0,none⟩ = some (.int .i64 Qm):=(blk_cell Qc.out 0).trans rfl;have hcz8_1 : w7.cell? ⟨Ql,1,none⟩ = some (.int .i64 Qk):=(blk_cell Qc.out 1).trans rfl;have hcz8_2 : w7.cell? ⟨Ql,2,none⟩ = some (.int .i64 Qn):=(blk_cell Qc.out 2).trans rfl;have hcz8_3 : w7.cell? ⟨Ql,3,none⟩ = some (.int .i64 Qo):=(blk_cell Qc.out 3).trans rfl;have hcz8_4 : w7.cell? ⟨Ql,4,none⟩ = some (.int .i64 Qp):=(blk_cell Qc.out 4).trans rfl;have hcz8_5 : w7.cell? ⟨Ql,5,none⟩ = some (.int .i64 Qq):=(blk_cell Qc.out 5).trans rfl;have hcz8_6 : w7.cell? ⟨Ql,6,none⟩ = some (.int .i64 Qr):=(blk_cell Qc.out 6).trans rfl;have hcz8_7 : w7.cell? ⟨Ql,7,none⟩ = some (.int .i64 Qs):=(blk_cell Qc.out 7).trans rfl;have hcz8_8 : w7.cell? ⟨Ql,8,none⟩ = some (.int .i64 Qt):=(blk_cell Qc.out 8).trans rfl;have hcz8_9 : w7.cell? ⟨Ql,9,none⟩ = some (.int .i64 Qu):=(blk_cell Qc.out 9).trans rfl;have hcz8_10 : w7.cell? ⟨Ql,10,none⟩ = some (.int .i64 Qd):=(blk_cell Qc.out 10).trans rfl;have hcz8_11 : w7.cell? ⟨Ql,11,none⟩ = some (.int .i64 Qf):=(blk_cell Qc.out 11).trans rfl;have hcz8_12 : w7.cell? ⟨Ql,12,none⟩ = some (.int .i64 Qg):=(blk_cell Qc.out 12).trans rfl;have hcz8_13 : w7.cell? ⟨Ql,13,none⟩ = some (.int .i64 Qh):=(blk_cell Qc.out 13).trans rfl;have hcz8_14 : w7.cell? ⟨Ql,14,none⟩ = some (.int .i64 Qi):=(blk_cell Qc.out 14).trans rfl;have hcz8_15 : w7.cell? ⟨Ql,15,none⟩ = some (.int .i64 Qj):=(blk_cell Qc.out 15).trans rfl;have hfz8_0:=blk_frozen Qc.out 0;have hfz8_1:=blk_frozen Qc.out 1;have hfz8_2:=blk_frozen Qc.out 2;have hfz8_3:=blk_frozen Qc.out 3;have hfz8_4:=blk_frozen Qc.out 4;have hfz8_5:=blk_frozen Qc.out 5;have hfz8_6:=blk_frozen Qc.out 6;have hfz8_7:=blk_frozen Qc.out 7;have hfz8_8:=blk_frozen Qc.out 8;have hfz8_9:=blk_frozen Qc.out 9;have hfz8_10:=blk_frozen Qc.out 10;have hfz8_11:=blk_frozen Qc.out 11;have hfz8_12:=blk_frozen Qc.out 12;have hfz8_13:=blk_frozen Qc.out 13;have hfz8_14:=blk_frozen Qc.out 14;have hfz8_15:=blk_frozen Qc.out 15))
  go_ret
  exact ⟨by first|rfl|(simp [errW_none,errW_some] <;> rfl)|(simp [*,errW_none,errW_some] <;> rfl),by repeat (first|(with_reducible first|exact HB.out|apply below_alloc|apply pw_below_drewN|apply below_drew1|refine below_set ?_ GE103.out)|exact HB.out)⟩
 ·rw [if_neg c4] at H
  have c4b0 : (QC == 0) = false:=beq_eq_false_iff_ne.mpr c4
  have c4b1 : (QC != 0) = true:=bne_iff_ne.mpr c4
  obtain rfl:=Option.some.inj H
  go_enter Try.func14,Try.ntmps14
  go_wp2_with (first|((with_reducible refine gate_dst (N:=2) rfl ?_);refine box_event ?hg (N:=2) ?hd (cs:=#[.int .i64 Qm,.int .i64 Qk,.int .i64 Qn,.int .i64 Qo,.int .i64 Qp,.int .i64 Qq,.int .i64 Qr,.int .i64 Qs,.int .i64 Qt,.int .i64 Qu,.int .i64 Qd,.int .i64 Qf,.int .i64 Qg,.int .i64 Qh,.int .i64 Qi,.int .i64 Qj]) (t:=23) ?hr ?_;(case hd=>rfl);(case hg=>rfl);(case hr=>first|(go_simp;done)|(go_simp;rfl));intro Ql hg w9 hbox hb;have n0_:=ks_ HB hb;have n1_:=Aside0.mk (hbox);have n2_:=Aside0.mk ((by rw [hg];exact (kz_ HB) : w.heap.size ≤ Ql));have n3_:=Aside0.mk ((by rw [hg];exact (kz_ HB) : w.heap.size ≤ Ql));clear HB;have HB:=n0_;have Qc:=n1_;have GW103:=n2_;have GE103:=n3_;clear n0_ n1_ n2_ n3_;clear hb hbox hg;have hcz10_0 : w9.cell? ⟨Ql,0,none⟩ = some (.int .i64 Qm):=(blk_cell Qc.out 0).trans rfl;have hcz10_1 : w9.cell? ⟨Ql,1,none⟩ = some (.int .i64 Qk):=(blk_cell Qc.out 1).trans rfl;have hcz10_2 : w9.cell? ⟨Ql,2,none⟩ = some (.int .i64 Qn):=(blk_cell Qc.out 2).trans rfl;have hcz10_3 : w9.cell? ⟨Ql,3,none⟩ = some (.int .i64 Qo):=(blk_cell Qc.out 3).trans rfl;have hcz10_4 : w9.cell? ⟨Ql,4,none⟩ = some (.int .i64 Qp):=(blk_cell Qc.out 4).trans rfl;have hcz10_5 : w9.cell? ⟨Ql,5,none⟩ = some (.int .i64 Qq):=(blk_cell Qc.out 5).trans rfl;have hcz10_6 : w9.cell? ⟨Ql,6,none⟩ = some (.int .i64 Qr):=(blk_cell Qc.out 6).trans rfl;have hcz10_7 : w9.cell? ⟨Ql,7,none⟩ = some (.int .i64 Qs):=(blk_cell Qc.out 7).trans rfl;have hcz10_8 : w9.cell? ⟨Ql,8,none⟩ = some (.int .i64 Qt):=(blk_cell Qc.out 8).trans rfl;have hcz10_9 : w9.cell? ⟨Ql,9,none⟩ = some (.int .i64 Qu):=(blk_cell Qc.out 9).trans rfl;have hcz10_10 : w9.cell? ⟨Ql,10,none⟩ = some (.int .i64 Qd):=(blk_cell Qc.out 10).trans rfl;have hcz10_11 : w9.cell? ⟨Ql,11,none⟩ = some (.int .i64 Qf):=(blk_cell Qc.out 11).trans rfl;have hcz10_12 : w9.cell? ⟨Ql,12,none⟩ = some (.int .i64 Qg):=(blk_cell Qc.out 12).trans rfl;have hcz10_13 : w9.cell? ⟨Ql,13,none⟩ = some (.int .i64 Qh):=(blk_cell Qc.out 13).trans rfl;have hcz10_14 : w9.cell? ⟨Ql,14,none⟩ = some (.int .i64 Qi):=(blk_cell Qc.out 14).trans rfl;have hcz10_15 : w9.cell? ⟨Ql,15,none⟩ = some (.int .i64 Qj):=(blk_cell Qc.out 15).trans rfl;have hfz10_0:=blk_frozen Qc.out 0;have hfz10_1:=blk_frozen Qc.out 1;have hfz10_2:=blk_frozen Qc.out 2;have hfz10_3:=blk_frozen Qc.out 3;have hfz10_4:=blk_frozen Qc.out 4;have hfz10_5:=blk_frozen Qc.out 5;have hfz10_6:=blk_frozen Qc.out 6;have hfz10_7:=blk_frozen Qc.out 7;have hfz10_8:=blk_frozen Qc.out 8;have hfz10_9:=blk_frozen Qc.out 9;have hfz10_10:=blk_frozen Qc.out 10;have hfz10_11:=blk_frozen Qc.out 11;have hfz10_12:=blk_frozen Qc.out 12;have hfz10_13:=blk_frozen Qc.out 13;have hfz10_14:=blk_frozen Qc.out 14;have hfz10_15:=blk_frozen Qc.out 15)|((with_reducible refine gate_callee (f:=16) rfl ?_);refine goesL_ (some 6) rfl rfl Try.func16 (by kernel_rfl) rfl #[.agg #[.int .i64 Qm,.int .i64 Qk,.int .i64 Qn,.int .i64 Qo,.int .i64 Qp,.int .i64 Qq,.int .i64 Qr,.int .i64 Qs,.int .i64 Qt,.int .i64 Qu,.int .i64 Qd,.int .i64 Qf,.int .i64 Qg,.int .i64 Qh,.int .i64 Qi,.int .i64 Qj]] rfl (by (try simp only [List.map_toArray,List.map_cons,List.map_nil]);first|done|rfl|(simp only [List.length_drop,List.length_take];rfl)) ?_;(with_reducible refine (plan_Check.calls Qm Qk Qn Qo Qp Qq Qr Qs Qt Qu Qd Qf Qg Qh Qi Qj QC _ A3.out).mono ?_);rintro e w11 ⟨rfl,hb⟩;refine ⟨_,rfl,?_⟩;have n0_:=kb_ Qc hb;have n1_:=ks_ HB hb;clear Qc;clear HB;have Qc:=n0_;have HB:=n1_;clear n0_ n1_;(try clear hb);(try clear hb2);(try clear hk);(try clear hi)))
  go_ret
  exact ⟨by first|rfl|(simp [errW_none,errW_some] <;> rfl)|(simp [*,errW_none,errW_some] <;> rfl),by repeat (first|(with_reducible first|exact HB.out|apply below_alloc|apply pw_below_drewN|apply below_drew1|refine below_set ?_ GE103.out)|exact HB.out)⟩

-- BY HAND: function 19 (resync_values)

-- BY HAND: function 28 (midpoint_Trim)

-- BY HAND: function 29 (midpoint_ends_int64)

/-! ### midpoint_Of: function 20 -/
def midpoint_Of.f (k : Nat) (l0 : List Int) (a1 : Int) : Option (Int × Int):=(midpoint_Trim.f l0 a1).bind fun Qy=>(if Qy.2 = 0 then (if 0 < (Qy.1.length : Int) then (if 1 ≤ (Qy.1.length : Int) then ((midpoint_ends_int64.f k (rd Qy.1 0) (Qy.1.drop 1)).bind fun Qz=>(some ((wrap64 (Qz.1 + Qz.2)) / 2,0))) else (none)) else (none)) else (some (0,Qy.2)))
theorem midpoint_Of.mono : ∀ a0 a1 k,LeO (midpoint_Of.f k a0 a1) (midpoint_Of.f (k + 1) a0 a1):=by
 intro a0 a1 k
 unfold midpoint_Of.f
 repeat' first
   | (with_reducible exact midpoint_ends_int64.mono _ _ _)
   | (with_reducible exact LeO.refl _)
   | (with_reducible exact LeO.none _)
   | (with_reducible refine LeO.ite ?_ ?_)
   | (with_reducible refine LeO.bind ?_ (fun _=>?_))
   | exact midpoint_ends_int64.mono _ _ _
   | exact LeO.none _
   | refine LeO.ite ?_ ?_
   | refine LeO.bind ?_ (fun _=>?_)
def midpoint_Of.T4 : Bool × List (List Nat × List Nat):=(true,[([],[]),([0],[0]),([1],[1]),([],[]),([3],[3]),([2,4],[2,4]),([5],[5]),([6],[6]),([6],[6]),([7,5,0,1,2,3,4,5,6,7],[7]),([8,9,0,1,2,3,4,5,6,7,8,9],[8])])
def midpoint_Of.B4 : List Nat:=[0,1,3,0,8,31,63,127,127,255,1023]
theorem midpoint_Of.tab4 : rtab .any (opsOf Try.f20 4) = midpoint_Of.T4:=by kernel_rfl
theorem midpoint_Of.bits4 : waitsOk midpoint_Of.T4.2 midpoint_Of.B4 = true:=by kernel_rfl
set_option maxHeartbeats 8000000 in
set_option maxRecDepth 100000 in
theorem midpoint_Of.calls (k : Nat) (A0 : Option Addr) (c0 : Nat) (l0 : List Int) (a1 : Int) (r1 : Int) (r2 : Int) (w : World) (hr0 : Kd.C (Kd.int .i64) w A0 l0.length l0) (hc0 : l0.length ≤ c0) (h : midpoint_Of.f k l0 a1 = some (r1,r2)) :
  Calls Try.prog 20 #[.slice A0 l0.length c0,.int .i64 a1] w fun e w'=>e = .returned (.tuple #[.int .i64 r1,.int .i64 r2])∧Below w.heap.size w w':=by
 have HR0:=Aside0.mk hr0
 have HC0:=Aside0.mk hc0
 clear hr0 hc0
 have HB:=Aside0.mk (Below.refl w.heap.size w)
 have H : ((midpoint_Trim.f l0 a1).bind fun Qy=>(if Qy.2 = 0 then (if 0 < (Qy.1.length : Int) then (if 1 ≤ (Qy.1.length : Int) then ((midpoint_ends_int64.f k (rd Qy.1 0) (Qy.1.drop 1)).bind fun Qz=>(some ((wrap64 (Qz.1 + Qz.2)) / 2,0))) else (none)) else (none)) else (some (0,Qy.2)))) = some (r1,r2):=h
 clear h
 replace H:=Option.bind_eq_some_iff.mp H
 obtain ⟨⟨Qx,QF⟩,A30,H⟩:=H
 replace H : (if QF = 0 then (if 0 < (Qx.length : Int) then (if 1 ≤ (Qx.length : Int) then ((midpoint_ends_int64.f k (rd Qx 0) (Qx.drop 1)).bind fun Qz=>(some ((wrap64 (Qz.1 + Qz.2)) / 2,0))) else (none)) else (none)) else (some (0,QF))) = some (r1,r2):=H
 have A3:=Aside0.mk A30
 clear A30
 by_cases c4 : QF = 0
 ·rw [if_pos c4] at H
  have c4b0 : (QF == 0) = true:=beq_iff_eq.mpr c4
  have c4b1 : (QF != 0) = false:=bne_eq_false_iff_eq.mpr c4
  clear c4
  by_cases c5 : 0 < (Qx.length : Int)
  ·rw [if_pos c5] at H
   have c5b0 : decide (0 < (Qx.length : Int)) = true:=decide_eq_true c5
   have c5b1 : decide (0 < Qx.length) = true:=decide_eq_true (by omega)
   clear c5
   by_cases c6 : 1 ≤ (Qx.length : Int)
   ·rw [if_pos c6] at H
    have c6b0:=eq_true c6
    have c6b1 : decide (1 ≤ (Qx.length : Int)) = true:=decide_eq_true c6
    clear c6
    obtain ⟨y110,hy110⟩ : ∃ y_ : List Int,y_ = (Qx.drop 1):=⟨_,rfl⟩
    replace H : ((midpoint_ends_int64.f k (rd Qx 0) y110).bind fun Qz=>(some ((wrap64 (Qz.1 + Qz.2)) / 2,0))) = some (r1,r2):=by first|(rw [hy110];with_reducible exact H)|(have H2_:=(Option.bind_some _ _).symm.trans H;rw [hy110];with_reducible exact H2_)|(have H2_:=(Option.bind_some _ _).symm.trans H;with_reducible exact H2_)|with_reducible exact H|(rw [hy110];exact H)|exact H
    have Ny110:=Aside0.mk hy110
    clear hy110
    replace H:=Option.bind_eq_some_iff.mp H
    obtain ⟨⟨t114,t115⟩,A70,H⟩:=H
    replace H : (some ((wrap64 (t114 + t115)) / 2,0)) = some (r1,r2):=H
    have A7:=Aside0.mk A70
    clear A70
    simp only [Option.some.injEq,Prod.mk.injEq] at H
    obtain ⟨rfl,rfl⟩:=H
    go_enter Try.func20,Try.ntmps20
    try go_wp2_with (first|((with_reducible refine gate_callee (f:=28) rfl ?_);refine goesL_ (some 13) rfl rfl Try.func28 (by kernel_rfl) rfl #[.slice A0 l0.length c0,.int .i64 a1] rfl (by (try simp only [List.map_toArray,List.map_cons,List.map_nil]);first|done|rfl|(simp only [List.length_drop,List.length_take];rfl)) ?_;(with_reducible refine (midpoint_Trim.calls _ _ l0 a1 Qx QF _ ?side1 ?side2 A3.out).mono ?_);(case side1=>repeat (first|exact HR0.out|(with_reducible refine Kd.C_alloc ?_ _)|(with_reducible refine Kd.C_drewN ?_ _)|(with_reducible refine Kd.C_drew ?_)));(case side2=>exact HC0.out);rintro e w8 ⟨v107,rfl,ho0,hb⟩;refine ⟨_,rfl,?_⟩;have n0_:=Aside0.mk (Kd.R_lower ho0 (kz_ HB));have n1_:=ks_ HB hb;clear HB;have HO108:=n0_;have HB:=n1_;clear n0_ n1_;(try clear hb);(try clear hb2);(try clear hk);(try clear hi);(try clear ho0)))
    have n0_:=Aside0.mk (Kd.R_drew HO108.out)
    have n1_:=Aside0.mk (below_drew1 HB.out)
    clear HO108
    clear HB
    have HO108:=n0_
    have HB:=n1_
    clear n0_ n1_
    obtain ⟨Ao10,co10,eo10⟩:=Kd.R_slice HO108.out
    (first|subst eo10|(injection eo10 with f1_ f2_ f3_;have f4_:=f1_.symm;have f5_:=f3_.symm;clear f1_ f2_ f3_;subst f4_;subst f5_))
    have p109 : 0 ≤ (0 : Int):=(by omega)
    have q109 : 0 < (Qx.length : Int):=of_decide_eq_true (by first|(with_reducible assumption)|assumption)
    obtain ⟨ad109,e109,hx109_0⟩:=Kd.at_int (Kd.R_reads' HO108.out).2.2 0 p109 q109
    cases e109
    have qi109 : (0 < Qx.length) = True:=eq_true (by omega)
    (try rw [show ((0 : Int)).toNat = 0 from rfl] at hx109_0)
    (try rw [Addr.add_zero'] at hx109_0)
    replace p109:=eq_true p109
    replace q109:=eq_true q109
    have q11 : (1 : Int) ≤ ((Qx.length : Int) : Int):=of_decide_eq_true (by first|(with_reducible assumption)|assumption)
    obtain ⟨i011,hi011,_,hsz11,_⟩:=info_parts info2
    have hroom11 : Qx.length ≤ co10:=(Kd.R_reads' HO108.out).2.1
    have hC11 : Kd.C (Kd.int .i64) _ (some ad109) Qx.length Qx:=(Kd.R_reads' HO108.out).2.2
    have hcut11:=cut_from (P:=Try.prog) 26 2 .i64 Try.underlying26 hi011 1 hsz11 (some ad109) Qx.length co10 1 (by omega) q11
    have hr11:=Kd.C_drop (m:=(1 : Int).toNat) (c:=co10) hC11 (by omega) hroom11
    obtain ⟨A11,hA11⟩ : ∃ A1,A1 = (if co10 = (1 : Int).toNat then (some ad109) else ((some ad109) : Option Addr).map (·.add ((1 : Int).toNat * 1))):=⟨_,rfl⟩
    obtain ⟨c11,hc11⟩ : ∃ c1,c1 = co10 - (1 : Int).toNat:=⟨_,rfl⟩
    have hy11 : y110.length = Qx.length - (1 : Int).toNat:=(by rw [Ny110.out,List.length_drop] <;> omega)
    rw [show (Qx).drop (1 : Int).toNat = y110 from Ny110.out.symm] at hr11
    replace hr11 : Kd.C (Kd.int .i64) _ A11 y110.length y110:=(by rw [hA11];exact hr11)
    rw [← hy11,← hA11,← hc11] at hcut11
    have HR113:=Aside0.mk hr11
    have HC113:=Aside0.mk (show y110.length ≤ c11 from by rw [hy11,hc11];exact Nat.sub_le_sub_right hroom11 _)
    clear hr11 hC11 hroom11 hi011 hsz11 hc11
    have KY11:=Aside0.mk hy11
    have KA11:=Aside0.mk hA11
    clear hy11 hA11
    have KL11:=Aside0.mk (show 1 ≤ Qx.length from by omega)
    replace q11:=eq_true q11
    refine start_ (n:=11) (S:=fun w'=>w'.cell? ad109 = some (.int .i64 (rd Qx 0))) (ds:=[]) #[false,false,false,false,false,false,false,false,false,false,false] (by kernel_rfl) rfl rfl (hx109_0) (fun hHeld=>?_);refine with_tabW midpoint_Of.tab4 midpoint_Of.bits4 (fun HT_ HW_=>?_)
    generalize w8.drew = w9 at HO108 HB HR113 hx109_0 hHeld ⊢
    refine pure_ (i:=0) (N:=some 20) (v:=?_) (a':=?_) #[true,false,false,false,false,false,false,false,false,false,false] rfl rfl (any_of HT_.out (by kernel_rfl)) (fun _ _ _ h=>h) (Or.inl ⟨by rfl,?_⟩) ?_ ?_
    rotate_left
    ·intro w'
     go_simp
     with_reducible rfl
    rotate_left
    ·simp only [Act.put,List.setIfInBounds_toArray,List.set_cons_zero,List.set_cons_succ,i64_w,i32_w]
     rfl
    refine pure_ (i:=1) (N:=some 21) (v:=?_) (a':=?_) #[true,true,false,false,false,false,false,false,false,false,false] rfl rfl (any_of HT_.out (by kernel_rfl)) (fun _ _ _ h=>h) (Or.inl ⟨by rfl,?_⟩) ?_ ?_
    rotate_left
    ·intro w'
     go_simp
     with_reducible rfl
    rotate_left
    ·simp only [Act.put,List.setIfInBounds_toArray,List.set_cons_zero,List.set_cons_succ,i64_w,i32_w]
     rfl
    refine pure_ (i:=3) (N:=some 23) (v:=?_) (a':=?_) #[true,true,false,true,false,false,false,false,false,false,false] rfl rfl (any_of HT_.out (by kernel_rfl)) (fun _ _ _ h=>h) (Or.inl ⟨by rfl,?_⟩) ?_ ?_
    rotate_left
    ·intro w'
     go_simp
     with_reducible rfl
    rotate_left
    ·simp only [Act.put,List.setIfInBounds_toArray,List.set_cons_zero,List.set_cons_succ,i64_w,i32_w]
     rfl
    refine pure_ (i:=4) (N:=some 24) (v:=?_) (a':=?_) #[true,true,false,true,true,false,false,false,false,false,false] rfl rfl (any_of HT_.out (by kernel_rfl)) (fun _ _ _ h=>h) (Or.inl ⟨by rfl,?_⟩) ?_ ?_
    rotate_left
    ·intro w'
     go_simp
     with_reducible rfl
    rotate_left
    ·simp only [Act.put,List.setIfInBounds_toArray,List.set_cons_zero,List.set_cons_succ,i64_w,i32_w]
     rfl
    refine take_ (i:=2) (N:=some 22) (v:=?_) (a':=?_) #[true,true,true,true,true,false,false,false,false,false,false] rfl rfl (take_ofW HT_.out HW_.out (by kernel_rfl)) (fun _ _ _ h=>h) (Or.inl ⟨by rfl,?_⟩) hHeld ?_ ?_
    rotate_left
    ·intro w' s0
     go_simp
     with_reducible rfl
    rotate_left
    ·simp only [Act.put,List.setIfInBounds_toArray,List.set_cons_zero,List.set_cons_succ,i64_w,i32_w]
     rfl
    refine one_ (i:=5) (N:=some 25) #[true,true,true,true,true,true,false,false,false,false,false] rfl rfl (one_of HT_.out (by kernel_rfl)) (by decide) (fun K hK=>?_)
    refine goes_ Try.func29 (by kernel_rfl) rfl #[.int .i64 (rd Qx 0),.slice A11 y110.length c11] (by rfl) rfl rfl (by (try simp only [List.map_toArray,List.map_cons,List.map_nil]);first|done|rfl|(simp only [List.length_drop,List.length_take];rfl)) ?_
    with_reducible refine (midpoint_ends_int64.calls k (rd Qx 0) _ _ y110 t114 t115 _ ?side1 ?side2 A7.out).mono ?_
    (case side1=>repeat (first|exact (by repeat (first|(with_reducible exact HR113.out)|(with_reducible refine Kd.C_alloc ?_ _)|(with_reducible refine Kd.C_drewN ?_ _)|(with_reducible refine Kd.C_drew ?_)|exact HR113.out))|(with_reducible refine Kd.C_alloc ?_ _)|(with_reducible refine Kd.C_drewN ?_ _)|(with_reducible refine Kd.C_drew ?_)))
    (case side2=>exact HC113.out)
    rintro e w12 ⟨rfl,hb⟩
    have HS0_:=(hb.cell (World.block_lt_of_cell? _ _ (hHeld))).trans (hHeld)
    refine ⟨_,rfl,?_⟩
    have n0_:=kr_ HO108 hb
    have n1_:=Aside0.mk (Kd.C_below (by repeat (first|(with_reducible exact HR113.out)|(with_reducible refine Kd.C_alloc ?_ _)|(with_reducible refine Kd.C_drewN ?_ _)|(with_reducible refine Kd.C_drew ?_)|exact HR113.out)) hb)
    have n2_:=ks_ HB hb
    clear HO108
    clear HR113
    clear HB
    have HO108:=n0_
    have HR113:=n1_
    have HB:=n2_
    clear n0_ n1_ n2_
    (try clear hb)
    (try clear hb2)
    (try clear hk)
    (try clear hi)
    refine hK.out _ _ (HS0_) (fun hHeld=>?_)
    clear hK K
    refine norm_ (a':=?_) ?_ ?_
    rotate_left
    ·show Act.put _ (some 25) _ = _
     simp only [Act.put,List.setIfInBounds_toArray,List.set_cons_zero,List.set_cons_succ,i64_w,i32_w]
     rfl
    refine pure_ (i:=6) (N:=some 19) (v:=?_) (a':=?_) #[true,true,true,true,true,true,true,false,false,false,false] rfl rfl (any_of HT_.out (by kernel_rfl)) (fun _ _ _ h=>h) (Or.inl ⟨by rfl,?_⟩) ?_ ?_
    rotate_left
    ·intro w'
     go_simp
     with_reducible rfl
    rotate_left
    ·simp only [Act.put,List.setIfInBounds_toArray,List.set_cons_zero,List.set_cons_succ,i64_w,i32_w]
     rfl
    refine pure_ (i:=7) (N:=some 26) (v:=?_) (a':=?_) #[true,true,true,true,true,true,true,true,false,false,false] rfl rfl (any_of HT_.out (by kernel_rfl)) (fun _ _ _ h=>h) (Or.inl ⟨by rfl,?_⟩) ?_ ?_
    rotate_left
    ·intro w'
     go_simp
     with_reducible rfl
    rotate_left
    ·simp only [Act.put,List.setIfInBounds_toArray,List.set_cons_zero,List.set_cons_succ,i64_w,i32_w]
     rfl
    refine pure_ (i:=8) (N:=some 27) (v:=?_) (a':=?_) #[true,true,true,true,true,true,true,true,true,false,false] rfl rfl (any_of HT_.out (by kernel_rfl)) (fun _ _ _ h=>h) (Or.inl ⟨by rfl,?_⟩) ?_ ?_
    rotate_left
    ·intro w'
     go_simp
     with_reducible rfl
    rotate_left
    ·simp only [Act.put,List.setIfInBounds_toArray,List.set_cons_zero,List.set_cons_succ,i64_w,i32_w]
     rfl
    refine pure_ (i:=9) (N:=some 8) (v:=?_) (a':=?_) #[true,true,true,true,true,true,true,true,true,true,false] rfl rfl (any_of HT_.out (by kernel_rfl)) (fun _ _ _ h=>h) (Or.inl ⟨by rfl,?_⟩) ?_ ?_
    rotate_left
    ·intro w'
     go_simp
     with_reducible rfl
    rotate_left
    ·simp only [Act.put,List.setIfInBounds_toArray,List.set_cons_zero,List.set_cons_succ,i64_w,i32_w]
     rfl
    refine pure_ (i:=10) (N:=some 9) (v:=?_) (a':=?_) #[true,true,true,true,true,true,true,true,true,true,true] rfl rfl (any_of HT_.out (by kernel_rfl)) (fun _ _ _ h=>h) (Or.inl ⟨by rfl,?_⟩) ?_ ?_
    rotate_left
    ·intro w'
     go_simp
     with_reducible rfl
    rotate_left
    ·simp only [Act.put,List.setIfInBounds_toArray,List.set_cons_zero,List.set_cons_succ,i64_w,i32_w]
     rfl
    refine done_ (done_of HT_.out (by kernel_rfl)) ?_
    try go_wp2
    go_ret2
    exact ⟨by first|rfl|(simp [errW_none,errW_some] <;> rfl)|(simp [*,errW_none,errW_some] <;> rfl),by repeat (first|(with_reducible first|exact HB.out|apply below_alloc|apply pw_below_drewN|apply below_drew1)|exact HB.out)⟩
   ·rw [if_neg c6] at H
    exact absurd H (by simp)
  ·rw [if_neg c5] at H
   exact absurd H (by simp)
 ·rw [if_neg c4] at H
  have c4b0 : (QF == 0) = false:=beq_eq_false_iff_ne.mpr c4
  have c4b1 : (QF != 0) = true:=bne_iff_ne.mpr c4
  simp only [Option.some.injEq,Prod.mk.injEq] at H
  obtain ⟨rfl,rfl⟩:=H
  go_enter Try.func20,Try.ntmps20
  go_wp2_with (first|((with_reducible refine gate_callee (f:=28) rfl ?_);refine goesL_ (some 13) rfl rfl Try.func28 (by kernel_rfl) rfl #[.slice A0 l0.length c0,.int .i64 a1] rfl (by (try simp only [List.map_toArray,List.map_cons,List.map_nil]);first|done|rfl|(simp only [List.length_drop,List.length_take];rfl)) ?_;(with_reducible refine (midpoint_Trim.calls _ _ l0 a1 Qx QF _ ?side1 ?side2 A3.out).mono ?_);(case side1=>repeat (first|exact HR0.out|(with_reducible refine Kd.C_alloc ?_ _)|(with_reducible refine Kd.C_drewN ?_ _)|(with_reducible refine Kd.C_drew ?_)));(case side2=>exact HC0.out);rintro e w13 ⟨v107,rfl,ho0,hb⟩;refine ⟨_,rfl,?_⟩;have n0_:=Aside0.mk (Kd.R_lower ho0 (kz_ HB));have n1_:=ks_ HB hb;clear HB;have HO108:=n0_;have HB:=n1_;clear n0_ n1_;(try clear hb);(try clear hb2);(try clear hk);(try clear hi);(try clear ho0)))
  go_ret2
  exact ⟨by first|rfl|(simp [errW_none,errW_some] <;> rfl)|(simp [*,errW_none,errW_some] <;> rfl),by repeat (first|(with_reducible first|exact HB.out|apply below_alloc|apply pw_below_drewN|apply below_drew1)|exact HB.out)⟩

/-! ### resync_Correction: function 7 -/
def resync_Correction.j0 : Nat→List Int→Bool→Int→Int→Int→Int→Int→Int→Int→Int→Int→Int→Int→Int→Int→Int→Int→Int→Option (Int × Int)
 | 0,_,_,_,_,_,_,_,_,_,_,_,_,_,_,_,_,_,_=>none
 | k + 1,x1,x8,x117000,x117001,x117002,x117003,x117004,x117005,x117006,x117007,x117008,x117009,x117010,x117011,x117012,x117013,x117014,x117015=>if x8 = true then (some (0,150)) else ((resync_Enough.f x117000 x117001 x117002 x117003 x117004 x117005 x117006 x117007 x117008 x117009 x117010 x117011 x117012 x117013 x117014 x117015 (x1.length : Int)).bind fun t119=>(if t119 = true then ((midpoint_Of.f k x1 x117001).bind fun Qw=>(if Qw.2 = 0 then (if (mx Qw.1 (wrap64 (-Qw.1))) > x117010 then (some (0,151)) else (some (wrap64 (-Qw.1),0))) else (some (0,150)))) else (some (0,0))))
def resync_Correction.f (k : Nat) (Qm : Int) (Qk : Int) (Qn : Int) (Qo : Int) (Qp : Int) (Qq : Int) (Qr : Int) (Qs : Int) (Qt : Int) (Qu : Int) (Qd : Int) (Qf : Int) (Qg : Int) (Qh : Int) (Qi : Int) (Qj : Int) (l1 : List Int) : Option (Int × Int):=(plan_Check.f Qm Qk Qn Qo Qp Qq Qr Qs Qt Qu Qd Qf Qg Qh Qi Qj).bind fun QD=>(if QD = 0 then ((resync_values.f k l1).bind fun QG=>(resync_Correction.j0 k l1 (!QG) Qm Qk Qn Qo Qp Qq Qr Qs Qt Qu Qd Qf Qg Qh Qi Qj)) else (resync_Correction.j0 k l1 true Qm Qk Qn Qo Qp Qq Qr Qs Qt Qu Qd Qf Qg Qh Qi Qj))
theorem resync_Correction.mono_l : ∀ k,(∀ y0 y1 y2 y3 y4 y5 y6 y7 y8 y9 y10 y11 y12 y13 y14 y15 y16 y17,LeO (resync_Correction.j0 k y0 y1 y2 y3 y4 y5 y6 y7 y8 y9 y10 y11 y12 y13 y14 y15 y16 y17) (resync_Correction.j0 (k + 1) y0 y1 y2 y3 y4 y5 y6 y7 y8 y9 y10 y11 y12 y13 y14 y15 y16 y17))
 | 0=>fun _ _ _ _ _ _ _ _ _ _ _ _ _ _ _ _ _ _ r h=>by simp [resync_Correction.j0] at h
 | k + 1=>by
  have ih0:=resync_Correction.mono_l k
  ·intro y0 y1 y2 y3 y4 y5 y6 y7 y8 y9 y10 y11 y12 y13 y14 y15 y16 y17
   unfold resync_Correction.j0
   repeat' first
   | (with_reducible exact ih0 _ _ _ _ _ _ _ _ _ _ _ _ _ _ _ _ _ _)
   | (with_reducible exact midpoint_Of.mono _ _ _)
   | (with_reducible exact resync_values.mono _ _)
   | (with_reducible exact LeO.refl _)
   | (with_reducible exact LeO.none _)
   | (with_reducible refine LeO.ite ?_ ?_)
   | (with_reducible refine LeO.bind ?_ (fun _=>?_))
   | exact ih0 _ _ _ _ _ _ _ _ _ _ _ _ _ _ _ _ _ _
   | exact midpoint_Of.mono _ _ _
   | exact resync_values.mono _ _
   | exact LeO.none _
   | refine LeO.ite ?_ ?_
   | refine LeO.bind ?_ (fun _=>?_)
theorem resync_Correction.mono : ∀ a0 a1 a2 a3 a4 a5 a6 a7 a8 a9 a10 a11 a12 a13 a14 a15 a16 k,LeO (resync_Correction.f k a0 a1 a2 a3 a4 a5 a6 a7 a8 a9 a10 a11 a12 a13 a14 a15 a16) (resync_Correction.f (k + 1) a0 a1 a2 a3 a4 a5 a6 a7 a8 a9 a10 a11 a12 a13 a14 a15 a16):=by
 intro a0 a1 a2 a3 a4 a5 a6 a7 a8 a9 a10 a11 a12 a13 a14 a15 a16 k
 have ih0:=resync_Correction.mono_l k
 unfold resync_Correction.f
 repeat' first
   | (with_reducible exact ih0 _ _ _ _ _ _ _ _ _ _ _ _ _ _ _ _ _ _)
   | (with_reducible exact midpoint_Of.mono _ _ _)
   | (with_reducible exact resync_values.mono _ _)
   | (with_reducible exact LeO.refl _)
   | (with_reducible exact LeO.none _)
   | (with_reducible refine LeO.ite ?_ ?_)
   | (with_reducible refine LeO.bind ?_ (fun _=>?_))
   | exact ih0 _ _ _ _ _ _ _ _ _ _ _ _ _ _ _ _ _ _
   | exact midpoint_Of.mono _ _ _
   | exact resync_values.mono _ _
   | exact LeO.none _
   | refine LeO.ite ?_ ?_
   | refine LeO.bind ?_ (fun _=>?_)
set_option maxHeartbeats 8000000 in
set_option maxRecDepth 100000 in
theorem resync_Correction.calls (k : Nat) (Qm : Int) (Qk : Int) (Qn : Int) (Qo : Int) (Qp : Int) (Qq : Int) (Qr : Int) (Qs : Int) (Qt : Int) (Qu : Int) (Qd : Int) (Qf : Int) (Qg : Int) (Qh : Int) (Qi : Int) (Qj : Int) (A1 : Option Addr) (c1 : Nat) (l1 : List Int) (r1 : Int) (r2 : Int) (w : World) (hr1 : Kd.C (Kd.int .i64) w A1 l1.length l1) (hc1 : l1.length ≤ c1) (h : resync_Correction.f k Qm Qk Qn Qo Qp Qq Qr Qs Qt Qu Qd Qf Qg Qh Qi Qj l1 = some (r1,r2)) :
  Calls Try.prog 7 #[.agg #[.int .i64 Qm,.int .i64 Qk,.int .i64 Qn,.int .i64 Qo,.int .i64 Qp,.int .i64 Qq,.int .i64 Qr,.int .i64 Qs,.int .i64 Qt,.int .i64 Qu,.int .i64 Qd,.int .i64 Qf,.int .i64 Qg,.int .i64 Qh,.int .i64 Qi,.int .i64 Qj],.slice A1 l1.length c1] w fun e w'=>e = .returned (.tuple #[.int .i64 r1,.int .i64 r2])∧Below w.heap.size w w':=by
 have hu23:=Try.underlying23
 have HR1:=Aside0.mk hr1
 have HC1:=Aside0.mk hc1
 clear hr1 hc1
 have HB:=Aside0.mk (Below.refl w.heap.size w)
 have H : ((plan_Check.f Qm Qk Qn Qo Qp Qq Qr Qs Qt Qu Qd Qf Qg Qh Qi Qj).bind fun QD=>(if QD = 0 then ((resync_values.f k l1).bind fun QG=>(resync_Correction.j0 k l1 (!QG) Qm Qk Qn Qo Qp Qq Qr Qs Qt Qu Qd Qf Qg Qh Qi Qj)) else (resync_Correction.j0 k l1 true Qm Qk Qn Qo Qp Qq Qr Qs Qt Qu Qd Qf Qg Qh Qi Qj))) = some (r1,r2):=h
 clear h
 have HC3:=Aside0.mk H
 clear H
 go_enter Try.func7,Try.ntmps7
 go_upto_region 1 with (first|((with_reducible refine gate_dst (N:=2) rfl ?_);refine box_event ?hg (N:=2) ?hd (cs:=#[.int .i64 Qm,.int .i64 Qk,.int .i64 Qn,.int .i64 Qo,.int .i64 Qp,.int .i64 Qq,.int .i64 Qr,.int .i64 Qs,.int .i64 Qt,.int .i64 Qu,.int .i64 Qd,.int .i64 Qf,.int .i64 Qg,.int .i64 Qh,.int .i64 Qi,.int .i64 Qj]) (t:=23) ?hr ?_;(case hd=>rfl);(case hg=>rfl);(case hr=>first|(go_simp;done)|(go_simp;rfl));intro Qb hg w4 hbox hb;have n0_:=ks_ HB hb;have n1_:=Aside0.mk (hbox);have n2_:=Aside0.mk ((by rw [hg];exact (kz_ HB) : w.heap.size ≤ Qb));have n3_:=Aside0.mk ((by rw [hg];exact (kz_ HB) : w.heap.size ≤ Qb));clear HB;have HB:=n0_;have Qa:=n1_;have GW116:=n2_;have QE:=n3_;clear n0_ n1_ n2_ n3_;clear hb hbox hg))
 (try simp only [Act.put,List.setIfInBounds_toArray,List.set_cons_zero,List.set_cons_succ])
 go_cut [8] (fun v8 wc=>∃ (kq : Nat) (x8_2 : Bool),v8 = .bool x8_2∧Aside0 (resync_Correction.j0 kq l1 x8_2 Qm Qk Qn Qo Qp Qq Qr Qs Qt Qu Qd Qf Qg Qh Qi Qj = some (r1,r2))∧Aside0 (kq ≤ k)∧Aside0 (wc.heap[Qb]? = some (.cells #[.int .i64 Qm,.int .i64 Qk,.int .i64 Qn,.int .i64 Qo,.int .i64 Qp,.int .i64 Qq,.int .i64 Qr,.int .i64 Qs,.int .i64 Qt,.int .i64 Qu,.int .i64 Qd,.int .i64 Qf,.int .i64 Qg,.int .i64 Qh,.int .i64 Qi,.int .i64 Qj] 23 (0,0)))∧Aside0 (Below w.heap.size w wc))
 case first =>
  have H:=HC3.out
  clear HC3
  replace H:=Option.bind_eq_some_iff.mp H
  obtain ⟨QD,A50,H⟩:=H
  replace H : (if QD = 0 then ((resync_values.f k l1).bind fun QG=>(resync_Correction.j0 k l1 (!QG) Qm Qk Qn Qo Qp Qq Qr Qs Qt Qu Qd Qf Qg Qh Qi Qj)) else (resync_Correction.j0 k l1 true Qm Qk Qn Qo Qp Qq Qr Qs Qt Qu Qd Qf Qg Qh Qi Qj)) = some (r1,r2):=H
  have A5:=Aside0.mk A50
  clear A50
  by_cases c6 : QD = 0
  ·rw [if_pos c6] at H
   have c6b0 : (QD == 0) = true:=beq_iff_eq.mpr c6
   have c6b1 : (QD != 0) = false:=bne_eq_false_iff_eq.mpr c6
   clear c6
   (first|rw [c6b0]|(simp only [i64_w,i32_w];rw [c6b0])|skip)
   replace H:=Option.bind_eq_some_iff.mp H
   obtain ⟨QG,A70,H⟩:=H
   replace H : (resync_Correction.j0 k l1 (!QG) Qm Qk Qn Qo Qp Qq Qr Qs Qt Qu Qd Qf Qg Qh Qi Qj) = some (r1,r2):=H
   have A7:=Aside0.mk A70
   clear A70
   have H':=Aside0.mk H
   clear H
   have hcz8_0 : w4.cell? ⟨Qb,0,none⟩ = some (.int .i64 Qm):=(blk_cell Qa.out 0).trans rfl
   have hcz8_1 : w4.cell? ⟨Qb,1,none⟩ = some (.int .i64 Qk):=(blk_cell Qa.out 1).trans rfl
   have hcz8_2 : w4.cell? ⟨Qb,2,none⟩ = some (.int .i64 Qn):=(blk_cell Qa.out 2).trans rfl
   have hcz8_3 : w4.cell? ⟨Qb,3,none⟩ = some (.int .i64 Qo):=(blk_cell Qa.out 3).trans rfl
   have hcz8_4 : w4.cell? ⟨Qb,4,none⟩ = some (.int .i64 Qp):=(blk_cell Qa.out 4).trans rfl
   have hcz8_5 : w4.cell? ⟨Qb,5,none⟩ = some (.int .i64 Qq):=(blk_cell Qa.out 5).trans rfl
   have hcz8_6 : w4.cell? ⟨Qb,6,none⟩ = some (.int .i64 Qr):=(blk_cell Qa.out 6).trans rfl
   have hcz8_7 : w4.cell? ⟨Qb,7,none⟩ = some (.int .i64 Qs):=(blk_cell Qa.out 7).trans rfl
   have hcz8_8 : w4.cell? ⟨Qb,8,none⟩ = some (.int .i64 Qt):=(blk_cell Qa.out 8).trans rfl
   have hcz8_9 : w4.cell? ⟨Qb,9,none⟩ = some (.int .i64 Qu):=(blk_cell Qa.out 9).trans rfl
   have hcz8_10 : w4.cell? ⟨Qb,10,none⟩ = some (.int .i64 Qd):=(blk_cell Qa.out 10).trans rfl
   have hcz8_11 : w4.cell? ⟨Qb,11,none⟩ = some (.int .i64 Qf):=(blk_cell Qa.out 11).trans rfl
   have hcz8_12 : w4.cell? ⟨Qb,12,none⟩ = some (.int .i64 Qg):=(blk_cell Qa.out 12).trans rfl
   have hcz8_13 : w4.cell? ⟨Qb,13,none⟩ = some (.int .i64 Qh):=(blk_cell Qa.out 13).trans rfl
   have hcz8_14 : w4.cell? ⟨Qb,14,none⟩ = some (.int .i64 Qi):=(blk_cell Qa.out 14).trans rfl
   have hcz8_15 : w4.cell? ⟨Qb,15,none⟩ = some (.int .i64 Qj):=(blk_cell Qa.out 15).trans rfl
   have hfz8_0:=blk_frozen Qa.out 0
   have hfz8_1:=blk_frozen Qa.out 1
   have hfz8_2:=blk_frozen Qa.out 2
   have hfz8_3:=blk_frozen Qa.out 3
   have hfz8_4:=blk_frozen Qa.out 4
   have hfz8_5:=blk_frozen Qa.out 5
   have hfz8_6:=blk_frozen Qa.out 6
   have hfz8_7:=blk_frozen Qa.out 7
   have hfz8_8:=blk_frozen Qa.out 8
   have hfz8_9:=blk_frozen Qa.out 9
   have hfz8_10:=blk_frozen Qa.out 10
   have hfz8_11:=blk_frozen Qa.out 11
   have hfz8_12:=blk_frozen Qa.out 12
   have hfz8_13:=blk_frozen Qa.out 13
   have hfz8_14:=blk_frozen Qa.out 14
   have hfz8_15:=blk_frozen Qa.out 15
   go_wp2_with (first|((with_reducible refine gate_callee (f:=16) rfl ?_);refine goesL_ (some 10) rfl rfl Try.func16 (by kernel_rfl) rfl #[.agg #[.int .i64 Qm,.int .i64 Qk,.int .i64 Qn,.int .i64 Qo,.int .i64 Qp,.int .i64 Qq,.int .i64 Qr,.int .i64 Qs,.int .i64 Qt,.int .i64 Qu,.int .i64 Qd,.int .i64 Qf,.int .i64 Qg,.int .i64 Qh,.int .i64 Qi,.int .i64 Qj]] rfl (by (try simp only [List.map_toArray,List.map_cons,List.map_nil]);first|done|rfl|(simp only [List.length_drop,List.length_take];rfl)) ?_;(with_reducible refine (plan_Check.calls Qm Qk Qn Qo Qp Qq Qr Qs Qt Qu Qd Qf Qg Qh Qi Qj QD _ A5.out).mono ?_);rintro e w9 ⟨rfl,hb⟩;refine ⟨_,rfl,?_⟩;have n0_:=kb_ Qa hb;have n1_:=ks_ HB hb;clear Qa;clear HB;have Qa:=n0_;have HB:=n1_;clear n0_ n1_;(try clear hb);(try clear hb2);(try clear hk);(try clear hi))|(go_at_call 19;(with_reducible refine (resync_values.calls k _ _ l1 QG _ ?side1 ?side2 A7.out).mono ?_);(case side1=>repeat (first|exact (Kd.C_below HR1.out HB.out)|(with_reducible refine Kd.C_alloc ?_ _)|(with_reducible refine Kd.C_drewN ?_ _)|(with_reducible refine Kd.C_drew ?_)));(case side2=>exact HC1.out);rintro e w' ⟨rfl,⟨nd,rfl⟩⟩))
   go_meet
   case rel=>exact ⟨_,(!QG),(by first|rfl|(simp;done)|(simp [*];done)),H',⟨by first|omega|exact Nat.le_refl _⟩,⟨by (with_reducible repeat (first|refine blk_drewN ?_ _|refine blk_drew ?_|refine blk_alloc ?_ _));exact Qa.out⟩,⟨by repeat (first|(with_reducible first|exact HB.out|apply below_alloc|apply pw_below_drewN|apply below_drew1|refine below_set ?_ QE.out)|exact HB.out)⟩⟩
  ·rw [if_neg c6] at H
   have c6b0 : (QD == 0) = false:=beq_eq_false_iff_ne.mpr c6
   have c6b1 : (QD != 0) = true:=bne_iff_ne.mpr c6
   (first|rw [c6b0]|(simp only [i64_w,i32_w];rw [c6b0])|skip)
   have H':=Aside0.mk H
   clear H
   have hcz10_0 : w4.cell? ⟨Qb,0,none⟩ = some (.int .i64 Qm):=(blk_cell Qa.out 0).trans rfl
   have hcz10_1 : w4.cell? ⟨Qb,1,none⟩ = some (.int .i64 Qk):=(blk_cell Qa.out 1).trans rfl
   have hcz10_2 : w4.cell? ⟨Qb,2,none⟩ = some (.int .i64 Qn):=(blk_cell Qa.out 2).trans rfl
   have hcz10_3 : w4.cell? ⟨Qb,3,none⟩ = some (.int .i64 Qo):=(blk_cell Qa.out 3).trans rfl
   have hcz10_4 : w4.cell? ⟨Qb,4,none⟩ = some (.int .i64 Qp):=(blk_cell Qa.out 4).trans rfl
   have hcz10_5 : w4.cell? ⟨Qb,5,none⟩ = some (.int .i64 Qq):=(blk_cell Qa.out 5).trans rfl
   have hcz10_6 : w4.cell? ⟨Qb,6,none⟩ = some (.int .i64 Qr):=(blk_cell Qa.out 6).trans rfl
   have hcz10_7 : w4.cell? ⟨Qb,7,none⟩ = some (.int .i64 Qs):=(blk_cell Qa.out 7).trans rfl
   have hcz10_8 : w4.cell? ⟨Qb,8,none⟩ = some (.int .i64 Qt):=(blk_cell Qa.out 8).trans rfl
   have hcz10_9 : w4.cell? ⟨Qb,9,none⟩ = some (.int .i64 Qu):=(blk_cell Qa.out 9).trans rfl
   have hcz10_10 : w4.cell? ⟨Qb,10,none⟩ = some (.int .i64 Qd):=(blk_cell Qa.out 10).trans rfl
   have hcz10_11 : w4.cell? ⟨Qb,11,none⟩ = some (.int .i64 Qf):=(blk_cell Qa.out 11).trans rfl
   have hcz10_12 : w4.cell? ⟨Qb,12,none⟩ = some (.int .i64 Qg):=(blk_cell Qa.out 12).trans rfl
   have hcz10_13 : w4.cell? ⟨Qb,13,none⟩ = some (.int .i64 Qh):=(blk_cell Qa.out 13).trans rfl
   have hcz10_14 : w4.cell? ⟨Qb,14,none⟩ = some (.int .i64 Qi):=(blk_cell Qa.out 14).trans rfl
   have hcz10_15 : w4.cell? ⟨Qb,15,none⟩ = some (.int .i64 Qj):=(blk_cell Qa.out 15).trans rfl
   have hfz10_0:=blk_frozen Qa.out 0
   have hfz10_1:=blk_frozen Qa.out 1
   have hfz10_2:=blk_frozen Qa.out 2
   have hfz10_3:=blk_frozen Qa.out 3
   have hfz10_4:=blk_frozen Qa.out 4
   have hfz10_5:=blk_frozen Qa.out 5
   have hfz10_6:=blk_frozen Qa.out 6
   have hfz10_7:=blk_frozen Qa.out 7
   have hfz10_8:=blk_frozen Qa.out 8
   have hfz10_9:=blk_frozen Qa.out 9
   have hfz10_10:=blk_frozen Qa.out 10
   have hfz10_11:=blk_frozen Qa.out 11
   have hfz10_12:=blk_frozen Qa.out 12
   have hfz10_13:=blk_frozen Qa.out 13
   have hfz10_14:=blk_frozen Qa.out 14
   have hfz10_15:=blk_frozen Qa.out 15
   go_wp2_with (first|((with_reducible refine gate_callee (f:=16) rfl ?_);refine goesL_ (some 10) rfl rfl Try.func16 (by kernel_rfl) rfl #[.agg #[.int .i64 Qm,.int .i64 Qk,.int .i64 Qn,.int .i64 Qo,.int .i64 Qp,.int .i64 Qq,.int .i64 Qr,.int .i64 Qs,.int .i64 Qt,.int .i64 Qu,.int .i64 Qd,.int .i64 Qf,.int .i64 Qg,.int .i64 Qh,.int .i64 Qi,.int .i64 Qj]] rfl (by (try simp only [List.map_toArray,List.map_cons,List.map_nil]);first|done|rfl|(simp only [List.length_drop,List.length_take];rfl)) ?_;(with_reducible refine (plan_Check.calls Qm Qk Qn Qo Qp Qq Qr Qs Qt Qu Qd Qf Qg Qh Qi Qj QD _ A5.out).mono ?_);rintro e w11 ⟨rfl,hb⟩;refine ⟨_,rfl,?_⟩;have n0_:=kb_ Qa hb;have n1_:=ks_ HB hb;clear Qa;clear HB;have Qa:=n0_;have HB:=n1_;clear n0_ n1_;(try clear hb);(try clear hb2);(try clear hk);(try clear hi)))
   go_meet
   case rel=>exact ⟨_,(true),(by first|rfl|(simp;done)|(simp [*];done)),H',⟨by first|omega|exact Nat.le_refl _⟩,⟨by (with_reducible repeat (first|refine blk_drewN ?_ _|refine blk_drew ?_|refine blk_alloc ?_ _));exact Qa.out⟩,⟨by repeat (first|(with_reducible first|exact HB.out|apply below_alloc|apply pw_below_drewN|apply below_drew1|refine below_set ?_ QE.out)|exact HB.out)⟩⟩
 case rest =>
  clear HC3
  try clear c1
  try clear p2
  try clear c6
  try clear c6b0
  try clear c6b1
  try clear c7
  try clear hcz10_0
  try clear hcz10_1
  try clear hcz10_10
  try clear hcz10_11
  try clear hcz10_12
  try clear hcz10_13
  try clear hcz10_14
  try clear hcz10_15
  try clear hcz10_2
  try clear hcz10_3
  try clear hcz10_4
  try clear hcz10_5
  try clear hcz10_6
  try clear hcz10_7
  try clear hcz10_8
  try clear hcz10_9
  try clear hcz8_0
  try clear hcz8_1
  try clear hcz8_10
  try clear hcz8_11
  try clear hcz8_12
  try clear hcz8_13
  try clear hcz8_14
  try clear hcz8_15
  try clear hcz8_2
  try clear hcz8_3
  try clear hcz8_4
  try clear hcz8_5
  try clear hcz8_6
  try clear hcz8_7
  try clear hcz8_8
  try clear hcz8_9
  try clear hfz10_0
  try clear hfz10_1
  try clear hfz10_10
  try clear hfz10_11
  try clear hfz10_12
  try clear hfz10_13
  try clear hfz10_14
  try clear hfz10_15
  try clear hfz10_2
  try clear hfz10_3
  try clear hfz10_4
  try clear hfz10_5
  try clear hfz10_6
  try clear hfz10_7
  try clear hfz10_8
  try clear hfz10_9
  try clear hfz8_0
  try clear hfz8_1
  try clear hfz8_10
  try clear hfz8_11
  try clear hfz8_12
  try clear hfz8_13
  try clear hfz8_14
  try clear hfz8_15
  try clear hfz8_2
  try clear hfz8_3
  try clear hfz8_4
  try clear hfz8_5
  try clear hfz8_6
  try clear hfz8_7
  try clear hfz8_8
  try clear hfz8_9
  obtain ⟨kq,x8_2,rfl,HA,HJ2,Qa,HB⟩:=hcut
  cases kq with
  | zero=>exact absurd HA.out (by simp [resync_Correction.j0])
  | succ kj2 =>
   have H:=HA.out
   clear HA
   simp only [resync_Correction.j0] at H
   by_cases c12 : x8_2 = true
   ·subst c12
    have H1 : (some (0,150)) = some (r1,r2):=by rw [if_pos rfl] at H;exact H
    clear H
    have H:=H1
    clear H1
    simp only [Option.some.injEq,Prod.mk.injEq] at H
    obtain ⟨rfl,rfl⟩:=H
    go_wp2
    go_ret2
    exact ⟨by first|rfl|(simp [errW_none,errW_some] <;> rfl)|(simp [*,errW_none,errW_some] <;> rfl),by repeat (first|(with_reducible first|exact HB.out|apply below_alloc|apply pw_below_drewN|apply below_drew1|refine below_set ?_ QE.out)|exact HB.out)⟩
   ·replace c12:=Bool.eq_false_iff.mpr c12
    subst c12
    have H1 : ((resync_Enough.f Qm Qk Qn Qo Qp Qq Qr Qs Qt Qu Qd Qf Qg Qh Qi Qj (l1.length : Int)).bind fun t119=>(if t119 = true then ((midpoint_Of.f kj2 l1 Qk).bind fun Qw=>(if Qw.2 = 0 then (if (mx Qw.1 (wrap64 (-Qw.1))) > Qd then (some (0,151)) else (some (wrap64 (-Qw.1),0))) else (some (0,150)))) else (some (0,0)))) = some (r1,r2):=by rw [if_neg (show ¬ (false = true) by decide)] at H;exact H
    clear H
    have H:=H1
    clear H1
    replace H:=Option.bind_eq_some_iff.mp H
    obtain ⟨t119,A130,H⟩:=H
    replace H : (if t119 = true then ((midpoint_Of.f kj2 l1 Qk).bind fun Qw=>(if Qw.2 = 0 then (if (mx Qw.1 (wrap64 (-Qw.1))) > Qd then (some (0,151)) else (some (wrap64 (-Qw.1),0))) else (some (0,150)))) else (some (0,0))) = some (r1,r2):=H
    have A13:=Aside0.mk A130
    clear A130
    by_cases c14 : t119 = true
    ·subst c14
     have H1 : ((midpoint_Of.f kj2 l1 Qk).bind fun Qw=>(if Qw.2 = 0 then (if (mx Qw.1 (wrap64 (-Qw.1))) > Qd then (some (0,151)) else (some (wrap64 (-Qw.1),0))) else (some (0,150)))) = some (r1,r2):=by rw [if_pos rfl] at H;exact H
     clear H
     have H:=H1
     clear H1
     replace H:=Option.bind_eq_some_iff.mp H
     obtain ⟨⟨QA,QH⟩,A150,H⟩:=H
     replace H : (if QH = 0 then (if (mx QA (wrap64 (-QA))) > Qd then (some (0,151)) else (some (wrap64 (-QA),0))) else (some (0,150))) = some (r1,r2):=H
     have A15:=Aside0.mk A150
     clear A150
     by_cases c16 : QH = 0
     ·rw [if_pos c16] at H
      have c16b0 : (QH == 0) = true:=beq_iff_eq.mpr c16
      have c16b1 : (QH != 0) = false:=bne_eq_false_iff_eq.mpr c16
      clear c16
      obtain ⟨ji17,hji17⟩ : ∃ j_ : Int,(mx QA (wrap64 (-QA))) = j_:=⟨_,rfl⟩
      replace H : (if (ji17) > Qd then (some (0,151)) else (some (wrap64 (-QA),0))) = some (r1,r2):=by first|(rw [hji17] at H;exact H)|(simp only [hji17] at H ⊢;exact H)
      (try rw [hji17] at A13)
      (try rw [hji17] at A15)
      have hji17_ : (if QA < (wrap64 (-QA)) then (wrap64 (-QA)) else QA) = ji17:=hji17
      by_cases c18 : (ji17) > Qd
      ·rw [if_pos c18] at H
       have c18b0 : decide (Qd < (ji17)) = true:=decide_eq_true c18
       clear c18
       simp only [Option.some.injEq,Prod.mk.injEq] at H
       obtain ⟨rfl,rfl⟩:=H
       have hcz19_0 : wc.cell? ⟨Qb,0,none⟩ = some (.int .i64 Qm):=(blk_cell Qa.out 0).trans rfl
       have hcz19_1 : wc.cell? ⟨Qb,1,none⟩ = some (.int .i64 Qk):=(blk_cell Qa.out 1).trans rfl
       have hcz19_2 : wc.cell? ⟨Qb,2,none⟩ = some (.int .i64 Qn):=(blk_cell Qa.out 2).trans rfl
       have hcz19_3 : wc.cell? ⟨Qb,3,none⟩ = some (.int .i64 Qo):=(blk_cell Qa.out 3).trans rfl
       have hcz19_4 : wc.cell? ⟨Qb,4,none⟩ = some (.int .i64 Qp):=(blk_cell Qa.out 4).trans rfl
       have hcz19_5 : wc.cell? ⟨Qb,5,none⟩ = some (.int .i64 Qq):=(blk_cell Qa.out 5).trans rfl
       have hcz19_6 : wc.cell? ⟨Qb,6,none⟩ = some (.int .i64 Qr):=(blk_cell Qa.out 6).trans rfl
       have hcz19_7 : wc.cell? ⟨Qb,7,none⟩ = some (.int .i64 Qs):=(blk_cell Qa.out 7).trans rfl
       have hcz19_8 : wc.cell? ⟨Qb,8,none⟩ = some (.int .i64 Qt):=(blk_cell Qa.out 8).trans rfl
       have hcz19_9 : wc.cell? ⟨Qb,9,none⟩ = some (.int .i64 Qu):=(blk_cell Qa.out 9).trans rfl
       have hcz19_10 : wc.cell? ⟨Qb,10,none⟩ = some (.int .i64 Qd):=(blk_cell Qa.out 10).trans rfl
       have hcz19_11 : wc.cell? ⟨Qb,11,none⟩ = some (.int .i64 Qf):=(blk_cell Qa.out 11).trans rfl
       have hcz19_12 : wc.cell? ⟨Qb,12,none⟩ = some (.int .i64 Qg):=(blk_cell Qa.out 12).trans rfl
       have hcz19_13 : wc.cell? ⟨Qb,13,none⟩ = some (.int .i64 Qh):=(blk_cell Qa.out 13).trans rfl
       have hcz19_14 : wc.cell? ⟨Qb,14,none⟩ = some (.int .i64 Qi):=(blk_cell Qa.out 14).trans rfl
       have hcz19_15 : wc.cell? ⟨Qb,15,none⟩ = some (.int .i64 Qj):=(blk_cell Qa.out 15).trans rfl
       have hfz19_0:=blk_frozen Qa.out 0
       have hfz19_1:=blk_frozen Qa.out 1
       have hfz19_2:=blk_frozen Qa.out 2
       have hfz19_3:=blk_frozen Qa.out 3
       have hfz19_4:=blk_frozen Qa.out 4
       have hfz19_5:=blk_frozen Qa.out 5
       have hfz19_6:=blk_frozen Qa.out 6
       have hfz19_7:=blk_frozen Qa.out 7
       have hfz19_8:=blk_frozen Qa.out 8
       have hfz19_9:=blk_frozen Qa.out 9
       have hfz19_10:=blk_frozen Qa.out 10
       have hfz19_11:=blk_frozen Qa.out 11
       have hfz19_12:=blk_frozen Qa.out 12
       have hfz19_13:=blk_frozen Qa.out 13
       have hfz19_14:=blk_frozen Qa.out 14
       have hfz19_15:=blk_frozen Qa.out 15
       go_wp2_with (first|((with_reducible refine gate_callee (f:=14) rfl ?_);refine goesL_ (some 21) rfl rfl Try.func14 (by kernel_rfl) rfl #[.agg #[.int .i64 Qm,.int .i64 Qk,.int .i64 Qn,.int .i64 Qo,.int .i64 Qp,.int .i64 Qq,.int .i64 Qr,.int .i64 Qs,.int .i64 Qt,.int .i64 Qu,.int .i64 Qd,.int .i64 Qf,.int .i64 Qg,.int .i64 Qh,.int .i64 Qi,.int .i64 Qj],.int .i64 (l1.length : Int)] rfl (by (try simp only [List.map_toArray,List.map_cons,List.map_nil]);first|done|rfl|(simp only [List.length_drop,List.length_take];rfl)) ?_;(with_reducible refine (resync_Enough.calls Qm Qk Qn Qo Qp Qq Qr Qs Qt Qu Qd Qf Qg Qh Qi Qj (l1.length : Int) true _ A13.out).mono ?_);rintro e w20 ⟨rfl,hb⟩;refine ⟨_,rfl,?_⟩;have n0_:=kb_ Qa hb;have n1_:=ks_ HB hb;clear Qa;clear HB;have Qa:=n0_;have HB:=n1_;clear n0_ n1_;(try clear hb);(try clear hb2);(try clear hk);(try clear hi);have hcz21_0 : w20.cell? ⟨Qb,0,none⟩ = some (.int .i64 Qm):=(blk_cell Qa.out 0).trans rfl;have hcz21_1 : w20.cell? ⟨Qb,1,none⟩ = some (.int .i64 Qk):=(blk_cell Qa.out 1).trans rfl;have hcz21_2 : w20.cell? ⟨Qb,2,none⟩ = some (.int .i64 Qn):=(blk_cell Qa.out 2).trans rfl;have hcz21_3 : w20.cell? ⟨Qb,3,none⟩ = some (.int .i64 Qo):=(blk_cell Qa.out 3).trans rfl;have hcz21_4 : w20.cell? ⟨Qb,4,none⟩ = some (.int .i64 Qp):=(blk_cell Qa.out 4).trans rfl;have hcz21_5 : w20.cell? ⟨Qb,5,none⟩ = some (.int .i64 Qq):=(blk_cell Qa.out 5).trans rfl;have hcz21_6 : w20.cell? ⟨Qb,6,none⟩ = some (.int .i64 Qr):=(blk_cell Qa.out 6).trans rfl;have hcz21_7 : w20.cell? ⟨Qb,7,none⟩ = some (.int .i64 Qs):=(blk_cell Qa.out 7).trans rfl;have hcz21_8 : w20.cell? ⟨Qb,8,none⟩ = some (.int .i64 Qt):=(blk_cell Qa.out 8).trans rfl;have hcz21_9 : w20.cell? ⟨Qb,9,none⟩ = some (.int .i64 Qu):=(blk_cell Qa.out 9).trans rfl;have hcz21_10 : w20.cell? ⟨Qb,10,none⟩ = some (.int .i64 Qd):=(blk_cell Qa.out 10).trans rfl;have hcz21_11 : w20.cell? ⟨Qb,11,none⟩ = some (.int .i64 Qf):=(blk_cell Qa.out 11).trans rfl;have hcz21_12 : w20.cell? ⟨Qb,12,none⟩ = some (.int .i64 Qg):=(blk_cell Qa.out 12).trans rfl;have hcz21_13 : w20.cell? ⟨Qb,13,none⟩ = some (.int .i64 Qh):=(blk_cell Qa.out 13).trans rfl;have hcz21_14 : w20.cell? ⟨Qb,14,none⟩ = some (.int .i64 Qi):=(blk_cell Qa.out 14).trans rfl;have hcz21_15 : w20.cell? ⟨Qb,15,none⟩ = some (.int .i64 Qj):=(blk_cell Qa.out 15).trans rfl;have hfz21_0:=blk_frozen Qa.out 0;have hfz21_1:=blk_frozen Qa.out 1;have hfz21_2:=blk_frozen Qa.out 2;have hfz21_3:=blk_frozen Qa.out 3;have hfz21_4:=blk_frozen Qa.out 4;have hfz21_5:=blk_frozen Qa.out 5;have hfz21_6:=blk_frozen Qa.out 6;have hfz21_7:=blk_frozen Qa.out 7;have hfz21_8:=blk_frozen Qa.out 8;have hfz21_9:=blk_frozen Qa.out 9;have hfz21_10:=blk_frozen Qa.out 10;have hfz21_11:=blk_frozen Qa.out 11;have hfz21_12:=blk_frozen Qa.out 12;have hfz21_13:=blk_frozen Qa.out 13;have hfz21_14:=blk_frozen Qa.out 14;have hfz21_15:=blk_frozen Qa.out 15)|((with_reducible refine gate_callee (f:=20) rfl ?_);refine goesL_ (some 27) rfl rfl Try.func20 (by kernel_rfl) rfl #[.slice A1 l1.length c1,.int .i64 Qk] rfl (by (try simp only [List.map_toArray,List.map_cons,List.map_nil]);first|done|rfl|(simp only [List.length_drop,List.length_take];rfl)) ?_;(with_reducible refine (midpoint_Of.calls kj2 _ _ l1 Qk QA QH _ ?side1 ?side2 A15.out).mono ?_);(case side1=>repeat (first|exact (Kd.C_below HR1.out HB.out)|(with_reducible refine Kd.C_alloc ?_ _)|(with_reducible refine Kd.C_drewN ?_ _)|(with_reducible refine Kd.C_drew ?_)));(case side2=>exact HC1.out);rintro e w22 ⟨rfl,hb⟩;refine ⟨_,rfl,?_⟩;have n0_:=kb_ Qa hb;have n1_:=ks_ HB hb;clear Qa;clear HB;have Qa:=n0_;have HB:=n1_;clear n0_ n1_;(try clear hb);(try clear hb2);(try clear hk);(try clear hi);have hcz23_0 : w22.cell? ⟨Qb,0,none⟩ = some (.int .i64 Qm):=(blk_cell Qa.out 0).trans rfl;have hcz23_1 : w22.cell? ⟨Qb,1,none⟩ = some (.int .i64 Qk):=(blk_cell Qa.out 1).trans rfl;have hcz23_2 : w22.cell? ⟨Qb,2,none⟩ = some (.int .i64 Qn):=(blk_cell Qa.out 2).trans rfl;have hcz23_3 : w22.cell? ⟨Qb,3,none⟩ = some (.int .i64 Qo):=(blk_cell Qa.out 3).trans rfl;have hcz23_4 : w22.cell? ⟨Qb,4,none⟩ = some (.int .i64 Qp):=(blk_cell Qa.out 4).trans rfl;have hcz23_5 : w22.cell? ⟨Qb,5,none⟩ = some (.int .i64 Qq):=(blk_cell Qa.out 5).trans rfl;have hcz23_6 : w22.cell? ⟨Qb,6,none⟩ = some (.int .i64 Qr):=(blk_cell Qa.out 6).trans rfl;have hcz23_7 : w22.cell? ⟨Qb,7,none⟩ = some (.int .i64 Qs):=(blk_cell Qa.out 7).trans rfl;have hcz23_8 : w22.cell? ⟨Qb,8,none⟩ = some (.int .i64 Qt):=(blk_cell Qa.out 8).trans rfl;have hcz23_9 : w22.cell? ⟨Qb,9,none⟩ = some (.int .i64 Qu):=(blk_cell Qa.out 9).trans rfl;have hcz23_10 : w22.cell? ⟨Qb,10,none⟩ = some (.int .i64 Qd):=(blk_cell Qa.out 10).trans rfl;have hcz23_11 : w22.cell? ⟨Qb,11,none⟩ = some (.int .i64 Qf):=(blk_cell Qa.out 11).trans rfl;have hcz23_12 : w22.cell? ⟨Qb,12,none⟩ = some (.int .i64 Qg):=(blk_cell Qa.out 12).trans rfl;have hcz23_13 : w22.cell? ⟨Qb,13,none⟩ = some (.int .i64 Qh):=(blk_cell Qa.out 13).trans rfl;have hcz23_14 : w22.cell? ⟨Qb,14,none⟩ = some (.int .i64 Qi):=(blk_cell Qa.out 14).trans rfl;have hcz23_15 : w22.cell? ⟨Qb,15,none⟩ = some (.int .i64 Qj):=(blk_cell Qa.out 15).trans rfl;have hfz23_0:=blk_frozen Qa.out 0;have hfz23_1:=blk_frozen Qa.out 1;have hfz23_2:=blk_frozen Qa.out 2;have hfz23_3:=blk_frozen Qa.out 3;have hfz23_4:=blk_frozen Qa.out 4;have hfz23_5:=blk_frozen Qa.out 5;have hfz23_6:=blk_frozen Qa.out 6;have hfz23_7:=blk_frozen Qa.out 7;have hfz23_8:=blk_frozen Qa.out 8;have hfz23_9:=blk_frozen Qa.out 9;have hfz23_10:=blk_frozen Qa.out 10;have hfz23_11:=blk_frozen Qa.out 11;have hfz23_12:=blk_frozen Qa.out 12;have hfz23_13:=blk_frozen Qa.out 13;have hfz23_14:=blk_frozen Qa.out 14;have hfz23_15:=blk_frozen Qa.out 15))
       go_ret2
       exact ⟨by first|rfl|(simp [errW_none,errW_some] <;> rfl)|(simp only [← hji17];first|rfl|(simp [errW_none,errW_some] <;> rfl))|(simp [*,errW_none,errW_some] <;> rfl),by repeat (first|(with_reducible first|exact HB.out|apply below_alloc|apply pw_below_drewN|apply below_drew1|refine below_set ?_ QE.out)|exact HB.out)⟩
      ·rw [if_neg c18] at H
       have c18b0 : decide (Qd < (ji17)) = false:=decide_eq_false c18
       clear c18
       simp only [Option.some.injEq,Prod.mk.injEq] at H
       obtain ⟨rfl,rfl⟩:=H
       have hcz24_0 : wc.cell? ⟨Qb,0,none⟩ = some (.int .i64 Qm):=(blk_cell Qa.out 0).trans rfl
       have hcz24_1 : wc.cell? ⟨Qb,1,none⟩ = some (.int .i64 Qk):=(blk_cell Qa.out 1).trans rfl
       have hcz24_2 : wc.cell? ⟨Qb,2,none⟩ = some (.int .i64 Qn):=(blk_cell Qa.out 2).trans rfl
       have hcz24_3 : wc.cell? ⟨Qb,3,none⟩ = some (.int .i64 Qo):=(blk_cell Qa.out 3).trans rfl
       have hcz24_4 : wc.cell? ⟨Qb,4,none⟩ = some (.int .i64 Qp):=(blk_cell Qa.out 4).trans rfl
       have hcz24_5 : wc.cell? ⟨Qb,5,none⟩ = some (.int .i64 Qq):=(blk_cell Qa.out 5).trans rfl
       have hcz24_6 : wc.cell? ⟨Qb,6,none⟩ = some (.int .i64 Qr):=(blk_cell Qa.out 6).trans rfl
       have hcz24_7 : wc.cell? ⟨Qb,7,none⟩ = some (.int .i64 Qs):=(blk_cell Qa.out 7).trans rfl
       have hcz24_8 : wc.cell? ⟨Qb,8,none⟩ = some (.int .i64 Qt):=(blk_cell Qa.out 8).trans rfl
       have hcz24_9 : wc.cell? ⟨Qb,9,none⟩ = some (.int .i64 Qu):=(blk_cell Qa.out 9).trans rfl
       have hcz24_10 : wc.cell? ⟨Qb,10,none⟩ = some (.int .i64 Qd):=(blk_cell Qa.out 10).trans rfl
       have hcz24_11 : wc.cell? ⟨Qb,11,none⟩ = some (.int .i64 Qf):=(blk_cell Qa.out 11).trans rfl
       have hcz24_12 : wc.cell? ⟨Qb,12,none⟩ = some (.int .i64 Qg):=(blk_cell Qa.out 12).trans rfl
       have hcz24_13 : wc.cell? ⟨Qb,13,none⟩ = some (.int .i64 Qh):=(blk_cell Qa.out 13).trans rfl
       have hcz24_14 : wc.cell? ⟨Qb,14,none⟩ = some (.int .i64 Qi):=(blk_cell Qa.out 14).trans rfl
       have hcz24_15 : wc.cell? ⟨Qb,15,none⟩ = some (.int .i64 Qj):=(blk_cell Qa.out 15).trans rfl
       have hfz24_0:=blk_frozen Qa.out 0
       have hfz24_1:=blk_frozen Qa.out 1
       have hfz24_2:=blk_frozen Qa.out 2
       have hfz24_3:=blk_frozen Qa.out 3
       have hfz24_4:=blk_frozen Qa.out 4
       have hfz24_5:=blk_frozen Qa.out 5
       have hfz24_6:=blk_frozen Qa.out 6
       have hfz24_7:=blk_frozen Qa.out 7
       have hfz24_8:=blk_frozen Qa.out 8
       have hfz24_9:=blk_frozen Qa.out 9
       have hfz24_10:=blk_frozen Qa.out 10
       have hfz24_11:=blk_frozen Qa.out 11
       have hfz24_12:=blk_frozen Qa.out 12
       have hfz24_13:=blk_frozen Qa.out 13
       have hfz24_14:=blk_frozen Qa.out 14
       have hfz24_15:=blk_frozen Qa.out 15
       go_wp2_with (first|((with_reducible refine gate_callee (f:=14) rfl ?_);refine goesL_ (some 21) rfl rfl Try.func14 (by kernel_rfl) rfl #[.agg #[.int .i64 Qm,.int .i64 Qk,.int .i64 Qn,.int .i64 Qo,.int .i64 Qp,.int .i64 Qq,.int .i64 Qr,.int .i64 Qs,.int .i64 Qt,.int .i64 Qu,.int .i64 Qd,.int .i64 Qf,.int .i64 Qg,.int .i64 Qh,.int .i64 Qi,.int .i64 Qj],.int .i64 (l1.length : Int)] rfl (by (try simp only [List.map_toArray,List.map_cons,List.map_nil]);first|done|rfl|(simp only [List.length_drop,List.length_take];rfl)) ?_;(with_reducible refine (resync_Enough.calls Qm Qk Qn Qo Qp Qq Qr Qs Qt Qu Qd Qf Qg Qh Qi Qj (l1.length : Int) true _ A13.out).mono ?_);rintro e w25 ⟨rfl,hb⟩;refine ⟨_,rfl,?_⟩;have n0_:=kb_ Qa hb;have n1_:=ks_ HB hb;clear Qa;clear HB;have Qa:=n0_;have HB:=n1_;clear n0_ n1_;(try clear hb);(try clear hb2);(try clear hk);(try clear hi);have hcz26_0 : w25.cell? ⟨Qb,0,none⟩ = some (.int .i64 Qm):=(blk_cell Qa.out 0).trans rfl;have hcz26_1 : w25.cell? ⟨Qb,1,none⟩ = some (.int .i64 Qk):=(blk_cell Qa.out 1).trans rfl;have hcz26_2 : w25.cell? ⟨Qb,2,none⟩ = some (.int .i64 Qn):=(blk_cell Qa.out 2).trans rfl;have hcz26_3 : w25.cell? ⟨Qb,3,none⟩ = some (.int .i64 Qo):=(blk_cell Qa.out 3).trans rfl;have hcz26_4 : w25.cell? ⟨Qb,4,none⟩ = some (.int .i64 Qp):=(blk_cell Qa.out 4).trans rfl;have hcz26_5 : w25.cell? ⟨Qb,5,none⟩ = some (.int .i64 Qq):=(blk_cell Qa.out 5).trans rfl;have hcz26_6 : w25.cell? ⟨Qb,6,none⟩ = some (.int .i64 Qr):=(blk_cell Qa.out 6).trans rfl;have hcz26_7 : w25.cell? ⟨Qb,7,none⟩ = some (.int .i64 Qs):=(blk_cell Qa.out 7).trans rfl;have hcz26_8 : w25.cell? ⟨Qb,8,none⟩ = some (.int .i64 Qt):=(blk_cell Qa.out 8).trans rfl;have hcz26_9 : w25.cell? ⟨Qb,9,none⟩ = some (.int .i64 Qu):=(blk_cell Qa.out 9).trans rfl;have hcz26_10 : w25.cell? ⟨Qb,10,none⟩ = some (.int .i64 Qd):=(blk_cell Qa.out 10).trans rfl;have hcz26_11 : w25.cell? ⟨Qb,11,none⟩ = some (.int .i64 Qf):=(blk_cell Qa.out 11).trans rfl;have hcz26_12 : w25.cell? ⟨Qb,12,none⟩ = some (.int .i64 Qg):=(blk_cell Qa.out 12).trans rfl;have hcz26_13 : w25.cell? ⟨Qb,13,none⟩ = some (.int .i64 Qh):=(blk_cell Qa.out 13).trans rfl;have hcz26_14 : w25.cell? ⟨Qb,14,none⟩ = some (.int .i64 Qi):=(blk_cell Qa.out 14).trans rfl;have hcz26_15 : w25.cell? ⟨Qb,15,none⟩ = some (.int .i64 Qj):=(blk_cell Qa.out 15).trans rfl;have hfz26_0:=blk_frozen Qa.out 0;have hfz26_1:=blk_frozen Qa.out 1;have hfz26_2:=blk_frozen Qa.out 2;have hfz26_3:=blk_frozen Qa.out 3;have hfz26_4:=blk_frozen Qa.out 4;have hfz26_5:=blk_frozen Qa.out 5;have hfz26_6:=blk_frozen Qa.out 6;have hfz26_7:=blk_frozen Qa.out 7;have hfz26_8:=blk_frozen Qa.out 8;have hfz26_9:=blk_frozen Qa.out 9;have hfz26_10:=blk_frozen Qa.out 10;have hfz26_11:=blk_frozen Qa.out 11;have hfz26_12:=blk_frozen Qa.out 12;have hfz26_13:=blk_frozen Qa.out 13;have hfz26_14:=blk_frozen Qa.out 14;have hfz26_15:=blk_frozen Qa.out 15)|((with_reducible refine gate_callee (f:=20) rfl ?_);refine goesL_ (some 27) rfl rfl Try.func20 (by kernel_rfl) rfl #[.slice A1 l1.length c1,.int .i64 Qk] rfl (by (try simp only [List.map_toArray,List.map_cons,List.map_nil]);first|done|rfl|(simp only [List.length_drop,List.length_take];rfl)) ?_;(with_reducible refine (midpoint_Of.calls kj2 _ _ l1 Qk QA QH _ ?side1 ?side2 A15.out).mono ?_);(case side1=>repeat (first|exact (Kd.C_below HR1.out HB.out)|(with_reducible refine Kd.C_alloc ?_ _)|(with_reducible refine Kd.C_drewN ?_ _)|(with_reducible refine Kd.C_drew ?_)));(case side2=>exact HC1.out);rintro e w27 ⟨rfl,hb⟩;refine ⟨_,rfl,?_⟩;have n0_:=kb_ Qa hb;have n1_:=ks_ HB hb;clear Qa;clear HB;have Qa:=n0_;have HB:=n1_;clear n0_ n1_;(try clear hb);(try clear hb2);(try clear hk);(try clear hi);have hcz28_0 : w27.cell? ⟨Qb,0,none⟩ = some (.int .i64 Qm):=(blk_cell Qa.out 0).trans rfl;have hcz28_1 : w27.cell? ⟨Qb,1,none⟩ = some (.int .i64 Qk):=(blk_cell Qa.out 1).trans rfl;have hcz28_2 : w27.cell? ⟨Qb,2,none⟩ = some (.int .i64 Qn):=(blk_cell Qa.out 2).trans rfl;have hcz28_3 : w27.cell? ⟨Qb,3,none⟩ = some (.int .i64 Qo):=(blk_cell Qa.out 3).trans rfl;have hcz28_4 : w27.cell? ⟨Qb,4,none⟩ = some (.int .i64 Qp):=(blk_cell Qa.out 4).trans rfl;have hcz28_5 : w27.cell? ⟨Qb,5,none⟩ = some (.int .i64 Qq):=(blk_cell Qa.out 5).trans rfl;have hcz28_6 : w27.cell? ⟨Qb,6,none⟩ = some (.int .i64 Qr):=(blk_cell Qa.out 6).trans rfl;have hcz28_7 : w27.cell? ⟨Qb,7,none⟩ = some (.int .i64 Qs):=(blk_cell Qa.out 7).trans rfl;have hcz28_8 : w27.cell? ⟨Qb,8,none⟩ = some (.int .i64 Qt):=(blk_cell Qa.out 8).trans rfl;have hcz28_9 : w27.cell? ⟨Qb,9,none⟩ = some (.int .i64 Qu):=(blk_cell Qa.out 9).trans rfl;have hcz28_10 : w27.cell? ⟨Qb,10,none⟩ = some (.int .i64 Qd):=(blk_cell Qa.out 10).trans rfl;have hcz28_11 : w27.cell? ⟨Qb,11,none⟩ = some (.int .i64 Qf):=(blk_cell Qa.out 11).trans rfl;have hcz28_12 : w27.cell? ⟨Qb,12,none⟩ = some (.int .i64 Qg):=(blk_cell Qa.out 12).trans rfl;have hcz28_13 : w27.cell? ⟨Qb,13,none⟩ = some (.int .i64 Qh):=(blk_cell Qa.out 13).trans rfl;have hcz28_14 : w27.cell? ⟨Qb,14,none⟩ = some (.int .i64 Qi):=(blk_cell Qa.out 14).trans rfl;have hcz28_15 : w27.cell? ⟨Qb,15,none⟩ = some (.int .i64 Qj):=(blk_cell Qa.out 15).trans rfl;have hfz28_0:=blk_frozen Qa.out 0;have hfz28_1:=blk_frozen Qa.out 1;have hfz28_2:=blk_frozen Qa.out 2;have hfz28_3:=blk_frozen Qa.out 3;have hfz28_4:=blk_frozen Qa.out 4;have hfz28_5:=blk_frozen Qa.out 5;have hfz28_6:=blk_frozen Qa.out 6;have hfz28_7:=blk_frozen Qa.out 7;have hfz28_8:=blk_frozen Qa.out 8;have hfz28_9:=blk_frozen Qa.out 9;have hfz28_10:=blk_frozen Qa.out 10;have hfz28_11:=blk_frozen Qa.out 11;have hfz28_12:=blk_frozen Qa.out 12;have hfz28_13:=blk_frozen Qa.out 13;have hfz28_14:=blk_frozen Qa.out 14;have hfz28_15:=blk_frozen Qa.out 15))
       go_ret2
       exact ⟨by first|rfl|(simp [errW_none,errW_some] <;> rfl)|(simp only [← hji17];first|rfl|(simp [errW_none,errW_some] <;> rfl))|(simp [*,errW_none,errW_some] <;> rfl),by repeat (first|(with_reducible first|exact HB.out|apply below_alloc|apply pw_below_drewN|apply below_drew1|refine below_set ?_ QE.out)|exact HB.out)⟩
     ·rw [if_neg c16] at H
      have c16b0 : (QH == 0) = false:=beq_eq_false_iff_ne.mpr c16
      have c16b1 : (QH != 0) = true:=bne_iff_ne.mpr c16
      simp only [Option.some.injEq,Prod.mk.injEq] at H
      obtain ⟨rfl,rfl⟩:=H
      have hcz29_0 : wc.cell? ⟨Qb,0,none⟩ = some (.int .i64 Qm):=(blk_cell Qa.out 0).trans rfl
      have hcz29_1 : wc.cell? ⟨Qb,1,none⟩ = some (.int .i64 Qk):=(blk_cell Qa.out 1).trans rfl
      have hcz29_2 : wc.cell? ⟨Qb,2,none⟩ = some (.int .i64 Qn):=(blk_cell Qa.out 2).trans rfl
      have hcz29_3 : wc.cell? ⟨Qb,3,none⟩ = some (.int .i64 Qo):=(blk_cell Qa.out 3).trans rfl
      have hcz29_4 : wc.cell? ⟨Qb,4,none⟩ = some (.int .i64 Qp):=(blk_cell Qa.out 4).trans rfl
      have hcz29_5 : wc.cell? ⟨Qb,5,none⟩ = some (.int .i64 Qq):=(blk_cell Qa.out 5).trans rfl
      have hcz29_6 : wc.cell? ⟨Qb,6,none⟩ = some (.int .i64 Qr):=(blk_cell Qa.out 6).trans rfl
      have hcz29_7 : wc.cell? ⟨Qb,7,none⟩ = some (.int .i64 Qs):=(blk_cell Qa.out 7).trans rfl
      have hcz29_8 : wc.cell? ⟨Qb,8,none⟩ = some (.int .i64 Qt):=(blk_cell Qa.out 8).trans rfl
      have hcz29_9 : wc.cell? ⟨Qb,9,none⟩ = some (.int .i64 Qu):=(blk_cell Qa.out 9).trans rfl
      have hcz29_10 : wc.cell? ⟨Qb,10,none⟩ = some (.int .i64 Qd):=(blk_cell Qa.out 10).trans rfl
      have hcz29_11 : wc.cell? ⟨Qb,11,none⟩ = some (.int .i64 Qf):=(blk_cell Qa.out 11).trans rfl
      have hcz29_12 : wc.cell? ⟨Qb,12,none⟩ = some (.int .i64 Qg):=(blk_cell Qa.out 12).trans rfl
      have hcz29_13 : wc.cell? ⟨Qb,13,none⟩ = some (.int .i64 Qh):=(blk_cell Qa.out 13).trans rfl
      have hcz29_14 : wc.cell? ⟨Qb,14,none⟩ = some (.int .i64 Qi):=(blk_cell Qa.out 14).trans rfl
      have hcz29_15 : wc.cell? ⟨Qb,15,none⟩ = some (.int .i64 Qj):=(blk_cell Qa.out 15).trans rfl
      have hfz29_0:=blk_frozen Qa.out 0
      have hfz29_1:=blk_frozen Qa.out 1
      have hfz29_2:=blk_frozen Qa.out 2
      have hfz29_3:=blk_frozen Qa.out 3
      have hfz29_4:=blk_frozen Qa.out 4
      have hfz29_5:=blk_frozen Qa.out 5
      have hfz29_6:=blk_frozen Qa.out 6
      have hfz29_7:=blk_frozen Qa.out 7
      have hfz29_8:=blk_frozen Qa.out 8
      have hfz29_9:=blk_frozen Qa.out 9
      have hfz29_10:=blk_frozen Qa.out 10
      have hfz29_11:=blk_frozen Qa.out 11
      have hfz29_12:=blk_frozen Qa.out 12
      have hfz29_13:=blk_frozen Qa.out 13
      have hfz29_14:=blk_frozen Qa.out 14
      have hfz29_15:=blk_frozen Qa.out 15
      go_wp2_with (first|((with_reducible refine gate_callee (f:=14) rfl ?_);refine goesL_ (some 21) rfl rfl Try.func14 (by kernel_rfl) rfl #[.agg #[.int .i64 Qm,.int .i64 Qk,.int .i64 Qn,.int .i64 Qo,.int .i64 Qp,.int .i64 Qq,.int .i64 Qr,.int .i64 Qs,.int .i64 Qt,.int .i64 Qu,.int .i64 Qd,.int .i64 Qf,.int .i64 Qg,.int .i64 Qh,.int .i64 Qi,.int .i64 Qj],.int .i64 (l1.length : Int)] rfl (by (try simp only [List.map_toArray,List.map_cons,List.map_nil]);first|done|rfl|(simp only [List.length_drop,List.length_take];rfl)) ?_;(with_reducible refine (resync_Enough.calls Qm Qk Qn Qo Qp Qq Qr Qs Qt Qu Qd Qf Qg Qh Qi Qj (l1.length : Int) true _ A13.out).mono ?_);rintro e w30 ⟨rfl,hb⟩;refine ⟨_,rfl,?_⟩;have n0_:=kb_ Qa hb;have n1_:=ks_ HB hb;clear Qa;clear HB;have Qa:=n0_;have HB:=n1_;clear n0_ n1_;(try clear hb);(try clear hb2);(try clear hk);(try clear hi);have hcz31_0 : w30.cell? ⟨Qb,0,none⟩ = some (.int .i64 Qm):=(blk_cell Qa.out 0).trans rfl;have hcz31_1 : w30.cell? ⟨Qb,1,none⟩ = some (.int .i64 Qk):=(blk_cell Qa.out 1).trans rfl;have hcz31_2 : w30.cell? ⟨Qb,2,none⟩ = some (.int .i64 Qn):=(blk_cell Qa.out 2).trans rfl;have hcz31_3 : w30.cell? ⟨Qb,3,none⟩ = some (.int .i64 Qo):=(blk_cell Qa.out 3).trans rfl;have hcz31_4 : w30.cell? ⟨Qb,4,none⟩ = some (.int .i64 Qp):=(blk_cell Qa.out 4).trans rfl;have hcz31_5 : w30.cell? ⟨Qb,5,none⟩ = some (.int .i64 Qq):=(blk_cell Qa.out 5).trans rfl;have hcz31_6 : w30.cell? ⟨Qb,6,none⟩ = some (.int .i64 Qr):=(blk_cell Qa.out 6).trans rfl;have hcz31_7 : w30.cell? ⟨Qb,7,none⟩ = some (.int .i64 Qs):=(blk_cell Qa.out 7).trans rfl;have hcz31_8 : w30.cell? ⟨Qb,8,none⟩ = some (.int .i64 Qt):=(blk_cell Qa.out 8).trans rfl;have hcz31_9 : w30.cell? ⟨Qb,9,none⟩ = some (.int .i64 Qu):=(blk_cell Qa.out 9).trans rfl;have hcz31_10 : w30.cell? ⟨Qb,10,none⟩ = some (.int .i64 Qd):=(blk_cell Qa.out 10).trans rfl;have hcz31_11 : w30.cell? ⟨Qb,11,none⟩ = some (.int .i64 Qf):=(blk_cell Qa.out 11).trans rfl;have hcz31_12 : w30.cell? ⟨Qb,12,none⟩ = some (.int .i64 Qg):=(blk_cell Qa.out 12).trans rfl;have hcz31_13 : w30.cell? ⟨Qb,13,none⟩ = some (.int .i64 Qh):=(blk_cell Qa.out 13).trans rfl;have hcz31_14 : w30.cell? ⟨Qb,14,none⟩ = some (.int .i64 Qi):=(blk_cell Qa.out 14).trans rfl;have hcz31_15 : w30.cell? ⟨Qb,15,none⟩ = some (.int .i64 Qj):=(blk_cell Qa.out 15).trans rfl;have hfz31_0:=blk_frozen Qa.out 0;have hfz31_1:=blk_frozen Qa.out 1;have hfz31_2:=blk_frozen Qa.out 2;have hfz31_3:=blk_frozen Qa.out 3;have hfz31_4:=blk_frozen Qa.out 4;have hfz31_5:=blk_frozen Qa.out 5;have hfz31_6:=blk_frozen Qa.out 6;have hfz31_7:=blk_frozen Qa.out 7;have hfz31_8:=blk_frozen Qa.out 8;have hfz31_9:=blk_frozen Qa.out 9;have hfz31_10:=blk_frozen Qa.out 10;have hfz31_11:=blk_frozen Qa.out 11;have hfz31_12:=blk_frozen Qa.out 12;have hfz31_13:=blk_frozen Qa.out 13;have hfz31_14:=blk_frozen Qa.out 14;have hfz31_15:=blk_frozen Qa.out 15)|((with_reducible refine gate_callee (f:=20) rfl ?_);refine goesL_ (some 27) rfl rfl Try.func20 (by kernel_rfl) rfl #[.slice A1 l1.length c1,.int .i64 Qk] rfl (by (try simp only [List.map_toArray,List.map_cons,List.map_nil]);first|done|rfl|(simp only [List.length_drop,List.length_take];rfl)) ?_;(with_reducible refine (midpoint_Of.calls kj2 _ _ l1 Qk QA QH _ ?side1 ?side2 A15.out).mono ?_);(case side1=>repeat (first|exact (Kd.C_below HR1.out HB.out)|(with_reducible refine Kd.C_alloc ?_ _)|(with_reducible refine Kd.C_drewN ?_ _)|(with_reducible refine Kd.C_drew ?_)));(case side2=>exact HC1.out);rintro e w32 ⟨rfl,hb⟩;refine ⟨_,rfl,?_⟩;have n0_:=kb_ Qa hb;have n1_:=ks_ HB hb;clear Qa;clear HB;have Qa:=n0_;have HB:=n1_;clear n0_ n1_;(try clear hb);(try clear hb2);(try clear hk);(try clear hi)))
      go_ret2
      exact ⟨by first|rfl|(simp [errW_none,errW_some] <;> rfl)|(simp [*,errW_none,errW_some] <;> rfl),by repeat (first|(with_reducible first|exact HB.out|apply below_alloc|apply pw_below_drewN|apply below_drew1|refine below_set ?_ QE.out)|exact HB.out)⟩
    ·replace c14:=Bool.eq_false_iff.mpr c14
     subst c14
     have H1 : (some (0,0)) = some (r1,r2):=by rw [if_neg (show ¬ (false = true) by decide)] at H;exact H
     clear H
     have H:=H1
     clear H1
     simp only [Option.some.injEq,Prod.mk.injEq] at H
     obtain ⟨rfl,rfl⟩:=H
     have hcz33_0 : wc.cell? ⟨Qb,0,none⟩ = some (.int .i64 Qm):=(blk_cell Qa.out 0).trans rfl
     have hcz33_1 : wc.cell? ⟨Qb,1,none⟩ = some (.int .i64 Qk):=(blk_cell Qa.out 1).trans rfl
     have hcz33_2 : wc.cell? ⟨Qb,2,none⟩ = some (.int .i64 Qn):=(blk_cell Qa.out 2).trans rfl
     have hcz33_3 : wc.cell? ⟨Qb,3,none⟩ = some (.int .i64 Qo):=(blk_cell Qa.out 3).trans rfl
     have hcz33_4 : wc.cell? ⟨Qb,4,none⟩ = some (.int .i64 Qp):=(blk_cell Qa.out 4).trans rfl
     have hcz33_5 : wc.cell? ⟨Qb,5,none⟩ = some (.int .i64 Qq):=(blk_cell Qa.out 5).trans rfl
     have hcz33_6 : wc.cell? ⟨Qb,6,none⟩ = some (.int .i64 Qr):=(blk_cell Qa.out 6).trans rfl
     have hcz33_7 : wc.cell? ⟨Qb,7,none⟩ = some (.int .i64 Qs):=(blk_cell Qa.out 7).trans rfl
     have hcz33_8 : wc.cell? ⟨Qb,8,none⟩ = some (.int .i64 Qt):=(blk_cell Qa.out 8).trans rfl
     have hcz33_9 : wc.cell? ⟨Qb,9,none⟩ = some (.int .i64 Qu):=(blk_cell Qa.out 9).trans rfl
     have hcz33_10 : wc.cell? ⟨Qb,10,none⟩ = some (.int .i64 Qd):=(blk_cell Qa.out 10).trans rfl
     have hcz33_11 : wc.cell? ⟨Qb,11,none⟩ = some (.int .i64 Qf):=(blk_cell Qa.out 11).trans rfl
     have hcz33_12 : wc.cell? ⟨Qb,12,none⟩ = some (.int .i64 Qg):=(blk_cell Qa.out 12).trans rfl
     have hcz33_13 : wc.cell? ⟨Qb,13,none⟩ = some (.int .i64 Qh):=(blk_cell Qa.out 13).trans rfl
     have hcz33_14 : wc.cell? ⟨Qb,14,none⟩ = some (.int .i64 Qi):=(blk_cell Qa.out 14).trans rfl
     have hcz33_15 : wc.cell? ⟨Qb,15,none⟩ = some (.int .i64 Qj):=(blk_cell Qa.out 15).trans rfl
     have hfz33_0:=blk_frozen Qa.out 0
     have hfz33_1:=blk_frozen Qa.out 1
     have hfz33_2:=blk_frozen Qa.out 2
     have hfz33_3:=blk_frozen Qa.out 3
     have hfz33_4:=blk_frozen Qa.out 4
     have hfz33_5:=blk_frozen Qa.out 5
     have hfz33_6:=blk_frozen Qa.out 6
     have hfz33_7:=blk_frozen Qa.out 7
     have hfz33_8:=blk_frozen Qa.out 8
     have hfz33_9:=blk_frozen Qa.out 9
     have hfz33_10:=blk_frozen Qa.out 10
     have hfz33_11:=blk_frozen Qa.out 11
     have hfz33_12:=blk_frozen Qa.out 12
     have hfz33_13:=blk_frozen Qa.out 13
     have hfz33_14:=blk_frozen Qa.out 14
     have hfz33_15:=blk_frozen Qa.out 15
     go_wp2_with (first|((with_reducible refine gate_callee (f:=14) rfl ?_);refine goesL_ (some 21) rfl rfl Try.func14 (by kernel_rfl) rfl #[.agg #[.int .i64 Qm,.int .i64 Qk,.int .i64 Qn,.int .i64 Qo,.int .i64 Qp,.int .i64 Qq,.int .i64 Qr,.int .i64 Qs,.int .i64 Qt,.int .i64 Qu,.int .i64 Qd,.int .i64 Qf,.int .i64 Qg,.int .i64 Qh,.int .i64 Qi,.int .i64 Qj],.int .i64 (l1.length : Int)] rfl (by (try simp only [List.map_toArray,List.map_cons,List.map_nil]);first|done|rfl|(simp only [List.length_drop,List.length_take];rfl)) ?_;(with_reducible refine (resync_Enough.calls Qm Qk Qn Qo Qp Qq Qr Qs Qt Qu Qd Qf Qg Qh Qi Qj (l1.length : Int) false _ A13.out).mono ?_);rintro e w34 ⟨rfl,hb⟩;refine ⟨_,rfl,?_⟩;have n0_:=kb_ Qa hb;have n1_:=ks_ HB hb;clear Qa;clear HB;have Qa:=n0_;have HB:=n1_;clear n0_ n1_;(try clear hb);(try clear hb2);(try clear hk);(try clear hi)))
     go_ret2
     exact ⟨by first|rfl|(simp [errW_none,errW_some] <;> rfl)|(simp [*,errW_none,errW_some] <;> rfl),by repeat (first|(with_reducible first|exact HB.out|apply below_alloc|apply pw_below_drewN|apply below_drew1|refine below_set ?_ QE.out)|exact HB.out)⟩

-- BY HAND: function 22 (resync_may)

end Go.Proofs.Ytnmephdamgofnaa.PB
