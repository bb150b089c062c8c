/- Written by a program of this session (wip/jprint.py, over the printer of the kit): functions that a law comes to, as plain Lean functions, and walks; Lean checks it. -/
import Derived.Test.YtnmephdamgofnaaPBx0
namespace Go.Proofs.Ytnmephdamgofnaa.PB
open Go.RowKit Go.Proofs.Ytnmephdamgofnaa.Hand Go.Proofs.Ytnmephdamgofnaa.PA Go.Proofs.YtnmephdamgofnaaW.PrintWords Go.Proofs.YtnmephdamgofnaaW.PrintLast Go.Proofs.YtnmephdamgofnaaW.PrintMore
attribute [local go_sem] max2_int min2_int max_two min_two max_three min_three max_four min_four   -- for this text's walks alone
set_option linter.unusedVariables false
set_option linter.unusedSimpArgs false

-- BY HAND: function 26 (plan_Fails)

theorem nl_ {wp w1 : World} {g g' : Nat} {o : Obj} (h : Aside0 (wp.heap[g]? = some o)) (hg : g' = w1.heap.size) (hs : wp.heap[g]? = some o→w1.heap[g]? = some o:=by (intro h_;repeat (first|(with_reducible exact h_)|(with_reducible refine blk_drewN ?_ _)|(with_reducible refine blk_drew ?_)|(with_reducible refine blk_alloc ?_ _)))) : Aside0 (g ≠ g'):=⟨by rw [hg];exact Nat.ne_of_lt (blk_lt (hs h.out))⟩
theorem ng_ {wp w1 : World} {g g' : Nat} {o : Obj} (h : Aside0 (wp.heap[g]? = some o)) (hg : g' = w1.heap.size) (hs : wp.heap[g]? = some o→w1.heap[g]? = some o:=by (intro h_;repeat (first|(with_reducible exact h_)|(with_reducible refine blk_drewN ?_ _)|(with_reducible refine blk_drew ?_)|(with_reducible refine blk_alloc ?_ _)))) : Aside0 (g' ≠ g):=⟨by rw [hg];exact Nat.ne_of_gt (blk_lt (hs h.out))⟩
theorem kb_ {wp w1 w' : World} {g : Nat} {o : Obj} (h : Aside0 (wp.heap[g]? = some o)) (hb : Below w1.heap.size w1 w') (hs : wp.heap[g]? = some o→w1.heap[g]? = some o:=by (intro h_;repeat (first|(with_reducible exact h_)|(with_reducible refine blk_drewN ?_ _)|(with_reducible refine blk_drew ?_)|(with_reducible refine blk_alloc ?_ _)|(refine blk_far ?_ (Aside0.out (by assumption)) _)))) : Aside0 (w'.heap[g]? = some o):=⟨blk_below (hs h.out) hb⟩
theorem kr_ {α : Type} {d : Kd α} {e : Nat} {wp w1 w' : World} {base : Nat} {ok : Nat→Prop} {v : Value} {xs : List α} (h : Aside0 (d.R e wp base ok v xs)) (hb : Below w1.heap.size w1 w') (hs : d.R e wp base ok v xs→d.R e w1 base ok v xs:=by (intro h_;with_reducible repeat (first|exact h_|apply Kd.R_alloc|apply Kd.R_drewN|apply Kd.R_drew))) : Aside0 (d.R e w' base ok v xs):=⟨Kd.R_below (hs h.out) hb⟩
theorem ks_ {w W0 W w2 : World} (h : Aside0 (Below w.heap.size w W0)) (hb : Below W.heap.size W w2) (hs : Below w.heap.size w W0→Below w.heap.size w W:=by (intro h_;repeat (first|(with_reducible first|exact h_|apply below_alloc|apply pw_below_drewN|apply below_drew1|refine below_set ?_ (Aside0.out (by assumption)))|exact h_))) : Aside0 (Below w.heap.size w w2):=⟨below_step (hs h.out) hb⟩
theorem kz_ {w W0 W : World} (h : Aside0 (Below w.heap.size w W0)) (hs : Below w.heap.size w W0→Below w.heap.size w W:=by (intro h_;repeat (first|(with_reducible first|exact h_|apply below_alloc|apply pw_below_drewN|apply below_drew1|refine below_set ?_ (Aside0.out (by assumption)))|exact h_))) : w.heap.size ≤ W.heap.size:=below_size (hs h.out)
theorem rf4_ {α : Type} {d : Kd α} {e : Nat} {w : World} {base g : Nat} {ok : Nat→Prop} {v : Value} {xs : List α} {a b c z : Value} (h : d.R e w base (fun k=>ok k∧k ≠ g) v xs) : d.R e ((((w.setCell ⟨g,0,none⟩ a).setCell ⟨g,1,none⟩ b).setCell ⟨g,2,none⟩ c).setCell ⟨g,3,none⟩ z) base ok v xs :=
 Kd.R_mono (Kd.R_far (p:=⟨g,3,none⟩) (Kd.R_far (p:=⟨g,2,none⟩) (Kd.R_far (p:=⟨g,1,none⟩) (Kd.R_far (p:=⟨g,0,none⟩) h (fun _ hk=>hk.2) a) (fun _ hk=>hk.2) b) (fun _ hk=>hk.2) c) (fun _ hk=>hk.2) z) (fun _ h_=>h_.1)
theorem bc16_ {w : World} {g : Nat} {t : TypeId} (v0 v1 v2 v3 v4 v5 v6 v7 v8 v9 v10 v11 v12 v13 v14 v15 : Value) (h : w.heap[g]? = some (.cells #[v0,v1,v2,v3,v4,v5,v6,v7,v8,v9,v10,v11,v12,v13,v14,v15] t (0,0))) : w.cell? ⟨g,0,none⟩ = some v0∧w.cell? ⟨g,1,none⟩ = some v1∧w.cell? ⟨g,2,none⟩ = some v2∧w.cell? ⟨g,3,none⟩ = some v3∧w.cell? ⟨g,4,none⟩ = some v4∧w.cell? ⟨g,5,none⟩ = some v5∧w.cell? ⟨g,6,none⟩ = some v6∧w.cell? ⟨g,7,none⟩ = some v7∧w.cell? ⟨g,8,none⟩ = some v8∧w.cell? ⟨g,9,none⟩ = some v9∧w.cell? ⟨g,10,none⟩ = some v10∧w.cell? ⟨g,11,none⟩ = some v11∧w.cell? ⟨g,12,none⟩ = some v12∧w.cell? ⟨g,13,none⟩ = some v13∧w.cell? ⟨g,14,none⟩ = some v14∧w.cell? ⟨g,15,none⟩ = some v15:=⟨(blk_cell h 0).trans rfl,(blk_cell h 1).trans rfl,(blk_cell h 2).trans rfl,(blk_cell h 3).trans rfl,(blk_cell h 4).trans rfl,(blk_cell h 5).trans rfl,(blk_cell h 6).trans rfl,(blk_cell h 7).trans rfl,(blk_cell h 8).trans rfl,(blk_cell h 9).trans rfl,(blk_cell h 10).trans rfl,(blk_cell h 11).trans rfl,(blk_cell h 12).trans rfl,(blk_cell h 13).trans rfl,(blk_cell h 14).trans rfl,(blk_cell h 15).trans rfl⟩
theorem bf16_ {w : World} {g : Nat} {t : TypeId} {cs : Array Value} (h : w.heap[g]? = some (.cells cs t (0,0))) : w.frozen? ⟨g,0,none⟩ = false∧w.frozen? ⟨g,1,none⟩ = false∧w.frozen? ⟨g,2,none⟩ = false∧w.frozen? ⟨g,3,none⟩ = false∧w.frozen? ⟨g,4,none⟩ = false∧w.frozen? ⟨g,5,none⟩ = false∧w.frozen? ⟨g,6,none⟩ = false∧w.frozen? ⟨g,7,none⟩ = false∧w.frozen? ⟨g,8,none⟩ = false∧w.frozen? ⟨g,9,none⟩ = false∧w.frozen? ⟨g,10,none⟩ = false∧w.frozen? ⟨g,11,none⟩ = false∧w.frozen? ⟨g,12,none⟩ = false∧w.frozen? ⟨g,13,none⟩ = false∧w.frozen? ⟨g,14,none⟩ = false∧w.frozen? ⟨g,15,none⟩ = false:=⟨blk_frozen h 0,blk_frozen h 1,blk_frozen h 2,blk_frozen h 3,blk_frozen h 4,blk_frozen h 5,blk_frozen h 6,blk_frozen h 7,blk_frozen h 8,blk_frozen h 9,blk_frozen h 10,blk_frozen h 11,blk_frozen h 12,blk_frozen h 13,blk_frozen h 14,blk_frozen h 15⟩
/-! ### plan_Check: function 16 -/
def plan_Check.f (Qi : Int) (Qg : Int) (Qj : Int) (Qk : Int) (Ql : Int) (Qm : Int) (Qn : Int) (Qo : Int) (Qp : Int) (Qq : Int) (Qa : Int) (Qb : Int) (Qc : Int) (Qd : Int) (Qe : Int) (Qf : Int) : Option (Int):=(plan_Fails.f Qi Qg Qj Qk Ql Qm Qn Qo Qp Qq Qa Qb Qc Qd Qe Qf).bind fun QA=>(if QA = 0 then (some 0) else (some 70))
set_option maxHeartbeats 8000000 in
set_option maxRecDepth 100000 in
theorem plan_Check.calls (Qi : Int) (Qg : Int) (Qj : Int) (Qk : Int) (Ql : Int) (Qm : Int) (Qn : Int) (Qo : Int) (Qp : Int) (Qq : Int) (Qa : Int) (Qb : Int) (Qc : Int) (Qd : Int) (Qe : Int) (Qf : Int) (r : Int) (w : World) (h : plan_Check.f Qi Qg Qj Qk Ql Qm Qn Qo Qp Qq Qa Qb Qc Qd Qe Qf = some r) :
  Calls Try.prog 16 #[.agg #[.int .i64 Qi,.int .i64 Qg,.int .i64 Qj,.int .i64 Qk,.int .i64 Ql,.int .i64 Qm,.int .i64 Qn,.int .i64 Qo,.int .i64 Qp,.int .i64 Qq,.int .i64 Qa,.int .i64 Qb,.int .i64 Qc,.int .i64 Qd,.int .i64 Qe,.int .i64 Qf]] w fun e w'=>e = .returned (.int .i64 r)∧Below w.heap.size w w':=by
 have hu23:=Try.underlying23
 have HB:=Aside0.mk (Below.refl w.heap.size w)
 have H : ((plan_Fails.f Qi Qg Qj Qk Ql Qm Qn Qo Qp Qq Qa Qb Qc Qd Qe Qf).bind fun QA=>(if QA = 0 then (some 0) else (some 70))) = some r:=h
 clear h
 replace H:=Option.bind_eq_some_iff.mp H
 obtain ⟨QA,A20,H⟩:=H
 replace H : (if QA = 0 then (some 0) else (some 70)) = some r:=H
 have A2:=Aside0.mk A20
 clear A20
 by_cases c3 : QA = 0
 ·rw [if_pos c3] at H
  have c3b0 : (QA == 0) = true:=beq_iff_eq.mpr c3
  have c3b1 : (QA != 0) = false:=bne_eq_false_iff_eq.mpr c3
  clear c3
  obtain rfl:=Option.some.inj H
  go_enter Try.func16,Try.ntmps16
  go_wp2_with (first|((with_reducible refine gate_dst (N:=1) rfl ?_);refine box_event ?hg (N:=1) ?hd (cs:=#[.int .i64 Qi,.int .i64 Qg,.int .i64 Qj,.int .i64 Qk,.int .i64 Ql,.int .i64 Qm,.int .i64 Qn,.int .i64 Qo,.int .i64 Qp,.int .i64 Qq,.int .i64 Qa,.int .i64 Qb,.int .i64 Qc,.int .i64 Qd,.int .i64 Qe,.int .i64 Qf]) (t:=23) ?hr ?_;(case hd=>rfl);(case hg=>rfl);(case hr=>first|(go_simp;done)|(go_simp;rfl));intro QD hg w4 hbox hb;have n0_:=ks_ HB hb;have n1_:=Aside0.mk (hbox);have n2_:=Aside0.mk ((by rw [hg];exact (kz_ HB) : w.heap.size ≤ QD));have n3_:=Aside0.mk ((by rw [hg];exact (kz_ HB) : w.heap.size ≤ QD));clear HB;have HB:=n0_;have Qw:=n1_;have GW101:=n2_;have GE101:=n3_;clear n0_ n1_ n2_ n3_;clear hb hbox hg;obtain ⟨hcz5_0,hcz5_1,hcz5_2,hcz5_3,hcz5_4,hcz5_5,hcz5_6,hcz5_7,hcz5_8,hcz5_9,hcz5_10,hcz5_11,hcz5_12,hcz5_13,hcz5_14,hcz5_15⟩:=bc16_ (w:=w4) (g:=QD) (.int .i64 Qi) (.int .i64 Qg) (.int .i64 Qj) (.int .i64 Qk) (.int .i64 Ql) (.int .i64 Qm) (.int .i64 Qn) (.int .i64 Qo) (.int .i64 Qp) (.int .i64 Qq) (.int .i64 Qa) (.int .i64 Qb) (.int .i64 Qc) (.int .i64 Qd) (.int .i64 Qe) (.int .i64 Qf) Qw.out;obtain ⟨hfz5_0,hfz5_1,hfz5_2,hfz5_3,hfz5_4,hfz5_5,hfz5_6,hfz5_7,hfz5_8,hfz5_9,hfz5_10,hfz5_11,hfz5_12,hfz5_13,hfz5_14,hfz5_15⟩:=bf16_ Qw.out)|((with_reducible refine gate_callee (f:=26) rfl ?_);refine goesL_ (some 4) rfl rfl Try.func26 (by kernel_rfl) rfl #[.agg #[.int .i64 Qi,.int .i64 Qg,.int .i64 Qj,.int .i64 Qk,.int .i64 Ql,.int .i64 Qm,.int .i64 Qn,.int .i64 Qo,.int .i64 Qp,.int .i64 Qq,.int .i64 Qa,.int .i64 Qb,.int .i64 Qc,.int .i64 Qd,.int .i64 Qe,.int .i64 Qf]] rfl (by (try simp only [List.map_toArray,List.map_cons,List.map_nil]);first|done|rfl|(simp only [List.length_drop,List.length_take];rfl)) ?_;(with_reducible refine (plan_Fails.calls Qi Qg Qj Qk Ql Qm Qn Qo Qp Qq Qa Qb Qc Qd Qe Qf QA _ A2.out).mono ?_);rintro e w6 ⟨rfl,hb⟩;refine ⟨_,rfl,?_⟩;have n0_:=kb_ Qw hb;have n1_:=ks_ HB hb;clear Qw;clear HB;have Qw:=n0_;have HB:=n1_;clear n0_ n1_;(try clear hb);(try clear hb2);(try clear hk);(try clear hi)))
  go_ret
  exact ⟨by first|rfl|(simp [errW_none,errW_some] <;> rfl)|(simp [*,errW_none,errW_some] <;> rfl),by repeat (first|(with_reducible first|exact HB.out|apply below_alloc|apply pw_below_drewN|apply below_drew1|refine below_set ?_ GE101.out)|exact HB.out)⟩
 ·rw [if_neg c3] at H
  have c3b0 : (QA == 0) = false:=beq_eq_false_iff_ne.mpr c3
  have c3b1 : (QA != 0) = true:=bne_iff_ne.mpr c3
  obtain rfl:=Option.some.inj H
  go_enter Try.func16,Try.ntmps16
  go_wp2_with (first|((with_reducible refine gate_dst (N:=1) rfl ?_);refine box_event ?hg (N:=1) ?hd (cs:=#[.int .i64 Qi,.int .i64 Qg,.int .i64 Qj,.int .i64 Qk,.int .i64 Ql,.int .i64 Qm,.int .i64 Qn,.int .i64 Qo,.int .i64 Qp,.int .i64 Qq,.int .i64 Qa,.int .i64 Qb,.int .i64 Qc,.int .i64 Qd,.int .i64 Qe,.int .i64 Qf]) (t:=23) ?hr ?_;(case hd=>rfl);(case hg=>rfl);(case hr=>first|(go_simp;done)|(go_simp;rfl));intro QD hg w7 hbox hb;have n0_:=ks_ HB hb;have n1_:=Aside0.mk (hbox);have n2_:=Aside0.mk ((by rw [hg];exact (kz_ HB) : w.heap.size ≤ QD));have n3_:=Aside0.mk ((by rw [hg];exact (kz_ HB) : w.heap.size ≤ QD));clear HB;have HB:=n0_;have Qw:=n1_;have GW101:=n2_;have GE101:=n3_;clear n0_ n1_ n2_ n3_;clear hb hbox hg;obtain ⟨hcz8_0,hcz8_1,hcz8_2,hcz8_3,hcz8_4,hcz8_5,hcz8_6,hcz8_7,hcz8_8,hcz8_9,hcz8_10,hcz8_11,hcz8_12,hcz8_13,hcz8_14,hcz8_15⟩:=bc16_ (w:=w7) (g:=QD) (.int .i64 Qi) (.int .i64 Qg) (.int .i64 Qj) (.int .i64 Qk) (.int .i64 Ql) (.int .i64 Qm) (.int .i64 Qn) (.int .i64 Qo) (.int .i64 Qp) (.int .i64 Qq) (.int .i64 Qa) (.int .i64 Qb) (.int .i64 Qc) (.int .i64 Qd) (.int .i64 Qe) (.int .i64 Qf) Qw.out;obtain ⟨hfz8_0,hfz8_1,hfz8_2,hfz8_3,hfz8_4,hfz8_5,hfz8_6,hfz8_7,hfz8_8,hfz8_9,hfz8_10,hfz8_11,hfz8_12,hfz8_13,hfz8_14,hfz8_15⟩:=bf16_ Qw.out)|((with_reducible refine gate_callee (f:=26) rfl ?_);refine goesL_ (some 4) rfl rfl Try.func26 (by kernel_rfl) rfl #[.agg #[.int .i64 Qi,.int .i64 Qg,.int .i64 Qj,.int .i64 Qk,.int .i64 Ql,.int .i64 Qm,.int .i64 Qn,.int .i64 Qo,.int .i64 Qp,.int .i64 Qq,.int .i64 Qa,.int .i64 Qb,.int .i64 Qc,.int .i64 Qd,.int .i64 Qe,.int .i64 Qf]] rfl (by (try simp only [List.map_toArray,List.map_cons,List.map_nil]);first|done|rfl|(simp only [List.length_drop,List.length_take];rfl)) ?_;(with_reducible refine (plan_Fails.calls Qi Qg Qj Qk Ql Qm Qn Qo Qp Qq Qa Qb Qc Qd Qe Qf QA _ A2.out).mono ?_);rintro e w9 ⟨rfl,hb⟩;refine ⟨_,rfl,?_⟩;have n0_:=kb_ Qw hb;have n1_:=ks_ HB hb;clear Qw;clear HB;have Qw:=n0_;have HB:=n1_;clear n0_ n1_;(try clear hb);(try clear hb2);(try clear hk);(try clear hi)))
  go_ret
  exact ⟨by first|rfl|(simp [errW_none,errW_some] <;> rfl)|(simp [*,errW_none,errW_some] <;> rfl),by repeat (first|(with_reducible first|exact HB.out|apply below_alloc|apply pw_below_drewN|apply below_drew1|refine below_set ?_ GE101.out)|exact HB.out)⟩

/-! ### resync_Enough: function 14 -/
def resync_Enough.f (Qi : Int) (Qg : Int) (Qj : Int) (Qk : Int) (Ql : Int) (Qm : Int) (Qn : Int) (Qo : Int) (Qp : Int) (Qq : Int) (Qa : Int) (Qb : Int) (Qc : Int) (Qd : Int) (Qe : Int) (Qf : Int) (a1 : Int) : Option (Bool):=(plan_Check.f Qi Qg Qj Qk Ql Qm Qn Qo Qp Qq Qa Qb Qc Qd Qe Qf).bind fun QB=>(if QB = 0 then (some (decide (a1 ≥ (wrap64 ((wrap64 (2 * Qg)) + 1))))) else (some false))
set_option maxHeartbeats 8000000 in
set_option maxRecDepth 100000 in
theorem resync_Enough.calls (Qi : Int) (Qg : Int) (Qj : Int) (Qk : Int) (Ql : Int) (Qm : Int) (Qn : Int) (Qo : Int) (Qp : Int) (Qq : Int) (Qa : Int) (Qb : Int) (Qc : Int) (Qd : Int) (Qe : Int) (Qf : Int) (a1 : Int) (r : Bool) (w : World) (h : resync_Enough.f Qi Qg Qj Qk Ql Qm Qn Qo Qp Qq Qa Qb Qc Qd Qe Qf a1 = some r) :
  Calls Try.prog 14 #[.agg #[.int .i64 Qi,.int .i64 Qg,.int .i64 Qj,.int .i64 Qk,.int .i64 Ql,.int .i64 Qm,.int .i64 Qn,.int .i64 Qo,.int .i64 Qp,.int .i64 Qq,.int .i64 Qa,.int .i64 Qb,.int .i64 Qc,.int .i64 Qd,.int .i64 Qe,.int .i64 Qf],.int .i64 a1] w fun e w'=>e = .returned (.bool r)∧Below w.heap.size w w':=by
 have hu23:=Try.underlying23
 have HB:=Aside0.mk (Below.refl w.heap.size w)
 have H : ((plan_Check.f Qi Qg Qj Qk Ql Qm Qn Qo Qp Qq Qa Qb Qc Qd Qe Qf).bind fun QB=>(if QB = 0 then (some (decide (a1 ≥ (wrap64 ((wrap64 (2 * Qg)) + 1))))) else (some false))) = some r:=h
 clear h
 replace H:=Option.bind_eq_some_iff.mp H
 obtain ⟨QB,A30,H⟩:=H
 replace H : (if QB = 0 then (some (decide (a1 ≥ (wrap64 ((wrap64 (2 * Qg)) + 1))))) else (some false)) = some r:=H
 have A3:=Aside0.mk A30
 clear A30
 by_cases c4 : QB = 0
 ·rw [if_pos c4] at H
  have c4b0 : (QB == 0) = true:=beq_iff_eq.mpr c4
  have c4b1 : (QB != 0) = false:=bne_eq_false_iff_eq.mpr c4
  clear c4
  obtain rfl:=Option.some.inj H
  go_enter Try.func14,Try.ntmps14
  go_wp2_with (first|((with_reducible refine gate_dst (N:=2) rfl ?_);refine box_event ?hg (N:=2) ?hd (cs:=#[.int .i64 Qi,.int .i64 Qg,.int .i64 Qj,.int .i64 Qk,.int .i64 Ql,.int .i64 Qm,.int .i64 Qn,.int .i64 Qo,.int .i64 Qp,.int .i64 Qq,.int .i64 Qa,.int .i64 Qb,.int .i64 Qc,.int .i64 Qd,.int .i64 Qe,.int .i64 Qf]) (t:=23) ?hr ?_;(case hd=>rfl);(case hg=>rfl);(case hr=>first|(go_simp;done)|(go_simp;rfl));intro Qz hg w5 hbox hb;have n0_:=ks_ HB hb;have n1_:=Aside0.mk (hbox);have n2_:=Aside0.mk ((by rw [hg];exact (kz_ HB) : w.heap.size ≤ Qz));have n3_:=Aside0.mk ((by rw [hg];exact (kz_ HB) : w.heap.size ≤ Qz));clear HB;have HB:=n0_;have Qu:=n1_;have GW103:=n2_;have GE103:=n3_;clear n0_ n1_ n2_ n3_;clear hb hbox hg;obtain ⟨hcz6_0,hcz6_1,hcz6_2,hcz6_3,hcz6_4,hcz6_5,hcz6_6,hcz6_7,hcz6_8,hcz6_9,hcz6_10,hcz6_11,hcz6_12,hcz6_13,hcz6_14,hcz6_15⟩:=bc16_ (w:=w5) (g:=Qz) (.int .i64 Qi) (.int .i64 Qg) (.int .i64 Qj) (.int .i64 Qk) (.int .i64 Ql) (.int .i64 Qm) (.int .i64 Qn) (.int .i64 Qo) (.int .i64 Qp) (.int .i64 Qq) (.int .i64 Qa) (.int .i64 Qb) (.int .i64 Qc) (.int .i64 Qd) (.int .i64 Qe) (.int .i64 Qf) Qu.out;obtain ⟨hfz6_0,hfz6_1,hfz6_2,hfz6_3,hfz6_4,hfz6_5,hfz6_6,hfz6_7,hfz6_8,hfz6_9,hfz6_10,hfz6_11,hfz6_12,hfz6_13,hfz6_14,hfz6_15⟩:=bf16_ Qu.out)|((with_reducible refine gate_callee (f:=16) rfl ?_);refine goesL_ (some 6) rfl rfl Try.func16 (by kernel_rfl) rfl #[.agg #[.int .i64 Qi,.int .i64 Qg,.int .i64 Qj,.int .i64 Qk,.int .i64 Ql,.int .i64 Qm,.int .i64 Qn,.int .i64 Qo,.int .i64 Qp,.int .i64 Qq,.int .i64 Qa,.int .i64 Qb,.int .i64 Qc,.int .i64 Qd,.int .i64 Qe,.int .i64 Qf]] rfl (by (try simp only [List.map_toArray,List.map_cons,List.map_nil]);first|done|rfl|(simp only [List.length_drop,List.length_take];rfl)) ?_;(with_reducible refine (plan_Check.calls Qi Qg Qj Qk Ql Qm Qn Qo Qp Qq Qa Qb Qc Qd Qe Qf QB _ A3.out).mono ?_);rintro e w7 ⟨rfl,hb⟩;refine ⟨_,rfl,?_⟩;have n0_:=kb_ Qu hb;have n1_:=ks_ HB hb;clear Qu;clear HB;have Qu:=n0_;have HB:=n1_;clear n0_ n1_;(try clear hb);(try clear hb2);(try clear hk);(try clear hi);obtain ⟨hcz8_0,hcz8_1,hcz8_2,hcz8_3,hcz8_4,hcz8_5,hcz8_6,hcz8_7,hcz8_8,hcz8_9,hcz8_10,hcz8_11,hcz8_12,hcz8_13,hcz8_14,hcz8_15⟩:=bc16_ (w:=w7) (g:=Qz) (.int .i64 Qi) (.int .i64 Qg) (.int .i64 Qj) (.int .i64 Qk) (.int .i64 Ql) (.int .i64 Qm) (.int .i64 Qn) (.int .i64 Qo) (.int .i64 Qp) (.int .i64 Qq) (.int .i64 Qa) (.int .i64 Qb) (.int .i64 Qc) (.int .i64 Qd) (.int .i64 Qe) (.int .i64 Qf) Qu.out;obtain ⟨hfz8_0,hfz8_1,hfz8_2,hfz8_3,hfz8_4,hfz8_5,hfz8_6,hfz8_7,hfz8_8,hfz8_9,hfz8_10,hfz8_11,hfz8_12,hfz8_13,hfz8_14,hfz8_15⟩:=bf16_ Qu.out))
  go_ret
  exact ⟨by first|rfl|(simp [errW_none,errW_some] <;> rfl)|(simp [*,errW_none,errW_some] <;> rfl),by repeat (first|(with_reducible first|exact HB.out|apply below_alloc|apply pw_below_drewN|apply below_drew1|refine below_set ?_ GE103.out)|exact HB.out)⟩
 ·rw [if_neg c4] at H
  have c4b0 : (QB == 0) = false:=beq_eq_false_iff_ne.mpr c4
  have c4b1 : (QB != 0) = true:=bne_iff_ne.mpr c4
  obtain rfl:=Option.some.inj H
  go_enter Try.func14,Try.ntmps14
  go_wp2_with (first|((with_reducible refine gate_dst (N:=2) rfl ?_);refine box_event ?hg (N:=2) ?hd (cs:=#[.int .i64 Qi,.int .i64 Qg,.int .i64 Qj,.int .i64 Qk,.int .i64 Ql,.int .i64 Qm,.int .i64 Qn,.int .i64 Qo,.int .i64 Qp,.int .i64 Qq,.int .i64 Qa,.int .i64 Qb,.int .i64 Qc,.int .i64 Qd,.int .i64 Qe,.int .i64 Qf]) (t:=23) ?hr ?_;(case hd=>rfl);(case hg=>rfl);(case hr=>first|(go_simp;done)|(go_simp;rfl));intro Qz hg w9 hbox hb;have n0_:=ks_ HB hb;have n1_:=Aside0.mk (hbox);have n2_:=Aside0.mk ((by rw [hg];exact (kz_ HB) : w.heap.size ≤ Qz));have n3_:=Aside0.mk ((by rw [hg];exact (kz_ HB) : w.heap.size ≤ Qz));clear HB;have HB:=n0_;have Qu:=n1_;have GW103:=n2_;have GE103:=n3_;clear n0_ n1_ n2_ n3_;clear hb hbox hg;obtain ⟨hcz10_0,hcz10_1,hcz10_2,hcz10_3,hcz10_4,hcz10_5,hcz10_6,hcz10_7,hcz10_8,hcz10_9,hcz10_10,hcz10_11,hcz10_12,hcz10_13,hcz10_14,hcz10_15⟩:=bc16_ (w:=w9) (g:=Qz) (.int .i64 Qi) (.int .i64 Qg) (.int .i64 Qj) (.int .i64 Qk) (.int .i64 Ql) (.int .i64 Qm) (.int .i64 Qn) (.int .i64 Qo) (.int .i64 Qp) (.int .i64 Qq) (.int .i64 Qa) (.int .i64 Qb) (.int .i64 Qc) (.int .i64 Qd) (.int .i64 Qe) (.int .i64 Qf) Qu.out;obtain ⟨hfz10_0,hfz10_1,hfz10_2,hfz10_3,hfz10_4,hfz10_5,hfz10_6,hfz10_7,hfz10_8,hfz10_9,hfz10_10,hfz10_11,hfz10_12,hfz10_13,hfz10_14,hfz10_15⟩:=bf16_ Qu.out)|((with_reducible refine gate_callee (f:=16) rfl ?_);refine goesL_ (some 6) rfl rfl Try.func16 (by kernel_rfl) rfl #[.agg #[.int .i64 Qi,.int .i64 Qg,.int .i64 Qj,.int .i64 Qk,.int .i64 Ql,.int .i64 Qm,.int .i64 Qn,.int .i64 Qo,.int .i64 Qp,.int .i64 Qq,.int .i64 Qa,.int .i64 Qb,.int .i64 Qc,.int .i64 Qd,.int .i64 Qe,.int .i64 Qf]] rfl (by (try simp only [List.map_toArray,List.map_cons,List.map_nil]);first|done|rfl|(simp only [List.length_drop,List.length_take];rfl)) ?_;(with_reducible refine (plan_Check.calls Qi Qg Qj Qk Ql Qm Qn Qo Qp Qq Qa Qb Qc Qd Qe Qf QB _ A3.out).mono ?_);rintro e w11 ⟨rfl,hb⟩;refine ⟨_,rfl,?_⟩;have n0_:=kb_ Qu hb;have n1_:=ks_ HB hb;clear Qu;clear HB;have Qu:=n0_;have HB:=n1_;clear n0_ n1_;(try clear hb);(try clear hb2);(try clear hk);(try clear hi)))
  go_ret
  exact ⟨by first|rfl|(simp [errW_none,errW_some] <;> rfl)|(simp [*,errW_none,errW_some] <;> rfl),by repeat (first|(with_reducible first|exact HB.out|apply below_alloc|apply pw_below_drewN|apply below_drew1|refine below_set ?_ GE103.out)|exact HB.out)⟩

-- BY HAND: function 19 (resync_values)

-- BY HAND: function 28 (midpoint_Trim)

-- BY HAND: function 29 (midpoint_ends_int64)

/-! ### midpoint_Of: function 20 -/
def midpoint_Of.f (k : Nat) (l0 : List Int) (a1 : Int) : Option (Int × Int):=(midpoint_Trim.f l0 a1).bind fun Qv=>(if Qv.2 = 0 then (if 0 < (Qv.1.length : Int) then (if 1 ≤ (Qv.1.length : Int) then ((midpoint_ends_int64.f k (rd Qv.1 0) (Qv.1.drop 1)).bind fun Qx=>(some ((wrap64 (Qx.1 + Qx.2)) / 2,0))) else (none)) else (none)) else (some (0,Qv.2)))
theorem midpoint_Of.mono : ∀ a0 a1 k,LeO (midpoint_Of.f k a0 a1) (midpoint_Of.f (k + 1) a0 a1):=by
 intro a0 a1 k
 unfold midpoint_Of.f
 repeat' first
   | (with_reducible exact midpoint_ends_int64.mono _ _ _)
   | (with_reducible exact LeO.refl _)
   | (with_reducible exact LeO.none _)
   | (with_reducible refine LeO.ite ?_ ?_)
   | (with_reducible refine LeO.bind ?_ (fun _=>?_))
   | exact midpoint_ends_int64.mono _ _ _
   | exact LeO.none _
   | refine LeO.ite ?_ ?_
   | refine LeO.bind ?_ (fun _=>?_)
def midpoint_Of.T4 : Bool × List (List Nat × List Nat):=(true,[([],[]),([0],[0]),([1],[1]),([],[]),([3],[3]),([2,4],[2,4]),([5],[5]),([6],[6]),([6],[6]),([7,5,0,1,2,3,4,5,6,7],[7]),([8,9,0,1,2,3,4,5,6,7,8,9],[8])])
def midpoint_Of.B4 : List Nat:=[0,1,3,0,8,31,63,127,127,255,1023]
theorem midpoint_Of.tab4 : rtab .any (opsOf Try.f20 4) = midpoint_Of.T4:=by kernel_rfl
theorem midpoint_Of.bits4 : waitsOk midpoint_Of.T4.2 midpoint_Of.B4 = true:=by kernel_rfl
set_option maxHeartbeats 8000000 in
set_option maxRecDepth 100000 in
theorem midpoint_Of.calls (k : Nat) (A0 : Option Addr) (c0 : Nat) (l0 : List Int) (a1 : Int) (r1 : Int) (r2 : Int) (w : World) (hr0 : Kd.C (Kd.int .i64) w A0 l0.length l0) (hc0 : l0.length ≤ c0) (h : midpoint_Of.f k l0 a1 = some (r1,r2)) :
  Calls Try.prog 20 #[.slice A0 l0.length c0,.int .i64 a1] w fun e w'=>e = .returned (.tuple #[.int .i64 r1,.int .i64 r2])∧Below w.heap.size w w':=by
 have HR0:=Aside0.mk hr0
 have HC0:=Aside0.mk hc0
 clear hr0 hc0
 have HB:=Aside0.mk (Below.refl w.heap.size w)
 have H : ((midpoint_Trim.f l0 a1).bind fun Qv=>(if Qv.2 = 0 then (if 0 < (Qv.1.length : Int) then (if 1 ≤ (Qv.1.length : Int) then ((midpoint_ends_int64.f k (rd Qv.1 0) (Qv.1.drop 1)).bind fun Qx=>(some ((wrap64 (Qx.1 + Qx.2)) / 2,0))) else (none)) else (none)) else (some (0,Qv.2)))) = some (r1,r2):=h
 clear h
 replace H:=Option.bind_eq_some_iff.mp H
 obtain ⟨⟨Qs,QF⟩,A30,H⟩:=H
 replace H : (if QF = 0 then (if 0 < (Qs.length : Int) then (if 1 ≤ (Qs.length : Int) then ((midpoint_ends_int64.f k (rd Qs 0) (Qs.drop 1)).bind fun Qx=>(some ((wrap64 (Qx.1 + Qx.2)) / 2,0))) else (none)) else (none)) else (some (0,QF))) = some (r1,r2):=H
 have A3:=Aside0.mk A30
 clear A30
 by_cases c4 : QF = 0
 ·rw [if_pos c4] at H
  have c4b0 : (QF == 0) = true:=beq_iff_eq.mpr c4
  have c4b1 : (QF != 0) = false:=bne_eq_false_iff_eq.mpr c4
  clear c4
  by_cases c5 : 0 < (Qs.length : Int)
  ·rw [if_pos c5] at H
   have c5b0 : decide (0 < (Qs.length : Int)) = true:=decide_eq_true c5
   have c5b1 : decide (0 < Qs.length) = true:=decide_eq_true (by omega)
   clear c5
   by_cases c6 : 1 ≤ (Qs.length : Int)
   ·rw [if_pos c6] at H
    have c6b0:=eq_true c6
    have c6b1 : decide (1 ≤ (Qs.length : Int)) = true:=decide_eq_true c6
    clear c6
    obtain ⟨y110,hy110⟩ : ∃ y_ : List Int,y_ = (Qs.drop 1):=⟨_,rfl⟩
    replace H : ((midpoint_ends_int64.f k (rd Qs 0) y110).bind fun Qx=>(some ((wrap64 (Qx.1 + Qx.2)) / 2,0))) = some (r1,r2):=by first|(rw [hy110];with_reducible exact H)|(have H2_:=(Option.bind_some _ _).symm.trans H;rw [hy110];with_reducible exact H2_)|(have H2_:=(Option.bind_some _ _).symm.trans H;with_reducible exact H2_)|with_reducible exact H|(rw [hy110];exact H)|exact H
    have Ny110:=Aside0.mk hy110
    clear hy110
    replace H:=Option.bind_eq_some_iff.mp H
    obtain ⟨⟨t114,t115⟩,A70,H⟩:=H
    replace H : (some ((wrap64 (t114 + t115)) / 2,0)) = some (r1,r2):=H
    have A7:=Aside0.mk A70
    clear A70
    simp only [Option.some.injEq,Prod.mk.injEq] at H
    obtain ⟨rfl,rfl⟩:=H
    go_enter Try.func20,Try.ntmps20
    try go_wp2_with (first|((with_reducible refine gate_callee (f:=28) rfl ?_);refine goesL_ (some 13) rfl rfl Try.func28 (by kernel_rfl) rfl #[.slice A0 l0.length c0,.int .i64 a1] rfl (by (try simp only [List.map_toArray,List.map_cons,List.map_nil]);first|done|rfl|(simp only [List.length_drop,List.length_take];rfl)) ?_;(with_reducible refine (midpoint_Trim.calls _ _ l0 a1 Qs QF _ ?side1 ?side2 A3.out).mono ?_);(case side1=>repeat (first|exact HR0.out|(with_reducible refine Kd.C_alloc ?_ _)|(with_reducible refine Kd.C_drewN ?_ _)|(with_reducible refine Kd.C_drew ?_)));(case side2=>exact HC0.out);rintro e w8 ⟨v107,rfl,ho0,hb⟩;refine ⟨_,rfl,?_⟩;have n0_:=Aside0.mk (Kd.R_lower ho0 (kz_ HB));have n1_:=ks_ HB hb;clear HB;have HO108:=n0_;have HB:=n1_;clear n0_ n1_;(try clear hb);(try clear hb2);(try clear hk);(try clear hi);(try clear ho0)))
    have n0_:=Aside0.mk (Kd.R_drew HO108.out)
    have n1_:=Aside0.mk (below_drew1 HB.out)
    clear HO108
    clear HB
    have HO108:=n0_
    have HB:=n1_
    clear n0_ n1_
    obtain ⟨Ao10,co10,eo10⟩:=Kd.R_slice HO108.out
    (first|subst eo10|(injection eo10 with f1_ f2_ f3_;have f4_:=f1_.symm;have f5_:=f3_.symm;clear f1_ f2_ f3_;subst f4_;subst f5_))
    have p109 : 0 ≤ (0 : Int):=(by omega)
    have q109 : 0 < (Qs.length : Int):=of_decide_eq_true (by first|(with_reducible assumption)|assumption)
    obtain ⟨ad109,e109,hx109_0⟩:=Kd.at_int (Kd.R_reads' HO108.out).2.2 0 p109 q109
    cases e109
    have qi109 : (0 < Qs.length) = True:=eq_true (by omega)
    (try rw [show ((0 : Int)).toNat = 0 from rfl] at hx109_0)
    (try rw [Addr.add_zero'] at hx109_0)
    replace p109:=eq_true p109
    replace q109:=eq_true q109
    have q11 : (1 : Int) ≤ ((Qs.length : Int) : Int):=of_decide_eq_true (by first|(with_reducible assumption)|assumption)
    obtain ⟨i011,hi011,_,hsz11,_⟩:=info_parts info2
    have hroom11 : Qs.length ≤ co10:=(Kd.R_reads' HO108.out).2.1
    have hC11 : Kd.C (Kd.int .i64) _ (some ad109) Qs.length Qs:=(Kd.R_reads' HO108.out).2.2
    have hcut11:=cut_from (P:=Try.prog) 26 2 .i64 Try.underlying26 hi011 1 hsz11 (some ad109) Qs.length co10 1 (by omega) q11
    have hr11:=Kd.C_drop (m:=(1 : Int).toNat) (c:=co10) hC11 (by omega) hroom11
    obtain ⟨A11,hA11⟩ : ∃ A1,A1 = (if co10 = (1 : Int).toNat then (some ad109) else ((some ad109) : Option Addr).map (·.add ((1 : Int).toNat * 1))):=⟨_,rfl⟩
    obtain ⟨c11,hc11⟩ : ∃ c1,c1 = co10 - (1 : Int).toNat:=⟨_,rfl⟩
    have hy11 : y110.length = Qs.length - (1 : Int).toNat:=(by rw [Ny110.out,List.length_drop] <;> omega)
    rw [show (Qs).drop (1 : Int).toNat = y110 from Ny110.out.symm] at hr11
    replace hr11 : Kd.C (Kd.int .i64) _ A11 y110.length y110:=(by rw [hA11];exact hr11)
    rw [← hy11,← hA11,← hc11] at hcut11
    have HR113:=Aside0.mk hr11
    have HC113:=Aside0.mk (show y110.length ≤ c11 from by rw [hy11,hc11];exact Nat.sub_le_sub_right hroom11 _)
    clear hr11 hC11 hroom11 hi011 hsz11 hc11
    have KY11:=Aside0.mk hy11
    have KA11:=Aside0.mk hA11
    clear hy11 hA11
    have KL11:=Aside0.mk (show 1 ≤ Qs.length from by omega)
    replace q11:=eq_true q11
    refine start_ (n:=11) (S:=fun w'=>w'.cell? ad109 = some (.int .i64 (rd Qs 0))) (ds:=[]) #[false,false,false,false,false,false,false,false,false,false,false] (by kernel_rfl) rfl rfl (hx109_0) (fun hHeld=>?_);refine with_tabW midpoint_Of.tab4 midpoint_Of.bits4 (fun HT_ HW_=>?_)
    generalize w8.drew = w9 at HO108 HB HR113 hx109_0 hHeld ⊢
    refine pure_ (i:=0) (N:=some 20) (v:=?_) (a':=?_) #[true,false,false,false,false,false,false,false,false,false,false] rfl rfl (any_of HT_.out (by kernel_rfl)) (fun _ _ _ h=>h) (Or.inl ⟨by rfl,?_⟩) ?_ ?_
    rotate_left
    ·intro w'
     go_simp
     with_reducible rfl
    rotate_left
    ·simp only [Act.put,List.setIfInBounds_toArray,List.set_cons_zero,List.set_cons_succ,i64_w,i32_w]
     rfl
    refine pure_ (i:=1) (N:=some 21) (v:=?_) (a':=?_) #[true,true,false,false,false,false,false,false,false,false,false] rfl rfl (any_of HT_.out (by kernel_rfl)) (fun _ _ _ h=>h) (Or.inl ⟨by rfl,?_⟩) ?_ ?_
    rotate_left
    ·intro w'
     go_simp
     with_reducible rfl
    rotate_left
    ·simp only [Act.put,List.setIfInBounds_toArray,List.set_cons_zero,List.set_cons_succ,i64_w,i32_w]
     rfl
    refine pure_ (i:=3) (N:=some 23) (v:=?_) (a':=?_) #[true,true,false,true,false,false,false,false,false,false,false] rfl rfl (any_of HT_.out (by kernel_rfl)) (fun _ _ _ h=>h) (Or.inl ⟨by rfl,?_⟩) ?_ ?_
    rotate_left
    ·intro w'
     go_simp
     with_reducible rfl
    rotate_left
    ·simp only [Act.put,List.setIfInBounds_toArray,List.set_cons_zero,List.set_cons_succ,i64_w,i32_w]
     rfl
    refine pure_ (i:=4) (N:=some 24) (v:=?_) (a':=?_) #[true,true,false,true,true,false,false,false,false,false,false] rfl rfl (any_of HT_.out (by kernel_rfl)) (fun _ _ _ h=>h) (Or.inl ⟨by rfl,?_⟩) ?_ ?_
    rotate_left
    ·intro w'
     go_simp
     with_reducible rfl
    rotate_left
    ·simp only [Act.put,List.setIfInBounds_toArray,List.set_cons_zero,List.set_cons_succ,i64_w,i32_w]
     rfl
    refine take_ (i:=2) (N:=some 22) (v:=?_) (a':=?_) #[true,true,true,true,true,false,false,false,false,false,false] rfl rfl (take_ofW HT_.out HW_.out (by kernel_rfl)) (fun _ _ _ h=>h) (Or.inl ⟨by rfl,?_⟩) hHeld ?_ ?_
    rotate_left
    ·intro w' s0
     go_simp
     with_reducible rfl
    rotate_left
    ·simp only [Act.put,List.setIfInBounds_toArray,List.set_cons_zero,List.set_cons_succ,i64_w,i32_w]
     rfl
    refine one_ (i:=5) (N:=some 25) #[true,true,true,true,true,true,false,false,false,false,false] rfl rfl (one_of HT_.out (by kernel_rfl)) (by decide) (fun K hK=>?_)
    refine goes_ Try.func29 (by kernel_rfl) rfl #[.int .i64 (rd Qs 0),.slice A11 y110.length c11] (by rfl) rfl rfl (by (try simp only [List.map_toArray,List.map_cons,List.map_nil]);first|done|rfl|(simp only [List.length_drop,List.length_take];rfl)) ?_
    with_reducible refine (midpoint_ends_int64.calls k (rd Qs 0) _ _ y110 t114 t115 _ ?side1 ?side2 A7.out).mono ?_
    (case side1=>repeat (first|exact (by repeat (first|(with_reducible exact HR113.out)|(with_reducible refine Kd.C_alloc ?_ _)|(with_reducible refine Kd.C_drewN ?_ _)|(with_reducible refine Kd.C_drew ?_)|exact HR113.out))|(with_reducible refine Kd.C_alloc ?_ _)|(with_reducible refine Kd.C_drewN ?_ _)|(with_reducible refine Kd.C_drew ?_)))
    (case side2=>exact HC113.out)
    rintro e w12 ⟨rfl,hb⟩
    have HS0_:=(hb.cell (World.block_lt_of_cell? _ _ (hHeld))).trans (hHeld)
    refine ⟨_,rfl,?_⟩
    have n0_:=kr_ HO108 hb
    have n1_:=Aside0.mk (Kd.C_below (by repeat (first|(with_reducible exact HR113.out)|(with_reducible refine Kd.C_alloc ?_ _)|(with_reducible refine Kd.C_drewN ?_ _)|(with_reducible refine Kd.C_drew ?_)|exact HR113.out)) hb)
    have n2_:=ks_ HB hb
    clear HO108
    clear HR113
    clear HB
    have HO108:=n0_
    have HR113:=n1_
    have HB:=n2_
    clear n0_ n1_ n2_
    (try clear hb)
    (try clear hb2)
    (try clear hk)
    (try clear hi)
    refine hK.out _ _ (HS0_) (fun hHeld=>?_)
    clear hK K
    refine norm_ (a':=?_) ?_ ?_
    rotate_left
    ·show Act.put _ (some 25) _ = _
     simp only [Act.put,List.setIfInBounds_toArray,List.set_cons_zero,List.set_cons_succ,i64_w,i32_w]
     rfl
    refine pure_ (i:=6) (N:=some 19) (v:=?_) (a':=?_) #[true,true,true,true,true,true,true,false,false,false,false] rfl rfl (any_of HT_.out (by kernel_rfl)) (fun _ _ _ h=>h) (Or.inl ⟨by rfl,?_⟩) ?_ ?_
    rotate_left
    ·intro w'
     go_simp
     with_reducible rfl
    rotate_left
    ·simp only [Act.put,List.setIfInBounds_toArray,List.set_cons_zero,List.set_cons_succ,i64_w,i32_w]
     rfl
    refine pure_ (i:=7) (N:=some 26) (v:=?_) (a':=?_) #[true,true,true,true,true,true,true,true,false,false,false] rfl rfl (any_of HT_.out (by kernel_rfl)) (fun _ _ _ h=>h) (Or.inl ⟨by rfl,?_⟩) ?_ ?_
    rotate_left
    ·intro w'
     go_simp
     with_reducible rfl
    rotate_left
    ·simp only [Act.put,List.setIfInBounds_toArray,List.set_cons_zero,List.set_cons_succ,i64_w,i32_w]
     rfl
    refine pure_ (i:=8) (N:=some 27) (v:=?_) (a':=?_) #[true,true,true,true,true,true,true,true,true,false,false] rfl rfl (any_of HT_.out (by kernel_rfl)) (fun _ _ _ h=>h) (Or.inl ⟨by rfl,?_⟩) ?_ ?_
    rotate_left
    ·intro w'
     go_simp
     with_reducible rfl
    rotate_left
    ·simp only [Act.put,List.setIfInBounds_toArray,List.set_cons_zero,List.set_cons_succ,i64_w,i32_w]
     rfl
    refine pure_ (i:=9) (N:=some 8) (v:=?_) (a':=?_) #[true,true,true,true,true,true,true,true,true,true,false] rfl rfl (any_of HT_.out (by kernel_rfl)) (fun _ _ _ h=>h) (Or.inl ⟨by rfl,?_⟩) ?_ ?_
    rotate_left
    ·intro w'
     go_simp
     with_reducible rfl
    rotate_left
    ·simp only [Act.put,List.setIfInBounds_toArray,List.set_cons_zero,List.set_cons_succ,i64_w,i32_w]
     rfl
    refine pure_ (i:=10) (N:=some 9) (v:=?_) (a':=?_) #[true,true,true,true,true,true,true,true,true,true,true] rfl rfl (any_of HT_.out (by kernel_rfl)) (fun _ _ _ h=>h) (Or.inl ⟨by rfl,?_⟩) ?_ ?_
    rotate_left
    ·intro w'
     go_simp
     with_reducible rfl
    rotate_left
    ·simp only [Act.put,List.setIfInBounds_toArray,List.set_cons_zero,List.set_cons_succ,i64_w,i32_w]
     rfl
    refine done_ (done_of HT_.out (by kernel_rfl)) ?_
    try go_wp2
    go_ret2
    exact ⟨by first|rfl|(simp [errW_none,errW_some] <;> rfl)|(simp [*,errW_none,errW_some] <;> rfl),by repeat (first|(with_reducible first|exact HB.out|apply below_alloc|apply pw_below_drewN|apply below_drew1)|exact HB.out)⟩
   ·rw [if_neg c6] at H
    exact absurd H (by simp)
  ·rw [if_neg c5] at H
   exact absurd H (by simp)
 ·rw [if_neg c4] at H
  have c4b0 : (QF == 0) = false:=beq_eq_false_iff_ne.mpr c4
  have c4b1 : (QF != 0) = true:=bne_iff_ne.mpr c4
  simp only [Option.some.injEq,Prod.mk.injEq] at H
  obtain ⟨rfl,rfl⟩:=H
  go_enter Try.func20,Try.ntmps20
  go_wp2_with (first|((with_reducible refine gate_callee (f:=28) rfl ?_);refine goesL_ (some 13) rfl rfl Try.func28 (by kernel_rfl) rfl #[.slice A0 l0.length c0,.int .i64 a1] rfl (by (try simp only [List.map_toArray,List.map_cons,List.map_nil]);first|done|rfl|(simp only [List.length_drop,List.length_take];rfl)) ?_;(with_reducible refine (midpoint_Trim.calls _ _ l0 a1 Qs QF _ ?side1 ?side2 A3.out).mono ?_);(case side1=>repeat (first|exact HR0.out|(with_reducible refine Kd.C_alloc ?_ _)|(with_reducible refine Kd.C_drewN ?_ _)|(with_reducible refine Kd.C_drew ?_)));(case side2=>exact HC0.out);rintro e w13 ⟨v107,rfl,ho0,hb⟩;refine ⟨_,rfl,?_⟩;have n0_:=Aside0.mk (Kd.R_lower ho0 (kz_ HB));have n1_:=ks_ HB hb;clear HB;have HO108:=n0_;have HB:=n1_;clear n0_ n1_;(try clear hb);(try clear hb2);(try clear hk);(try clear hi);(try clear ho0)))
  go_ret2
  exact ⟨by first|rfl|(simp [errW_none,errW_some] <;> rfl)|(simp [*,errW_none,errW_some] <;> rfl),by repeat (first|(with_reducible first|exact HB.out|apply below_alloc|apply pw_below_drewN|apply below_drew1)|exact HB.out)⟩

/-! ### resync_Correction: function 7 -/
def resync_Correction.j0 : Nat→List Int→Bool→Int→Int→Int→Int→Int→Int→Int→Int→Int→Int→Int→Int→Int→Int→Int→Int→Option (Int × Int)
 | 0,_,_,_,_,_,_,_,_,_,_,_,_,_,_,_,_,_,_=>none
 | k + 1,x1,x8,x117000,x117001,x117002,x117003,x117004,x117005,x117006,x117007,x117008,x117009,x117010,x117011,x117012,x117013,x117014,x117015=>if x8 = true then (some (0,150)) else ((resync_Enough.f x117000 x117001 x117002 x117003 x117004 x117005 x117006 x117007 x117008 x117009 x117010 x117011 x117012 x117013 x117014 x117015 (x1.length : Int)).bind fun t119=>(if t119 = true then ((midpoint_Of.f k x1 x117001).bind fun Qr=>(if Qr.2 = 0 then (if (mx Qr.1 (wrap64 (-Qr.1))) > x117010 then (some (0,151)) else (some (wrap64 (-Qr.1),0))) else (some (0,150)))) else (some (0,0))))
def resync_Correction.f (k : Nat) (Qi : Int) (Qg : Int) (Qj : Int) (Qk : Int) (Ql : Int) (Qm : Int) (Qn : Int) (Qo : Int) (Qp : Int) (Qq : Int) (Qa : Int) (Qb : Int) (Qc : Int) (Qd : Int) (Qe : Int) (Qf : Int) (l1 : List Int) : Option (Int × Int):=(plan_Check.f Qi Qg Qj Qk Ql Qm Qn Qo Qp Qq Qa Qb Qc Qd Qe Qf).bind fun QC=>(if QC = 0 then ((resync_values.f k l1).bind fun QG=>(resync_Correction.j0 k l1 (!QG) Qi Qg Qj Qk Ql Qm Qn Qo Qp Qq Qa Qb Qc Qd Qe Qf)) else (resync_Correction.j0 k l1 true Qi Qg Qj Qk Ql Qm Qn Qo Qp Qq Qa Qb Qc Qd Qe Qf))
theorem resync_Correction.mono_l : ∀ k,(∀ y0 y1 y2 y3 y4 y5 y6 y7 y8 y9 y10 y11 y12 y13 y14 y15 y16 y17,LeO (resync_Correction.j0 k y0 y1 y2 y3 y4 y5 y6 y7 y8 y9 y10 y11 y12 y13 y14 y15 y16 y17) (resync_Correction.j0 (k + 1) y0 y1 y2 y3 y4 y5 y6 y7 y8 y9 y10 y11 y12 y13 y14 y15 y16 y17))
 | 0=>fun _ _ _ _ _ _ _ _ _ _ _ _ _ _ _ _ _ _ r h=>by simp [resync_Correction.j0] at h
 | k + 1=>by
  have ih0:=resync_Correction.mono_l k
  ·intro y0 y1 y2 y3 y4 y5 y6 y7 y8 y9 y10 y11 y12 y13 y14 y15 y16 y17
   unfold resync_Correction.j0
   repeat' first
   | (with_reducible exact ih0 _ _ _ _ _ _ _ _ _ _ _ _ _ _ _ _ _ _)
   | (with_reducible exact midpoint_Of.mono _ _ _)
   | (with_reducible exact resync_values.mono _ _)
   | (with_reducible exact LeO.refl _)
   | (with_reducible exact LeO.none _)
   | (with_reducible refine LeO.ite ?_ ?_)
   | (with_reducible refine LeO.bind ?_ (fun _=>?_))
   | exact ih0 _ _ _ _ _ _ _ _ _ _ _ _ _ _ _ _ _ _
   | exact midpoint_Of.mono _ _ _
   | exact resync_values.mono _ _
   | exact LeO.none _
   | refine LeO.ite ?_ ?_
   | refine LeO.bind ?_ (fun _=>?_)
theorem resync_Correction.mono : ∀ a0 a1 a2 a3 a4 a5 a6 a7 a8 a9 a10 a11 a12 a13 a14 a15 a16 k,LeO (resync_Correction.f k a0 a1 a2 a3 a4 a5 a6 a7 a8 a9 a10 a11 a12 a13 a14 a15 a16) (resync_Correction.f (k + 1) a0 a1 a2 a3 a4 a5 a6 a7 a8 a9 a10 a11 a12 a13 a14 a15 a16):=by
 intro a0 a1 a2 a3 a4 a5 a6 a7 a8 a9 a10 a11 a12 a13 a14 a15 a16 k
 have ih0:=resync_Correction.mono_l k
 unfold resync_Correction.f
 repeat' first
   | (with_reducible exact ih0 _ _ _ _ _ _ _ _ _ _ _ _ _ _ _ _ _ _)
   | (with_reducible exact midpoint_Of.mono _ _ _)
   | (with_reducible exact resync_values.mono _ _)
   | (with_reducible exact LeO.refl _)
   | (with_reducible exact LeO.none _)
   | (with_reducible refine LeO.ite ?_ ?_)
   | (with_reducible refine LeO.bind ?_ (fun _=>?_))
   | exact ih0 _ _ _ _ _ _ _ _ _ _ _ _ _ _ _ _ _ _
   | exact midpoint_Of.mono _ _ _
   | exact resync_values.mono _ _
   | exact LeO.none _
   | refine LeO.ite ?_ ?_
   | refine LeO.bind ?_ (fun _=>?_)
set_option maxHeartbeats 8000000 in
set_option maxRecDepth 100000 in
theorem resync_Correction.calls (k : Nat) (Qi : Int) (Qg : Int) (Qj : Int) (Qk : Int) (Ql : Int) (Qm : Int) (Qn : Int) (Qo : Int) (Qp : Int) (Qq : Int) (Qa : Int) (Qb : Int) (Qc : Int) (Qd : Int) (Qe : Int) (Qf : Int) (A1 : Option Addr) (c1 : Nat) (l1 : List Int) (r1 : Int) (r2 : Int) (w : World) (hr1 : Kd.C (Kd.int .i64) w A1 l1.length l1) (hc1 : l1.length ≤ c1) (h : resync_Correction.f k Qi Qg Qj Qk Ql Qm Qn Qo Qp Qq Qa Qb Qc Qd Qe Qf l1 = some (r1,r2)) :
  Calls Try.prog 7 #[.agg #[.int .i64 Qi,.int .i64 Qg,.int .i64 Qj,.int .i64 Qk,.int .i64 Ql,.int .i64 Qm,.int .i64 Qn,.int .i64 Qo,.int .i64 Qp,.int .i64 Qq,.int .i64 Qa,.int .i64 Qb,.int .i64 Qc,.int .i64 Qd,.int .i64 Qe,.int .i64 Qf],.slice A1 l1.length c1] w fun e w'=>e = .returned (.tuple #[.int .i64 r1,.int .i64 r2])∧Below w.heap.size w w':=by
 have hu23:=Try.underlying23
 have HR1:=Aside0.mk hr1
 have HC1:=Aside0.mk hc1
 clear hr1 hc1
 have HB:=Aside0.mk (Below.refl w.heap.size w)
 have H : ((plan_Check.f Qi Qg Qj Qk Ql Qm Qn Qo Qp Qq Qa Qb Qc Qd Qe Qf).bind fun QC=>(if QC = 0 then ((resync_values.f k l1).bind fun QG=>(resync_Correction.j0 k l1 (!QG) Qi Qg Qj Qk Ql Qm Qn Qo Qp Qq Qa Qb Qc Qd Qe Qf)) else (resync_Correction.j0 k l1 true Qi Qg Qj Qk Ql Qm Qn Qo Qp Qq Qa Qb Qc Qd Qe Qf))) = some (r1,r2):=h
 clear h
 have HC3:=Aside0.mk H
 clear H
 go_enter Try.func7,Try.ntmps7
 go_upto_region 1 with (first|((with_reducible refine gate_dst (N:=2) rfl ?_);refine box_event ?hg (N:=2) ?hd (cs:=#[.int .i64 Qi,.int .i64 Qg,.int .i64 Qj,.int .i64 Qk,.int .i64 Ql,.int .i64 Qm,.int .i64 Qn,.int .i64 Qo,.int .i64 Qp,.int .i64 Qq,.int .i64 Qa,.int .i64 Qb,.int .i64 Qc,.int .i64 Qd,.int .i64 Qe,.int .i64 Qf]) (t:=23) ?hr ?_;(case hd=>rfl);(case hg=>rfl);(case hr=>first|(go_simp;done)|(go_simp;rfl));intro Qt hg w4 hbox hb;have n0_:=ks_ HB hb;have n1_:=Aside0.mk (hbox);have n2_:=Aside0.mk ((by rw [hg];exact (kz_ HB) : w.heap.size ≤ Qt));have n3_:=Aside0.mk ((by rw [hg];exact (kz_ HB) : w.heap.size ≤ Qt));clear HB;have HB:=n0_;have Qh:=n1_;have GW116:=n2_;have QE:=n3_;clear n0_ n1_ n2_ n3_;clear hb hbox hg))
 (try simp only [Act.put,List.setIfInBounds_toArray,List.set_cons_zero,List.set_cons_succ])
 go_cut [8] (fun v8 wc=>∃ (kq : Nat) (x8_2 : Bool),v8 = .bool x8_2∧Aside0 (resync_Correction.j0 kq l1 x8_2 Qi Qg Qj Qk Ql Qm Qn Qo Qp Qq Qa Qb Qc Qd Qe Qf = some (r1,r2))∧Aside0 (kq ≤ k)∧Aside0 (wc.heap[Qt]? = some (.cells #[.int .i64 Qi,.int .i64 Qg,.int .i64 Qj,.int .i64 Qk,.int .i64 Ql,.int .i64 Qm,.int .i64 Qn,.int .i64 Qo,.int .i64 Qp,.int .i64 Qq,.int .i64 Qa,.int .i64 Qb,.int .i64 Qc,.int .i64 Qd,.int .i64 Qe,.int .i64 Qf] 23 (0,0)))∧Aside0 (Below w.heap.size w wc))
 case first =>
  have H:=HC3.out
  clear HC3
  replace H:=Option.bind_eq_some_iff.mp H
  obtain ⟨QC,A50,H⟩:=H
  replace H : (if QC = 0 then ((resync_values.f k l1).bind fun QG=>(resync_Correction.j0 k l1 (!QG) Qi Qg Qj Qk Ql Qm Qn Qo Qp Qq Qa Qb Qc Qd Qe Qf)) else (resync_Correction.j0 k l1 true Qi Qg Qj Qk Ql Qm Qn Qo Qp Qq Qa Qb Qc Qd Qe Qf)) = some (r1,r2):=H
  have A5:=Aside0.mk A50
  clear A50
  by_cases c6 : QC = 0
  ·rw [if_pos c6] at H
   have c6b0 : (QC == 0) = true:=beq_iff_eq.mpr c6
   have c6b1 : (QC != 0) = false:=bne_eq_false_iff_eq.mpr c6
   clear c6
   (first|rw [c6b0]|(simp only [i64_w,i32_w];rw [c6b0])|skip)
   replace H:=Option.bind_eq_some_iff.mp H
   obtain ⟨QG,A70,H⟩:=H
   replace H : (resync_Correction.j0 k l1 (!QG) Qi Qg Qj Qk Ql Qm Qn Qo Qp Qq Qa Qb Qc Qd Qe Qf) = some (r1,r2):=H
   have A7:=Aside0.mk A70
   clear A70
   have H':=Aside0.mk H
   clear H
   obtain ⟨hcz8_0,hcz8_1,hcz8_2,hcz8_3,hcz8_4,hcz8_5,hcz8_6,hcz8_7,hcz8_8,hcz8_9,hcz8_10,hcz8_11,hcz8_12,hcz8_13,hcz8_14,hcz8_15⟩:=bc16_ (w:=w4) (g:=Qt) (.int .i64 Qi) (.int .i64 Qg) (.int .i64 Qj) (.int .i64 Qk) (.int .i64 Ql) (.int .i64 Qm) (.int .i64 Qn) (.int .i64 Qo) (.int .i64 Qp) (.int .i64 Qq) (.int .i64 Qa) (.int .i64 Qb) (.int .i64 Qc) (.int .i64 Qd) (.int .i64 Qe) (.int .i64 Qf) Qh.out
   obtain ⟨hfz8_0,hfz8_1,hfz8_2,hfz8_3,hfz8_4,hfz8_5,hfz8_6,hfz8_7,hfz8_8,hfz8_9,hfz8_10,hfz8_11,hfz8_12,hfz8_13,hfz8_14,hfz8_15⟩:=bf16_ Qh.out
   go_wp2_with (first|((with_reducible refine gate_callee (f:=16) rfl ?_);refine goesL_ (some 10) rfl rfl Try.func16 (by kernel_rfl) rfl #[.agg #[.int .i64 Qi,.int .i64 Qg,.int .i64 Qj,.int .i64 Qk,.int .i64 Ql,.int .i64 Qm,.int .i64 Qn,.int .i64 Qo,.int .i64 Qp,.int .i64 Qq,.int .i64 Qa,.int .i64 Qb,.int .i64 Qc,.int .i64 Qd,.int .i64 Qe,.int .i64 Qf]] rfl (by (try simp only [List.map_toArray,List.map_cons,List.map_nil]);first|done|rfl|(simp only [List.length_drop,List.length_take];rfl)) ?_;(with_reducible refine (plan_Check.calls Qi Qg Qj Qk Ql Qm Qn Qo Qp Qq Qa Qb Qc Qd Qe Qf QC _ A5.out).mono ?_);rintro e w9 ⟨rfl,hb⟩;refine ⟨_,rfl,?_⟩;have n0_:=kb_ Qh hb;have n1_:=ks_ HB hb;clear Qh;clear HB;have Qh:=n0_;have HB:=n1_;clear n0_ n1_;(try clear hb);(try clear hb2);(try clear hk);(try clear hi))|(go_at_call 19;(with_reducible refine (resync_values.calls k _ _ l1 QG _ ?side1 ?side2 A7.out).mono ?_);(case side1=>repeat (first|exact (Kd.C_below HR1.out HB.out)|(with_reducible refine Kd.C_alloc ?_ _)|(with_reducible refine Kd.C_drewN ?_ _)|(with_reducible refine Kd.C_drew ?_)));(case side2=>exact HC1.out);rintro e w' ⟨rfl,⟨nd,rfl⟩⟩))
   go_meet
   case rel=>exact ⟨_,(!QG),(by first|rfl|(simp;done)|(simp [*];done)),H',⟨by first|omega|exact Nat.le_refl _⟩,⟨by (with_reducible repeat (first|refine blk_drewN ?_ _|refine blk_drew ?_|refine blk_alloc ?_ _));exact Qh.out⟩,⟨by repeat (first|(with_reducible first|exact HB.out|apply below_alloc|apply pw_below_drewN|apply below_drew1|refine below_set ?_ QE.out)|exact HB.out)⟩⟩
  ·rw [if_neg c6] at H
   have c6b0 : (QC == 0) = false:=beq_eq_false_iff_ne.mpr c6
   have c6b1 : (QC != 0) = true:=bne_iff_ne.mpr c6
   (first|rw [c6b0]|(simp only [i64_w,i32_w];rw [c6b0])|skip)
   have H':=Aside0.mk H
   clear H
   obtain ⟨hcz10_0,hcz10_1,hcz10_2,hcz10_3,hcz10_4,hcz10_5,hcz10_6,hcz10_7,hcz10_8,hcz10_9,hcz10_10,hcz10_11,hcz10_12,hcz10_13,hcz10_14,hcz10_15⟩:=bc16_ (w:=w4) (g:=Qt) (.int .i64 Qi) (.int .i64 Qg) (.int .i64 Qj) (.int .i64 Qk) (.int .i64 Ql) (.int .i64 Qm) (.int .i64 Qn) (.int .i64 Qo) (.int .i64 Qp) (.int .i64 Qq) (.int .i64 Qa) (.int .i64 Qb) (.int .i64 Qc) (.int .i64 Qd) (.int .i64 Qe) (.int .i64 Qf) Qh.out
   obtain ⟨hfz10_0,hfz10_1,hfz10_2,hfz10_3,hfz10_4,hfz10_5,hfz10_6,hfz10_7,hfz10_8,hfz10_9,hfz10_10,hfz10_11,hfz10_12,hfz10_13,hfz10_14,hfz10_15⟩:=bf16_ Qh.out
   go_wp2_with (first|((with_reducible refine gate_callee (f:=16) rfl ?_);refine goesL_ (some 10) rfl rfl Try.func16 (by kernel_rfl) rfl #[.agg #[.int .i64 Qi,.int .i64 Qg,.int .i64 Qj,.int .i64 Qk,.int .i64 Ql,.int .i64 Qm,.int .i64 Qn,.int .i64 Qo,.int .i64 Qp,.int .i64 Qq,.int .i64 Qa,.int .i64 Qb,.int .i64 Qc,.int .i64 Qd,.int .i64 Qe,.int .i64 Qf]] rfl (by (try simp only [List.map_toArray,List.map_cons,List.map_nil]);first|done|rfl|(simp only [List.length_drop,List.length_take];rfl)) ?_;(with_reducible refine (plan_Check.calls Qi Qg Qj Qk Ql Qm Qn Qo Qp Qq Qa Qb Qc Qd Qe Qf QC _ A5.out).mono ?_);rintro e w11 ⟨rfl,hb⟩;refine ⟨_,rfl,?_⟩;have n0_:=kb_ Qh hb;have n1_:=ks_ HB hb;clear Qh;clear HB;have Qh:=n0_;have HB:=n1_;clear n0_ n1_;(try clear hb);(try clear hb2);(try clear hk);(try clear hi)))
   go_meet
   case rel=>exact ⟨_,(true),(by first|rfl|(simp;done)|(simp [*];done)),H',⟨by first|omega|exact Nat.le_refl _⟩,⟨by (with_reducible repeat (first|refine blk_drewN ?_ _|refine blk_drew ?_|refine blk_alloc ?_ _));exact Qh.out⟩,⟨by repeat (first|(with_reducible first|exact HB.out|apply below_alloc|apply pw_below_drewN|apply below_drew1|refine below_set ?_ QE.out)|exact HB.out)⟩⟩
 case rest =>
  clear HC3
  try clear c1
  try clear p2
  try clear c6
  try clear c6b0
  try clear c6b1
  try clear c7
  try clear hcz10_0
  try clear hcz10_1
  try clear hcz10_10
  try clear hcz10_11
  try clear hcz10_12
  try clear hcz10_13
  try clear hcz10_14
  try clear hcz10_15
  try clear hcz10_2
  try clear hcz10_3
  try clear hcz10_4
  try clear hcz10_5
  try clear hcz10_6
  try clear hcz10_7
  try clear hcz10_8
  try clear hcz10_9
  try clear hcz8_0
  try clear hcz8_1
  try clear hcz8_10
  try clear hcz8_11
  try clear hcz8_12
  try clear hcz8_13
  try clear hcz8_14
  try clear hcz8_15
  try clear hcz8_2
  try clear hcz8_3
  try clear hcz8_4
  try clear hcz8_5
  try clear hcz8_6
  try clear hcz8_7
  try clear hcz8_8
  try clear hcz8_9
  try clear hfz10_0
  try clear hfz10_1
  try clear hfz10_10
  try clear hfz10_11
  try clear hfz10_12
  try clear hfz10_13
  try clear hfz10_14
  try clear hfz10_15
  try clear hfz10_2
  try clear hfz10_3
  try clear hfz10_4
  try clear hfz10_5
  try clear hfz10_6
  try clear hfz10_7
  try clear hfz10_8
  try clear hfz10_9
  try clear hfz8_0
  try clear hfz8_1
  try clear hfz8_10
  try clear hfz8_11
  try clear hfz8_12
  try clear hfz8_13
  try clear hfz8_14
  try clear hfz8_15
  try clear hfz8_2
  try clear hfz8_3
  try clear hfz8_4
  try clear hfz8_5
  try clear hfz8_6
  try clear hfz8_7
  try clear hfz8_8
  try clear hfz8_9
  obtain ⟨kq,x8_2,rfl,HA,HJ2,Qh,HB⟩:=hcut
  cases kq with
  | zero=>exact absurd HA.out (by simp [resync_Correction.j0])
  | succ kj2 =>
   have H:=HA.out
   clear HA
   simp only [resync_Correction.j0] at H
   by_cases c12 : x8_2 = true
   ·subst c12
    have H1 : (some (0,150)) = some (r1,r2):=by rw [if_pos rfl] at H;exact H
    clear H
    have H:=H1
    clear H1
    simp only [Option.some.injEq,Prod.mk.injEq] at H
    obtain ⟨rfl,rfl⟩:=H
    go_wp2
    go_ret2
    exact ⟨by first|rfl|(simp [errW_none,errW_some] <;> rfl)|(simp [*,errW_none,errW_some] <;> rfl),by repeat (first|(with_reducible first|exact HB.out|apply below_alloc|apply pw_below_drewN|apply below_drew1|refine below_set ?_ QE.out)|exact HB.out)⟩
   ·replace c12:=Bool.eq_false_iff.mpr c12
    subst c12
    have H1 : ((resync_Enough.f Qi Qg Qj Qk Ql Qm Qn Qo Qp Qq Qa Qb Qc Qd Qe Qf (l1.length : Int)).bind fun t119=>(if t119 = true then ((midpoint_Of.f kj2 l1 Qg).bind fun Qr=>(if Qr.2 = 0 then (if (mx Qr.1 (wrap64 (-Qr.1))) > Qa then (some (0,151)) else (some (wrap64 (-Qr.1),0))) else (some (0,150)))) else (some (0,0)))) = some (r1,r2):=by rw [if_neg (show ¬ (false = true) by decide)] at H;exact H
    clear H
    have H:=H1
    clear H1
    replace H:=Option.bind_eq_some_iff.mp H
    obtain ⟨t119,A130,H⟩:=H
    replace H : (if t119 = true then ((midpoint_Of.f kj2 l1 Qg).bind fun Qr=>(if Qr.2 = 0 then (if (mx Qr.1 (wrap64 (-Qr.1))) > Qa then (some (0,151)) else (some (wrap64 (-Qr.1),0))) else (some (0,150)))) else (some (0,0))) = some (r1,r2):=H
    have A13:=Aside0.mk A130
    clear A130
    by_cases c14 : t119 = true
    ·subst c14
     have H1 : ((midpoint_Of.f kj2 l1 Qg).bind fun Qr=>(if Qr.2 = 0 then (if (mx Qr.1 (wrap64 (-Qr.1))) > Qa then (some (0,151)) else (some (wrap64 (-Qr.1),0))) else (some (0,150)))) = some (r1,r2):=by rw [if_pos rfl] at H;exact H
     clear H
     have H:=H1
     clear H1
     replace H:=Option.bind_eq_some_iff.mp H
     obtain ⟨⟨Qy,QH⟩,A150,H⟩:=H
     replace H : (if QH = 0 then (if (mx Qy (wrap64 (-Qy))) > Qa then (some (0,151)) else (some (wrap64 (-Qy),0))) else (some (0,150))) = some (r1,r2):=H
     have A15:=Aside0.mk A150
     clear A150
     by_cases c16 : QH = 0
     ·rw [if_pos c16] at H
      have c16b0 : (QH == 0) = true:=beq_iff_eq.mpr c16
      have c16b1 : (QH != 0) = false:=bne_eq_false_iff_eq.mpr c16
      clear c16
      obtain ⟨ji17,hji17⟩ : ∃ j_ : Int,(mx Qy (wrap64 (-Qy))) = j_:=⟨_,rfl⟩
      replace H : (if (ji17) > Qa then (some (0,151)) else (some (wrap64 (-Qy),0))) = some (r1,r2):=by first|(rw [hji17] at H;exact H)|(simp only [hji17] at H ⊢;exact H)
      (try rw [hji17] at A13)
      (try rw [hji17] at A15)
      have hji17_ : (if Qy < (wrap64 (-Qy)) then (wrap64 (-Qy)) else Qy) = ji17:=hji17
      by_cases c18 : (ji17) > Qa
      ·rw [if_pos c18] at H
       have c18b0 : decide (Qa < (ji17)) = true:=decide_eq_true c18
       clear c18
       simp only [Option.some.injEq,Prod.mk.injEq] at H
       obtain ⟨rfl,rfl⟩:=H
       obtain ⟨hcz19_0,hcz19_1,hcz19_2,hcz19_3,hcz19_4,hcz19_5,hcz19_6,hcz19_7,hcz19_8,hcz19_9,hcz19_10,hcz19_11,hcz19_12,hcz19_13,hcz19_14,hcz19_15⟩:=bc16_ (w:=wc) (g:=Qt) (.int .i64 Qi) (.int .i64 Qg) (.int .i64 Qj) (.int .i64 Qk) (.int .i64 Ql) (.int .i64 Qm) (.int .i64 Qn) (.int .i64 Qo) (.int .i64 Qp) (.int .i64 Qq) (.int .i64 Qa) (.int .i64 Qb) (.int .i64 Qc) (.int .i64 Qd) (.int .i64 Qe) (.int .i64 Qf) Qh.out
       obtain ⟨hfz19_0,hfz19_1,hfz19_2,hfz19_3,hfz19_4,hfz19_5,hfz19_6,hfz19_7,hfz19_8,hfz19_9,hfz19_10,hfz19_11,hfz19_12,hfz19_13,hfz19_14,hfz19_15⟩:=bf16_ Qh.out
       go_wp2_with (first|((with_reducible refine gate_callee (f:=14) rfl ?_);refine goesL_ (some 21) rfl rfl Try.func14 (by kernel_rfl) rfl #[.agg #[.int .i64 Qi,.int .i64 Qg,.int .i64 Qj,.int .i64 Qk,.int .i64 Ql,.int .i64 Qm,.int .i64 Qn,.int .i64 Qo,.int .i64 Qp,.int .i64 Qq,.int .i64 Qa,.int .i64 Qb,.int .i64 Qc,.int .i64 Qd,.int .i64 Qe,.int .i64 Qf],.int .i64 (l1.length : Int)] rfl (by (try simp only [List.map_toArray,List.map_cons,List.map_nil]);first|done|rfl|(simp only [List.length_drop,List.length_take];rfl)) ?_;(with_reducible refine (resync_Enough.calls Qi Qg Qj Qk Ql Qm Qn Qo Qp Qq Qa Qb Qc Qd Qe Qf (l1.length : Int) true _ A13.out).mono ?_);rintro e w20 ⟨rfl,hb⟩;refine ⟨_,rfl,?_⟩;have n0_:=kb_ Qh hb;have n1_:=ks_ HB hb;clear Qh;clear HB;have Qh:=n0_;have HB:=n1_;clear n0_ n1_;(try clear hb);(try clear hb2);(try clear hk);(try clear hi);obtain ⟨hcz21_0,hcz21_1,hcz21_2,hcz21_3,hcz21_4,hcz21_5,hcz21_6,hcz21_7,hcz21_8,hcz21_9,hcz21_10,hcz21_11,hcz21_12,hcz21_13,hcz21_14,hcz21_15⟩:=bc16_ (w:=w20) (g:=Qt) (.int .i64 Qi) (.int .i64 Qg) (.int .i64 Qj) (.int .i64 Qk) (.int .i64 Ql) (.int .i64 Qm) (.int .i64 Qn) (.int .i64 Qo) (.int .i64 Qp) (.int .i64 Qq) (.int .i64 Qa) (.int .i64 Qb) (.int .i64 Qc) (.int .i64 Qd) (.int .i64 Qe) (.int .i64 Qf) Qh.out;obtain ⟨hfz21_0,hfz21_1,hfz21_2,hfz21_3,hfz21_4,hfz21_5,hfz21_6,hfz21_7,hfz21_8,hfz21_9,hfz21_10,hfz21_11,hfz21_12,hfz21_13,hfz21_14,hfz21_15⟩:=bf16_ Qh.out)|((with_reducible refine gate_callee (f:=20) rfl ?_);refine goesL_ (some 27) rfl rfl Try.func20 (by kernel_rfl) rfl #[.slice A1 l1.length c1,.int .i64 Qg] rfl (by (try simp only [List.map_toArray,List.map_cons,List.map_nil]);first|done|rfl|(simp only [List.length_drop,List.length_take];rfl)) ?_;(with_reducible refine (midpoint_Of.calls kj2 _ _ l1 Qg Qy QH _ ?side1 ?side2 A15.out).mono ?_);(case side1=>repeat (first|exact (Kd.C_below HR1.out HB.out)|(with_reducible refine Kd.C_alloc ?_ _)|(with_reducible refine Kd.C_drewN ?_ _)|(with_reducible refine Kd.C_drew ?_)));(case side2=>exact HC1.out);rintro e w22 ⟨rfl,hb⟩;refine ⟨_,rfl,?_⟩;have n0_:=kb_ Qh hb;have n1_:=ks_ HB hb;clear Qh;clear HB;have Qh:=n0_;have HB:=n1_;clear n0_ n1_;(try clear hb);(try clear hb2);(try clear hk);(try clear hi);obtain ⟨hcz23_0,hcz23_1,hcz23_2,hcz23_3,hcz23_4,hcz23_5,hcz23_6,hcz23_7,hcz23_8,hcz23_9,hcz23_10,hcz23_11,hcz23_12,hcz23_13,hcz23_14,hcz23_15⟩:=bc16_ (w:=w22) (g:=Qt) (.int .i64 Qi) (.int .i64 Qg) (.int .i64 Qj) (.int .i64 Qk) (.int .i64 Ql) (.int .i64 Qm) (.int .i64 Qn) (.int .i64 Qo) (.int .i64 Qp) (.int .i64 Qq) (.int .i64 Qa) (.int .i64 Qb) (.int .i64 Qc) (.int .i64 Qd) (.int .i64 Qe) (.int .i64 Qf) Qh.out;obtain ⟨hfz23_0,hfz23_1,hfz23_2,hfz23_3,hfz23_4,hfz23_5,hfz23_6,hfz23_7,hfz23_8,hfz23_9,hfz23_10,hfz23_11,hfz23_12,hfz23_13,hfz23_14,hfz23_15⟩:=bf16_ Qh.out))
       go_ret2
       exact ⟨by first|rfl|(simp [errW_none,errW_some] <;> rfl)|(simp only [← hji17];first|rfl|(simp [errW_none,errW_some] <;> rfl))|(simp [*,errW_none,errW_some] <;> rfl),by repeat (first|(with_reducible first|exact HB.out|apply below_alloc|apply pw_below_drewN|apply below_drew1|refine below_set ?_ QE.out)|exact HB.out)⟩
      ·rw [if_neg c18] at H
       have c18b0 : decide (Qa < (ji17)) = false:=decide_eq_false c18
       clear c18
       simp only [Option.some.injEq,Prod.mk.injEq] at H
       obtain ⟨rfl,rfl⟩:=H
       obtain ⟨hcz24_0,hcz24_1,hcz24_2,hcz24_3,hcz24_4,hcz24_5,hcz24_6,hcz24_7,hcz24_8,hcz24_9,hcz24_10,hcz24_11,hcz24_12,hcz24_13,hcz24_14,hcz24_15⟩:=bc16_ (w:=wc) (g:=Qt) (.int .i64 Qi) (.int .i64 Qg) (.int .i64 Qj) (.int .i64 Qk) (.int .i64 Ql) (.int .i64 Qm) (.int .i64 Qn) (.int .i64 Qo) (.int .i64 Qp) (.int .i64 Qq) (.int .i64 Qa) (.int .i64 Qb) (.int .i64 Qc) (.int .i64 Qd) (.int .i64 Qe) (.int .i64 Qf) Qh.out
       obtain ⟨hfz24_0,hfz24_1,hfz24_2,hfz24_3,hfz24_4,hfz24_5,hfz24_6,hfz24_7,hfz24_8,hfz24_9,hfz24_10,hfz24_11,hfz24_12,hfz24_13,hfz24_14,hfz24_15⟩:=bf16_ Qh.out
       go_wp2_with (first|((with_reducible refine gate_callee (f:=14) rfl ?_);refine goesL_ (some 21) rfl rfl Try.func14 (by kernel_rfl) rfl #[.agg #[.int .i64 Qi,.int .i64 Qg,.int .i64 Qj,.int .i64 Qk,.int .i64 Ql,.int .i64 Qm,.int .i64 Qn,.int .i64 Qo,.int .i64 Qp,.int .i64 Qq,.int .i64 Qa,.int .i64 Qb,.int .i64 Qc,.int .i64 Qd,.int .i64 Qe,.int .i64 Qf],.int .i64 (l1.length : Int)] rfl (by (try simp only [List.map_toArray,List.map_cons,List.map_nil]);first|done|rfl|(simp only [List.length_drop,List.length_take];rfl)) ?_;(with_reducible refine (resync_Enough.calls Qi Qg Qj Qk Ql Qm Qn Qo Qp Qq Qa Qb Qc Qd Qe Qf (l1.length : Int) true _ A13.out).mono ?_);rintro e w25 ⟨rfl,hb⟩;refine ⟨_,rfl,?_⟩;have n0_:=kb_ Qh hb;have n1_:=ks_ HB hb;clear Qh;clear HB;have Qh:=n0_;have HB:=n1_;clear n0_ n1_;(try clear hb);(try clear hb2);(try clear hk);(try clear hi);obtain ⟨hcz26_0,hcz26_1,hcz26_2,hcz26_3,hcz26_4,hcz26_5,hcz26_6,hcz26_7,hcz26_8,hcz26_9,hcz26_10,hcz26_11,hcz26_12,hcz26_13,hcz26_14,hcz26_15⟩:=bc16_ (w:=w25) (g:=Qt) (.int .i64 Qi) (.int .i64 Qg) (.int .i64 Qj) (.int .i64 Qk) (.int .i64 Ql) (.int .i64 Qm) (.int .i64 Qn) (.int .i64 Qo) (.int .i64 Qp) (.int .i64 Qq) (.int .i64 Qa) (.int .i64 Qb) (.int .i64 Qc) (.int .i64 Qd) (.int .i64 Qe) (.int .i64 Qf) Qh.out;obtain ⟨hfz26_0,hfz26_1,hfz26_2,hfz26_3,hfz26_4,hfz26_5,hfz26_6,hfz26_7,hfz26_8,hfz26_9,hfz26_10,hfz26_11,hfz26_12,hfz26_13,hfz26_14,hfz26_15⟩:=bf16_ Qh.out)|((with_reducible refine gate_callee (f:=20) rfl ?_);refine goesL_ (some 27) rfl rfl Try.func20 (by kernel_rfl) rfl #[.slice A1 l1.length c1,.int .i64 Qg] rfl (by (try simp only [List.map_toArray,List.map_cons,List.map_nil]);first|done|rfl|(simp only [List.length_drop,List.length_take];rfl)) ?_;(with_reducible refine (midpoint_Of.calls kj2 _ _ l1 Qg Qy QH _ ?side1 ?side2 A15.out).mono ?_);(case side1=>repeat (first|exact (Kd.C_below HR1.out HB.out)|(with_reducible refine Kd.C_alloc ?_ _)|(with_reducible refine Kd.C_drewN ?_ _)|(with_reducible refine Kd.C_drew ?_)));(case side2=>exact HC1.out);rintro e w27 ⟨rfl,hb⟩;refine ⟨_,rfl,?_⟩;have n0_:=kb_ Qh hb;have n1_:=ks_ HB hb;clear Qh;clear HB;have Qh:=n0_;have HB:=n1_;clear n0_ n1_;(try clear hb);(try clear hb2);(try clear hk);(try clear hi);obtain ⟨hcz28_0,hcz28_1,hcz28_2,hcz28_3,hcz28_4,hcz28_5,hcz28_6,hcz28_7,hcz28_8,hcz28_9,hcz28_10,hcz28_11,hcz28_12,hcz28_13,hcz28_14,hcz28_15⟩:=bc16_ (w:=w27) (g:=Qt) (.int .i64 Qi) (.int .i64 Qg) (.int .i64 Qj) (.int .i64 Qk) (.int .i64 Ql) (.int .i64 Qm) (.int .i64 Qn) (.int .i64 Qo) (.int .i64 Qp) (.int .i64 Qq) (.int .i64 Qa) (.int .i64 Qb) (.int .i64 Qc) (.int .i64 Qd) (.int .i64 Qe) (.int .i64 Qf) Qh.out;obtain ⟨hfz28_0,hfz28_1,hfz28_2,hfz28_3,hfz28_4,hfz28_5,hfz28_6,hfz28_7,hfz28_8,hfz28_9,hfz28_10,hfz28_11,hfz28_12,hfz28_13,hfz28_14,hfz28_15⟩:=bf16_ Qh.out))
       go_ret2
       exact ⟨by first|rfl|(simp [errW_none,errW_some] <;> rfl)|(simp only [← hji17];first|rfl|(simp [errW_none,errW_some] <;> rfl))|(simp [*,errW_none,errW_some] <;> rfl),by repeat (first|(with_reducible first|exact HB.out|apply below_alloc|apply pw_below_drewN|apply below_drew1|refine below_set ?_ QE.out)|exact HB.out)⟩
     ·rw [if_neg c16] at H
      have c16b0 : (QH == 0) = false:=beq_eq_false_iff_ne.mpr c16
      have c16b1 : (QH != 0) = true:=bne_iff_ne.mpr c16
      simp only [Option.some.injEq,Prod.mk.injEq] at H
      obtain ⟨rfl,rfl⟩:=H
      obtain ⟨hcz29_0,hcz29_1,hcz29_2,hcz29_3,hcz29_4,hcz29_5,hcz29_6,hcz29_7,hcz29_8,hcz29_9,hcz29_10,hcz29_11,hcz29_12,hcz29_13,hcz29_14,hcz29_15⟩:=bc16_ (w:=wc) (g:=Qt) (.int .i64 Qi) (.int .i64 Qg) (.int .i64 Qj) (.int .i64 Qk) (.int .i64 Ql) (.int .i64 Qm) (.int .i64 Qn) (.int .i64 Qo) (.int .i64 Qp) (.int .i64 Qq) (.int .i64 Qa) (.int .i64 Qb) (.int .i64 Qc) (.int .i64 Qd) (.int .i64 Qe) (.int .i64 Qf) Qh.out
      obtain ⟨hfz29_0,hfz29_1,hfz29_2,hfz29_3,hfz29_4,hfz29_5,hfz29_6,hfz29_7,hfz29_8,hfz29_9,hfz29_10,hfz29_11,hfz29_12,hfz29_13,hfz29_14,hfz29_15⟩:=bf16_ Qh.out
      go_wp2_with (first|((with_reducible refine gate_callee (f:=14) rfl ?_);refine goesL_ (some 21) rfl rfl Try.func14 (by kernel_rfl) rfl #[.agg #[.int .i64 Qi,.int .i64 Qg,.int .i64 Qj,.int .i64 Qk,.int .i64 Ql,.int .i64 Qm,.int .i64 Qn,.int .i64 Qo,.int .i64 Qp,.int .i64 Qq,.int .i64 Qa,.int .i64 Qb,.int .i64 Qc,.int .i64 Qd,.int .i64 Qe,.int .i64 Qf],.int .i64 (l1.length : Int)] rfl (by (try simp only [List.map_toArray,List.map_cons,List.map_nil]);first|done|rfl|(simp only [List.length_drop,List.length_take];rfl)) ?_;(with_reducible refine (resync_Enough.calls Qi Qg Qj Qk Ql Qm Qn Qo Qp Qq Qa Qb Qc Qd Qe Qf (l1.length : Int) true _ A13.out).mono ?_);rintro e w30 ⟨rfl,hb⟩;refine ⟨_,rfl,?_⟩;have n0_:=kb_ Qh hb;have n1_:=ks_ HB hb;clear Qh;clear HB;have Qh:=n0_;have HB:=n1_;clear n0_ n1_;(try clear hb);(try clear hb2);(try clear hk);(try clear hi);obtain ⟨hcz31_0,hcz31_1,hcz31_2,hcz31_3,hcz31_4,hcz31_5,hcz31_6,hcz31_7,hcz31_8,hcz31_9,hcz31_10,hcz31_11,hcz31_12,hcz31_13,hcz31_14,hcz31_15⟩:=bc16_ (w:=w30) (g:=Qt) (.int .i64 Qi) (.int .i64 Qg) (.int .i64 Qj) (.int .i64 Qk) (.int .i64 Ql) (.int .i64 Qm) (.int .i64 Qn) (.int .i64 Qo) (.int .i64 Qp) (.int .i64 Qq) (.int .i64 Qa) (.int .i64 Qb) (.int .i64 Qc) (.int .i64 Qd) (.int .i64 Qe) (.int .i64 Qf) Qh.out;obtain ⟨hfz31_0,hfz31_1,hfz31_2,hfz31_3,hfz31_4,hfz31_5,hfz31_6,hfz31_7,hfz31_8,hfz31_9,hfz31_10,hfz31_11,hfz31_12,hfz31_13,hfz31_14,hfz31_15⟩:=bf16_ Qh.out)|((with_reducible refine gate_callee (f:=20) rfl ?_);refine goesL_ (some 27) rfl rfl Try.func20 (by kernel_rfl) rfl #[.slice A1 l1.length c1,.int .i64 Qg] rfl (by (try simp only [List.map_toArray,List.map_cons,List.map_nil]);first|done|rfl|(simp only [List.length_drop,List.length_take];rfl)) ?_;(with_reducible refine (midpoint_Of.calls kj2 _ _ l1 Qg Qy QH _ ?side1 ?side2 A15.out).mono ?_);(case side1=>repeat (first|exact (Kd.C_below HR1.out HB.out)|(with_reducible refine Kd.C_alloc ?_ _)|(with_reducible refine Kd.C_drewN ?_ _)|(with_reducible refine Kd.C_drew ?_)));(case side2=>exact HC1.out);rintro e w32 ⟨rfl,hb⟩;refine ⟨_,rfl,?_⟩;have n0_:=kb_ Qh hb;have n1_:=ks_ HB hb;clear Qh;clear HB;have Qh:=n0_;have HB:=n1_;clear n0_ n1_;(try clear hb);(try clear hb2);(try clear hk);(try clear hi)))
      go_ret2
      exact ⟨by first|rfl|(simp [errW_none,errW_some] <;> rfl)|(simp [*,errW_none,errW_some] <;> rfl),by repeat (first|(with_reducible first|exact HB.out|apply below_alloc|apply pw_below_drewN|apply below_drew1|refine below_set ?_ QE.out)|exact HB.out)⟩
    ·replace c14:=Bool.eq_false_iff.mpr c14
     subst c14
     have H1 : (some (0,0)) = some (r1,r2):=by rw [if_neg (show ¬ (false = true) by decide)] at H;exact H
     clear H
     have H:=H1
     clear H1
     simp only [Option.some.injEq,Prod.mk.injEq] at H
     obtain ⟨rfl,rfl⟩:=H
     obtain ⟨hcz33_0,hcz33_1,hcz33_2,hcz33_3,hcz33_4,hcz33_5,hcz33_6,hcz33_7,hcz33_8,hcz33_9,hcz33_10,hcz33_11,hcz33_12,hcz33_13,hcz33_14,hcz33_15⟩:=bc16_ (w:=wc) (g:=Qt) (.int .i64 Qi) (.int .i64 Qg) (.int .i64 Qj) (.int .i64 Qk) (.int .i64 Ql) (.int .i64 Qm) (.int .i64 Qn) (.int .i64 Qo) (.int .i64 Qp) (.int .i64 Qq) (.int .i64 Qa) (.int .i64 Qb) (.int .i64 Qc) (.int .i64 Qd) (.int .i64 Qe) (.int .i64 Qf) Qh.out
     obtain ⟨hfz33_0,hfz33_1,hfz33_2,hfz33_3,hfz33_4,hfz33_5,hfz33_6,hfz33_7,hfz33_8,hfz33_9,hfz33_10,hfz33_11,hfz33_12,hfz33_13,hfz33_14,hfz33_15⟩:=bf16_ Qh.out
     go_wp2_with (first|((with_reducible refine gate_callee (f:=14) rfl ?_);refine goesL_ (some 21) rfl rfl Try.func14 (by kernel_rfl) rfl #[.agg #[.int .i64 Qi,.int .i64 Qg,.int .i64 Qj,.int .i64 Qk,.int .i64 Ql,.int .i64 Qm,.int .i64 Qn,.int .i64 Qo,.int .i64 Qp,.int .i64 Qq,.int .i64 Qa,.int .i64 Qb,.int .i64 Qc,.int .i64 Qd,.int .i64 Qe,.int .i64 Qf],.int .i64 (l1.length : Int)] rfl (by (try simp only [List.map_toArray,List.map_cons,List.map_nil]);first|done|rfl|(simp only [List.length_drop,List.length_take];rfl)) ?_;(with_reducible refine (resync_Enough.calls Qi Qg Qj Qk Ql Qm Qn Qo Qp Qq Qa Qb Qc Qd Qe Qf (l1.length : Int) false _ A13.out).mono ?_);rintro e w34 ⟨rfl,hb⟩;refine ⟨_,rfl,?_⟩;have n0_:=kb_ Qh hb;have n1_:=ks_ HB hb;clear Qh;clear HB;have Qh:=n0_;have HB:=n1_;clear n0_ n1_;(try clear hb);(try clear hb2);(try clear hk);(try clear hi)))
     go_ret2
     exact ⟨by first|rfl|(simp [errW_none,errW_some] <;> rfl)|(simp [*,errW_none,errW_some] <;> rfl),by repeat (first|(with_reducible first|exact HB.out|apply below_alloc|apply pw_below_drewN|apply below_drew1|refine below_set ?_ QE.out)|exact HB.out)⟩

-- BY HAND: function 22 (resync_may)

end Go.Proofs.Ytnmephdamgofnaa.PB
