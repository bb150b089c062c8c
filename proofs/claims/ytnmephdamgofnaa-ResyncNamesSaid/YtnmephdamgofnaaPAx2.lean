/- Written by a program of this session (wip/jprint.py, over the printer of the kit): functions that a law comes to, as plain Lean functions, and walks; Lean checks it. -/
import Derived.Test.YtnmephdamgofnaaPAx0
namespace Go.Proofs.Ytnmephdamgofnaa.PA
open Go.RowKit Go.Proofs.YtnmephdamgofnaaW.PrintWords Go.Proofs.YtnmephdamgofnaaW.PrintLast Go.Proofs.YtnmephdamgofnaaW.PrintMore
attribute [local go_sem] max2_int min2_int max_two min_two max_three min_three max_four min_four   -- for this text's walks alone
set_option linter.unusedVariables false
set_option linter.unusedSimpArgs false

/-! ### plan_in: function 55 -/
def plan_in.f (a0 : Int) (a1 : Int) (a2 : Int) : Option (Bool):=if a0 ≥ a1 then (some (decide (a0 ≤ a2))) else (some false)
set_option maxHeartbeats 8000000 in
set_option maxRecDepth 100000 in
theorem plan_in.calls (a0 : Int) (a1 : Int) (a2 : Int) (r : Bool) (w : World) (h : plan_in.f a0 a1 a2 = some r) :
  Calls Try.prog 55 #[.int .i64 a0,.int .i64 a1,.int .i64 a2] w fun e w'=>e = .returned (.bool r)∧Drawn0 w w':=by
 have H : (if a0 ≥ a1 then (some (decide (a0 ≤ a2))) else (some false)) = some r:=h
 clear h
 by_cases c4 : a0 ≥ a1
 ·rw [if_pos c4] at H
  have c4b0 : decide (a1 ≤ a0) = true:=decide_eq_true c4
  clear c4
  obtain rfl:=Option.some.inj H
  go_enter Try.func55,Try.ntmps55
  go_wp2
  go_ret
  exact ⟨by first|rfl|(simp;done)|(simp [*];done),by repeat (first|exact Drawn0.refl _|apply Drawn0.step)⟩
 ·rw [if_neg c4] at H
  have c4b0 : decide (a1 ≤ a0) = false:=decide_eq_false c4
  clear c4
  obtain rfl:=Option.some.inj H
  go_enter Try.func55,Try.ntmps55
  go_wp2
  go_ret
  exact ⟨by first|rfl|(simp;done)|(simp [*];done),by repeat (first|exact Drawn0.refl _|apply Drawn0.step)⟩

/-! ### plan_look_nodes: function 45 -/
def plan_look_nodes.f (Qi : Int) (Qn : Int) (Qj : Int) (Qp : Int) (Qq : Int) (Qk : Int) (Qg : Int) (Qm : Int) (Qh : Int) (Ql : Int) (Qa : Int) (Qb : Int) (Qc : Int) (Qd : Int) (Qe : Int) (Qf : Int) : Option (Bool):=(plan_in.f Qi 4 16).bind fun t102=>(if t102 = true then ((plan_in.f Qn 0 (wrap64 (Int.tdiv (wrap64 (Qi - 2)) 2))).bind fun QE=>(some QE)) else (some false))
set_option maxHeartbeats 8000000 in
set_option maxRecDepth 100000 in
theorem plan_look_nodes.calls (Qi : Int) (Qn : Int) (Qj : Int) (Qp : Int) (Qq : Int) (Qk : Int) (Qg : Int) (Qm : Int) (Qh : Int) (Ql : Int) (Qa : Int) (Qb : Int) (Qc : Int) (Qd : Int) (Qe : Int) (Qf : Int) (r : Bool) (w : World) (h : plan_look_nodes.f Qi Qn Qj Qp Qq Qk Qg Qm Qh Ql Qa Qb Qc Qd Qe Qf = some r) :
  Calls Try.prog 45 #[.agg #[.int .i64 Qi,.int .i64 Qn,.int .i64 Qj,.int .i64 Qp,.int .i64 Qq,.int .i64 Qk,.int .i64 Qg,.int .i64 Qm,.int .i64 Qh,.int .i64 Ql,.int .i64 Qa,.int .i64 Qb,.int .i64 Qc,.int .i64 Qd,.int .i64 Qe,.int .i64 Qf]] w fun e w'=>e = .returned (.bool r)∧Below w.heap.size w w':=by
 have hu72:=Try.underlying72
 have HB:=Aside0.mk (Below.refl w.heap.size w)
 have H : ((plan_in.f Qi 4 16).bind fun t102=>(if t102 = true then ((plan_in.f Qn 0 (wrap64 (Int.tdiv (wrap64 (Qi - 2)) 2))).bind fun QE=>(some QE)) else (some false))) = some r:=h
 clear h
 replace H:=Option.bind_eq_some_iff.mp H
 obtain ⟨t102,A20,H⟩:=H
 replace H : (if t102 = true then ((plan_in.f Qn 0 (wrap64 (Int.tdiv (wrap64 (Qi - 2)) 2))).bind fun QE=>(some QE)) else (some false)) = some r:=H
 have A2:=Aside0.mk A20
 clear A20
 by_cases c3 : t102 = true
 ·subst c3
  have H1 : ((plan_in.f Qn 0 (wrap64 (Int.tdiv (wrap64 (Qi - 2)) 2))).bind fun QE=>(some QE)) = some r:=by rw [if_pos rfl] at H;exact H
  clear H
  have H:=H1
  clear H1
  replace H:=Option.bind_eq_some_iff.mp H
  obtain ⟨QE,A40,H⟩:=H
  replace H : (some QE) = some r:=H
  have A4:=Aside0.mk A40
  clear A40
  obtain rfl:=Option.some.inj H
  go_enter Try.func45,Try.ntmps45
  go_wp2_with (first|((with_reducible refine gate_dst (N:=1) rfl ?_);refine box_event ?hg (N:=1) ?hd (cs:=#[.int .i64 Qi,.int .i64 Qn,.int .i64 Qj,.int .i64 Qp,.int .i64 Qq,.int .i64 Qk,.int .i64 Qg,.int .i64 Qm,.int .i64 Qh,.int .i64 Ql,.int .i64 Qa,.int .i64 Qb,.int .i64 Qc,.int .i64 Qd,.int .i64 Qe,.int .i64 Qf]) (t:=72) ?hr ?_;(case hd=>rfl);(case hg=>rfl);(case hr=>first|(go_simp;done)|(go_simp;rfl));intro QC hg w5 hbox hb;have n0_:=Aside0.mk (below_step (by repeat (first|(with_reducible first|exact HB.out|apply below_alloc|apply pw_below_drewN|apply below_drew1)|exact HB.out)) hb);have n1_:=Aside0.mk (hbox);have n2_:=Aside0.mk ((by rw [hg];exact (below_size (by repeat (first|(with_reducible first|exact HB.out|apply below_alloc|apply pw_below_drewN|apply below_drew1)|exact HB.out))) : w.heap.size ≤ QC));have n3_:=Aside0.mk ((by rw [hg];exact (below_size (by repeat (first|(with_reducible first|exact HB.out|apply below_alloc|apply pw_below_drewN|apply below_drew1)|exact HB.out))) : w.heap.size ≤ QC));clear HB;have HB:=n0_;have BK101:=n1_;have GW101:=n2_;have GE101:=n3_;clear n0_ n1_ n2_ n3_;clear hb hbox hg;obtain ⟨hcz6_0,hcz6_1,hcz6_2,hcz6_3,hcz6_4,hcz6_5,hcz6_6,hcz6_7,hcz6_8,hcz6_9,hcz6_10,hcz6_11,hcz6_12,hcz6_13,hcz6_14,hcz6_15⟩:=bc16_ (w:=w5) (g:=QC) (.int .i64 Qi) (.int .i64 Qn) (.int .i64 Qj) (.int .i64 Qp) (.int .i64 Qq) (.int .i64 Qk) (.int .i64 Qg) (.int .i64 Qm) (.int .i64 Qh) (.int .i64 Ql) (.int .i64 Qa) (.int .i64 Qb) (.int .i64 Qc) (.int .i64 Qd) (.int .i64 Qe) (.int .i64 Qf) BK101.out;obtain ⟨hfz6_0,hfz6_1,hfz6_2,hfz6_3,hfz6_4,hfz6_5,hfz6_6,hfz6_7,hfz6_8,hfz6_9,hfz6_10,hfz6_11,hfz6_12,hfz6_13,hfz6_14,hfz6_15⟩:=bf16_ BK101.out)|((with_reducible refine gate_callee (f:=55) rfl ?_);refine goesL_ (some 6) rfl rfl Try.func55 (by kernel_rfl) rfl #[.int .i64 Qi,.int .i64 4,.int .i64 16] rfl (by (try simp only [List.map_toArray,List.map_cons,List.map_nil]);first|done|rfl|(simp only [List.length_drop,List.length_take];rfl)) ?_;(with_reducible refine (plan_in.calls Qi 4 16 true _ A2.out).mono ?_);rintro e w' ⟨rfl,⟨nd,rfl⟩⟩;refine ⟨_,rfl,?_⟩)|(go_at_call 55;(with_reducible refine (plan_in.calls Qn 0 (wrap64 (Int.tdiv (wrap64 (Qi - 2)) 2)) QE _ A4.out).mono ?_);rintro e w' ⟨rfl,⟨nd,rfl⟩⟩))
  go_ret
  exact ⟨by first|rfl|(simp [errW_none,errW_some] <;> rfl)|(simp [*,errW_none,errW_some] <;> rfl),by repeat (first|(with_reducible first|exact HB.out|apply below_alloc|apply pw_below_drewN|apply below_drew1|refine below_set ?_ GE101.out)|exact HB.out)⟩
 ·replace c3:=Bool.eq_false_iff.mpr c3
  subst c3
  have H1 : (some false) = some r:=by rw [if_neg (show ¬ (false = true) by decide)] at H;exact H
  clear H
  have H:=H1
  clear H1
  obtain rfl:=Option.some.inj H
  go_enter Try.func45,Try.ntmps45
  go_wp2_with (first|((with_reducible refine gate_dst (N:=1) rfl ?_);refine box_event ?hg (N:=1) ?hd (cs:=#[.int .i64 Qi,.int .i64 Qn,.int .i64 Qj,.int .i64 Qp,.int .i64 Qq,.int .i64 Qk,.int .i64 Qg,.int .i64 Qm,.int .i64 Qh,.int .i64 Ql,.int .i64 Qa,.int .i64 Qb,.int .i64 Qc,.int .i64 Qd,.int .i64 Qe,.int .i64 Qf]) (t:=72) ?hr ?_;(case hd=>rfl);(case hg=>rfl);(case hr=>first|(go_simp;done)|(go_simp;rfl));intro QC hg w7 hbox hb;have n0_:=Aside0.mk (below_step (by repeat (first|(with_reducible first|exact HB.out|apply below_alloc|apply pw_below_drewN|apply below_drew1)|exact HB.out)) hb);have n1_:=Aside0.mk (hbox);have n2_:=Aside0.mk ((by rw [hg];exact (below_size (by repeat (first|(with_reducible first|exact HB.out|apply below_alloc|apply pw_below_drewN|apply below_drew1)|exact HB.out))) : w.heap.size ≤ QC));have n3_:=Aside0.mk ((by rw [hg];exact (below_size (by repeat (first|(with_reducible first|exact HB.out|apply below_alloc|apply pw_below_drewN|apply below_drew1)|exact HB.out))) : w.heap.size ≤ QC));clear HB;have HB:=n0_;have BK101:=n1_;have GW101:=n2_;have GE101:=n3_;clear n0_ n1_ n2_ n3_;clear hb hbox hg;obtain ⟨hcz8_0,hcz8_1,hcz8_2,hcz8_3,hcz8_4,hcz8_5,hcz8_6,hcz8_7,hcz8_8,hcz8_9,hcz8_10,hcz8_11,hcz8_12,hcz8_13,hcz8_14,hcz8_15⟩:=bc16_ (w:=w7) (g:=QC) (.int .i64 Qi) (.int .i64 Qn) (.int .i64 Qj) (.int .i64 Qp) (.int .i64 Qq) (.int .i64 Qk) (.int .i64 Qg) (.int .i64 Qm) (.int .i64 Qh) (.int .i64 Ql) (.int .i64 Qa) (.int .i64 Qb) (.int .i64 Qc) (.int .i64 Qd) (.int .i64 Qe) (.int .i64 Qf) BK101.out;obtain ⟨hfz8_0,hfz8_1,hfz8_2,hfz8_3,hfz8_4,hfz8_5,hfz8_6,hfz8_7,hfz8_8,hfz8_9,hfz8_10,hfz8_11,hfz8_12,hfz8_13,hfz8_14,hfz8_15⟩:=bf16_ BK101.out)|((with_reducible refine gate_callee (f:=55) rfl ?_);refine goesL_ (some 6) rfl rfl Try.func55 (by kernel_rfl) rfl #[.int .i64 Qi,.int .i64 4,.int .i64 16] rfl (by (try simp only [List.map_toArray,List.map_cons,List.map_nil]);first|done|rfl|(simp only [List.length_drop,List.length_take];rfl)) ?_;(with_reducible refine (plan_in.calls Qi 4 16 false _ A2.out).mono ?_);rintro e w' ⟨rfl,⟨nd,rfl⟩⟩;refine ⟨_,rfl,?_⟩))
  go_ret
  exact ⟨by first|rfl|(simp [errW_none,errW_some] <;> rfl)|(simp [*,errW_none,errW_some] <;> rfl),by repeat (first|(with_reducible first|exact HB.out|apply below_alloc|apply pw_below_drewN|apply below_drew1|refine below_set ?_ GE101.out)|exact HB.out)⟩

/-! ### plan_look_air: function 46 -/
def plan_look_air.f (Qi : Int) (Qn : Int) (Qj : Int) (Qp : Int) (Qq : Int) (Qk : Int) (Qg : Int) (Qm : Int) (Qh : Int) (Ql : Int) (Qa : Int) (Qb : Int) (Qc : Int) (Qd : Int) (Qe : Int) (Qf : Int) : Option (Bool):=(plan_in.f Qk 1 1048576).bind fun t105=>(if t105 = true then (if Qg ≥ 0 then ((plan_in.f Qm Qg 1048576).bind fun QF=>(some QF)) else (some false)) else (some false))
set_option maxHeartbeats 8000000 in
set_option maxRecDepth 100000 in
theorem plan_look_air.calls (Qi : Int) (Qn : Int) (Qj : Int) (Qp : Int) (Qq : Int) (Qk : Int) (Qg : Int) (Qm : Int) (Qh : Int) (Ql : Int) (Qa : Int) (Qb : Int) (Qc : Int) (Qd : Int) (Qe : Int) (Qf : Int) (r : Bool) (w : World) (h : plan_look_air.f Qi Qn Qj Qp Qq Qk Qg Qm Qh Ql Qa Qb Qc Qd Qe Qf = some r) :
  Calls Try.prog 46 #[.agg #[.int .i64 Qi,.int .i64 Qn,.int .i64 Qj,.int .i64 Qp,.int .i64 Qq,.int .i64 Qk,.int .i64 Qg,.int .i64 Qm,.int .i64 Qh,.int .i64 Ql,.int .i64 Qa,.int .i64 Qb,.int .i64 Qc,.int .i64 Qd,.int .i64 Qe,.int .i64 Qf]] w fun e w'=>e = .returned (.bool r)∧Below w.heap.size w w':=by
 have hu72:=Try.underlying72
 have HB:=Aside0.mk (Below.refl w.heap.size w)
 have H : ((plan_in.f Qk 1 1048576).bind fun t105=>(if t105 = true then (if Qg ≥ 0 then ((plan_in.f Qm Qg 1048576).bind fun QF=>(some QF)) else (some false)) else (some false))) = some r:=h
 clear h
 replace H:=Option.bind_eq_some_iff.mp H
 obtain ⟨t105,A20,H⟩:=H
 replace H : (if t105 = true then (if Qg ≥ 0 then ((plan_in.f Qm Qg 1048576).bind fun QF=>(some QF)) else (some false)) else (some false)) = some r:=H
 have A2:=Aside0.mk A20
 clear A20
 by_cases c3 : t105 = true
 ·subst c3
  have H1 : (if Qg ≥ 0 then ((plan_in.f Qm Qg 1048576).bind fun QF=>(some QF)) else (some false)) = some r:=by rw [if_pos rfl] at H;exact H
  clear H
  have H:=H1
  clear H1
  by_cases c4 : Qg ≥ 0
  ·rw [if_pos c4] at H
   have c4b0 : decide (0 ≤ Qg) = true:=decide_eq_true c4
   clear c4
   replace H:=Option.bind_eq_some_iff.mp H
   obtain ⟨QF,A50,H⟩:=H
   replace H : (some QF) = some r:=H
   have A5:=Aside0.mk A50
   clear A50
   obtain rfl:=Option.some.inj H
   go_enter Try.func46,Try.ntmps46
   go_wp2_with (first|((with_reducible refine gate_dst (N:=1) rfl ?_);refine box_event ?hg (N:=1) ?hd (cs:=#[.int .i64 Qi,.int .i64 Qn,.int .i64 Qj,.int .i64 Qp,.int .i64 Qq,.int .i64 Qk,.int .i64 Qg,.int .i64 Qm,.int .i64 Qh,.int .i64 Ql,.int .i64 Qa,.int .i64 Qb,.int .i64 Qc,.int .i64 Qd,.int .i64 Qe,.int .i64 Qf]) (t:=72) ?hr ?_;(case hd=>rfl);(case hg=>rfl);(case hr=>first|(go_simp;done)|(go_simp;rfl));intro QA hg w6 hbox hb;have n0_:=Aside0.mk (below_step (by repeat (first|(with_reducible first|exact HB.out|apply below_alloc|apply pw_below_drewN|apply below_drew1)|exact HB.out)) hb);have n1_:=Aside0.mk (hbox);have n2_:=Aside0.mk ((by rw [hg];exact (below_size (by repeat (first|(with_reducible first|exact HB.out|apply below_alloc|apply pw_below_drewN|apply below_drew1)|exact HB.out))) : w.heap.size ≤ QA));have n3_:=Aside0.mk ((by rw [hg];exact (below_size (by repeat (first|(with_reducible first|exact HB.out|apply below_alloc|apply pw_below_drewN|apply below_drew1)|exact HB.out))) : w.heap.size ≤ QA));clear HB;have HB:=n0_;have QB:=n1_;have GW104:=n2_;have GE104:=n3_;clear n0_ n1_ n2_ n3_;clear hb hbox hg;obtain ⟨hcz7_0,hcz7_1,hcz7_2,hcz7_3,hcz7_4,hcz7_5,hcz7_6,hcz7_7,hcz7_8,hcz7_9,hcz7_10,hcz7_11,hcz7_12,hcz7_13,hcz7_14,hcz7_15⟩:=bc16_ (w:=w6) (g:=QA) (.int .i64 Qi) (.int .i64 Qn) (.int .i64 Qj) (.int .i64 Qp) (.int .i64 Qq) (.int .i64 Qk) (.int .i64 Qg) (.int .i64 Qm) (.int .i64 Qh) (.int .i64 Ql) (.int .i64 Qa) (.int .i64 Qb) (.int .i64 Qc) (.int .i64 Qd) (.int .i64 Qe) (.int .i64 Qf) QB.out;obtain ⟨hfz7_0,hfz7_1,hfz7_2,hfz7_3,hfz7_4,hfz7_5,hfz7_6,hfz7_7,hfz7_8,hfz7_9,hfz7_10,hfz7_11,hfz7_12,hfz7_13,hfz7_14,hfz7_15⟩:=bf16_ QB.out)|((with_reducible refine gate_callee (f:=55) rfl ?_);refine goesL_ (some 6) rfl rfl Try.func55 (by kernel_rfl) rfl #[.int .i64 Qk,.int .i64 1,.int .i64 1048576] rfl (by (try simp only [List.map_toArray,List.map_cons,List.map_nil]);first|done|rfl|(simp only [List.length_drop,List.length_take];rfl)) ?_;(with_reducible refine (plan_in.calls Qk 1 1048576 true _ A2.out).mono ?_);rintro e w' ⟨rfl,⟨nd,rfl⟩⟩;refine ⟨_,rfl,?_⟩)|(go_at_call 55;(with_reducible refine (plan_in.calls Qm Qg 1048576 QF _ A5.out).mono ?_);rintro e w' ⟨rfl,⟨nd,rfl⟩⟩))
   go_ret
   exact ⟨by first|rfl|(simp [errW_none,errW_some] <;> rfl)|(simp [*,errW_none,errW_some] <;> rfl),by repeat (first|(with_reducible first|exact HB.out|apply below_alloc|apply pw_below_drewN|apply below_drew1|refine below_set ?_ GE104.out)|exact HB.out)⟩
  ·rw [if_neg c4] at H
   have c4b0 : decide (0 ≤ Qg) = false:=decide_eq_false c4
   clear c4
   obtain rfl:=Option.some.inj H
   go_enter Try.func46,Try.ntmps46
   go_wp2_with (first|((with_reducible refine gate_dst (N:=1) rfl ?_);refine box_event ?hg (N:=1) ?hd (cs:=#[.int .i64 Qi,.int .i64 Qn,.int .i64 Qj,.int .i64 Qp,.int .i64 Qq,.int .i64 Qk,.int .i64 Qg,.int .i64 Qm,.int .i64 Qh,.int .i64 Ql,.int .i64 Qa,.int .i64 Qb,.int .i64 Qc,.int .i64 Qd,.int .i64 Qe,.int .i64 Qf]) (t:=72) ?hr ?_;(case hd=>rfl);(case hg=>rfl);(case hr=>first|(go_simp;done)|(go_simp;rfl));intro QA hg w8 hbox hb;have n0_:=Aside0.mk (below_step (by repeat (first|(with_reducible first|exact HB.out|apply below_alloc|apply pw_below_drewN|apply below_drew1)|exact HB.out)) hb);have n1_:=Aside0.mk (hbox);have n2_:=Aside0.mk ((by rw [hg];exact (below_size (by repeat (first|(with_reducible first|exact HB.out|apply below_alloc|apply pw_below_drewN|apply below_drew1)|exact HB.out))) : w.heap.size ≤ QA));have n3_:=Aside0.mk ((by rw [hg];exact (below_size (by repeat (first|(with_reducible first|exact HB.out|apply below_alloc|apply pw_below_drewN|apply below_drew1)|exact HB.out))) : w.heap.size ≤ QA));clear HB;have HB:=n0_;have QB:=n1_;have GW104:=n2_;have GE104:=n3_;clear n0_ n1_ n2_ n3_;clear hb hbox hg;obtain ⟨hcz9_0,hcz9_1,hcz9_2,hcz9_3,hcz9_4,hcz9_5,hcz9_6,hcz9_7,hcz9_8,hcz9_9,hcz9_10,hcz9_11,hcz9_12,hcz9_13,hcz9_14,hcz9_15⟩:=bc16_ (w:=w8) (g:=QA) (.int .i64 Qi) (.int .i64 Qn) (.int .i64 Qj) (.int .i64 Qp) (.int .i64 Qq) (.int .i64 Qk) (.int .i64 Qg) (.int .i64 Qm) (.int .i64 Qh) (.int .i64 Ql) (.int .i64 Qa) (.int .i64 Qb) (.int .i64 Qc) (.int .i64 Qd) (.int .i64 Qe) (.int .i64 Qf) QB.out;obtain ⟨hfz9_0,hfz9_1,hfz9_2,hfz9_3,hfz9_4,hfz9_5,hfz9_6,hfz9_7,hfz9_8,hfz9_9,hfz9_10,hfz9_11,hfz9_12,hfz9_13,hfz9_14,hfz9_15⟩:=bf16_ QB.out)|((with_reducible refine gate_callee (f:=55) rfl ?_);refine goesL_ (some 6) rfl rfl Try.func55 (by kernel_rfl) rfl #[.int .i64 Qk,.int .i64 1,.int .i64 1048576] rfl (by (try simp only [List.map_toArray,List.map_cons,List.map_nil]);first|done|rfl|(simp only [List.length_drop,List.length_take];rfl)) ?_;(with_reducible refine (plan_in.calls Qk 1 1048576 true _ A2.out).mono ?_);rintro e w' ⟨rfl,⟨nd,rfl⟩⟩;refine ⟨_,rfl,?_⟩))
   go_ret
   exact ⟨by first|rfl|(simp [errW_none,errW_some] <;> rfl)|(simp [*,errW_none,errW_some] <;> rfl),by repeat (first|(with_reducible first|exact HB.out|apply below_alloc|apply pw_below_drewN|apply below_drew1|refine below_set ?_ GE104.out)|exact HB.out)⟩
 ·replace c3:=Bool.eq_false_iff.mpr c3
  subst c3
  have H1 : (some false) = some r:=by rw [if_neg (show ¬ (false = true) by decide)] at H;exact H
  clear H
  have H:=H1
  clear H1
  obtain rfl:=Option.some.inj H
  go_enter Try.func46,Try.ntmps46
  go_wp2_with (first|((with_reducible refine gate_dst (N:=1) rfl ?_);refine box_event ?hg (N:=1) ?hd (cs:=#[.int .i64 Qi,.int .i64 Qn,.int .i64 Qj,.int .i64 Qp,.int .i64 Qq,.int .i64 Qk,.int .i64 Qg,.int .i64 Qm,.int .i64 Qh,.int .i64 Ql,.int .i64 Qa,.int .i64 Qb,.int .i64 Qc,.int .i64 Qd,.int .i64 Qe,.int .i64 Qf]) (t:=72) ?hr ?_;(case hd=>rfl);(case hg=>rfl);(case hr=>first|(go_simp;done)|(go_simp;rfl));intro QA hg w10 hbox hb;have n0_:=Aside0.mk (below_step (by repeat (first|(with_reducible first|exact HB.out|apply below_alloc|apply pw_below_drewN|apply below_drew1)|exact HB.out)) hb);have n1_:=Aside0.mk (hbox);have n2_:=Aside0.mk ((by rw [hg];exact (below_size (by repeat (first|(with_reducible first|exact HB.out|apply below_alloc|apply pw_below_drewN|apply below_drew1)|exact HB.out))) : w.heap.size ≤ QA));have n3_:=Aside0.mk ((by rw [hg];exact (below_size (by repeat (first|(with_reducible first|exact HB.out|apply below_alloc|apply pw_below_drewN|apply below_drew1)|exact HB.out))) : w.heap.size ≤ QA));clear HB;have HB:=n0_;have QB:=n1_;have GW104:=n2_;have GE104:=n3_;clear n0_ n1_ n2_ n3_;clear hb hbox hg;obtain ⟨hcz11_0,hcz11_1,hcz11_2,hcz11_3,hcz11_4,hcz11_5,hcz11_6,hcz11_7,hcz11_8,hcz11_9,hcz11_10,hcz11_11,hcz11_12,hcz11_13,hcz11_14,hcz11_15⟩:=bc16_ (w:=w10) (g:=QA) (.int .i64 Qi) (.int .i64 Qn) (.int .i64 Qj) (.int .i64 Qp) (.int .i64 Qq) (.int .i64 Qk) (.int .i64 Qg) (.int .i64 Qm) (.int .i64 Qh) (.int .i64 Ql) (.int .i64 Qa) (.int .i64 Qb) (.int .i64 Qc) (.int .i64 Qd) (.int .i64 Qe) (.int .i64 Qf) QB.out;obtain ⟨hfz11_0,hfz11_1,hfz11_2,hfz11_3,hfz11_4,hfz11_5,hfz11_6,hfz11_7,hfz11_8,hfz11_9,hfz11_10,hfz11_11,hfz11_12,hfz11_13,hfz11_14,hfz11_15⟩:=bf16_ QB.out)|((with_reducible refine gate_callee (f:=55) rfl ?_);refine goesL_ (some 6) rfl rfl Try.func55 (by kernel_rfl) rfl #[.int .i64 Qk,.int .i64 1,.int .i64 1048576] rfl (by (try simp only [List.map_toArray,List.map_cons,List.map_nil]);first|done|rfl|(simp only [List.length_drop,List.length_take];rfl)) ?_;(with_reducible refine (plan_in.calls Qk 1 1048576 false _ A2.out).mono ?_);rintro e w' ⟨rfl,⟨nd,rfl⟩⟩;refine ⟨_,rfl,?_⟩))
  go_ret
  exact ⟨by first|rfl|(simp [errW_none,errW_some] <;> rfl)|(simp [*,errW_none,errW_some] <;> rfl),by repeat (first|(with_reducible first|exact HB.out|apply below_alloc|apply pw_below_drewN|apply below_drew1|refine below_set ?_ GE104.out)|exact HB.out)⟩

/-! ### plan_look_slot: function 47 -/
def plan_look_slot.f (Qi : Int) (Qn : Int) (Qj : Int) (Qp : Int) (Qq : Int) (Qk : Int) (Qg : Int) (Qm : Int) (Qh : Int) (Ql : Int) (Qa : Int) (Qb : Int) (Qc : Int) (Qd : Int) (Qe : Int) (Qf : Int) : Option (Bool):=(plan_in.f Qj 1 1048576).bind fun t108=>(if t108 = true then ((plan_in.f Qh 4 1048576).bind fun QG=>(some QG)) else (some false))
set_option maxHeartbeats 8000000 in
set_option maxRecDepth 100000 in
theorem plan_look_slot.calls (Qi : Int) (Qn : Int) (Qj : Int) (Qp : Int) (Qq : Int) (Qk : Int) (Qg : Int) (Qm : Int) (Qh : Int) (Ql : Int) (Qa : Int) (Qb : Int) (Qc : Int) (Qd : Int) (Qe : Int) (Qf : Int) (r : Bool) (w : World) (h : plan_look_slot.f Qi Qn Qj Qp Qq Qk Qg Qm Qh Ql Qa Qb Qc Qd Qe Qf = some r) :
  Calls Try.prog 47 #[.agg #[.int .i64 Qi,.int .i64 Qn,.int .i64 Qj,.int .i64 Qp,.int .i64 Qq,.int .i64 Qk,.int .i64 Qg,.int .i64 Qm,.int .i64 Qh,.int .i64 Ql,.int .i64 Qa,.int .i64 Qb,.int .i64 Qc,.int .i64 Qd,.int .i64 Qe,.int .i64 Qf]] w fun e w'=>e = .returned (.bool r)∧Below w.heap.size w w':=by
 have hu72:=Try.underlying72
 have HB:=Aside0.mk (Below.refl w.heap.size w)
 have H : ((plan_in.f Qj 1 1048576).bind fun t108=>(if t108 = true then ((plan_in.f Qh 4 1048576).bind fun QG=>(some QG)) else (some false))) = some r:=h
 clear h
 replace H:=Option.bind_eq_some_iff.mp H
 obtain ⟨t108,A20,H⟩:=H
 replace H : (if t108 = true then ((plan_in.f Qh 4 1048576).bind fun QG=>(some QG)) else (some false)) = some r:=H
 have A2:=Aside0.mk A20
 clear A20
 by_cases c3 : t108 = true
 ·subst c3
  have H1 : ((plan_in.f Qh 4 1048576).bind fun QG=>(some QG)) = some r:=by rw [if_pos rfl] at H;exact H
  clear H
  have H:=H1
  clear H1
  replace H:=Option.bind_eq_some_iff.mp H
  obtain ⟨QG,A40,H⟩:=H
  replace H : (some QG) = some r:=H
  have A4:=Aside0.mk A40
  clear A40
  obtain rfl:=Option.some.inj H
  go_enter Try.func47,Try.ntmps47
  go_wp2_with (first|((with_reducible refine gate_dst (N:=1) rfl ?_);refine box_event ?hg (N:=1) ?hd (cs:=#[.int .i64 Qi,.int .i64 Qn,.int .i64 Qj,.int .i64 Qp,.int .i64 Qq,.int .i64 Qk,.int .i64 Qg,.int .i64 Qm,.int .i64 Qh,.int .i64 Ql,.int .i64 Qa,.int .i64 Qb,.int .i64 Qc,.int .i64 Qd,.int .i64 Qe,.int .i64 Qf]) (t:=72) ?hr ?_;(case hd=>rfl);(case hg=>rfl);(case hr=>first|(go_simp;done)|(go_simp;rfl));intro QD hg w5 hbox hb;have n0_:=Aside0.mk (below_step (by repeat (first|(with_reducible first|exact HB.out|apply below_alloc|apply pw_below_drewN|apply below_drew1)|exact HB.out)) hb);have n1_:=Aside0.mk (hbox);have n2_:=Aside0.mk ((by rw [hg];exact (below_size (by repeat (first|(with_reducible first|exact HB.out|apply below_alloc|apply pw_below_drewN|apply below_drew1)|exact HB.out))) : w.heap.size ≤ QD));have n3_:=Aside0.mk ((by rw [hg];exact (below_size (by repeat (first|(with_reducible first|exact HB.out|apply below_alloc|apply pw_below_drewN|apply below_drew1)|exact HB.out))) : w.heap.size ≤ QD));clear HB;have HB:=n0_;have BK107:=n1_;have GW107:=n2_;have GE107:=n3_;clear n0_ n1_ n2_ n3_;clear hb hbox hg;obtain ⟨hcz6_0,hcz6_1,hcz6_2,hcz6_3,hcz6_4,hcz6_5,hcz6_6,hcz6_7,hcz6_8,hcz6_9,hcz6_10,hcz6_11,hcz6_12,hcz6_13,hcz6_14,hcz6_15⟩:=bc16_ (w:=w5) (g:=QD) (.int .i64 Qi) (.int .i64 Qn) (.int .i64 Qj) (.int .i64 Qp) (.int .i64 Qq) (.int .i64 Qk) (.int .i64 Qg) (.int .i64 Qm) (.int .i64 Qh) (.int .i64 Ql) (.int .i64 Qa) (.int .i64 Qb) (.int .i64 Qc) (.int .i64 Qd) (.int .i64 Qe) (.int .i64 Qf) BK107.out;obtain ⟨hfz6_0,hfz6_1,hfz6_2,hfz6_3,hfz6_4,hfz6_5,hfz6_6,hfz6_7,hfz6_8,hfz6_9,hfz6_10,hfz6_11,hfz6_12,hfz6_13,hfz6_14,hfz6_15⟩:=bf16_ BK107.out)|((with_reducible refine gate_callee (f:=55) rfl ?_);refine goesL_ (some 6) rfl rfl Try.func55 (by kernel_rfl) rfl #[.int .i64 Qj,.int .i64 1,.int .i64 1048576] rfl (by (try simp only [List.map_toArray,List.map_cons,List.map_nil]);first|done|rfl|(simp only [List.length_drop,List.length_take];rfl)) ?_;(with_reducible refine (plan_in.calls Qj 1 1048576 true _ A2.out).mono ?_);rintro e w' ⟨rfl,⟨nd,rfl⟩⟩;refine ⟨_,rfl,?_⟩)|(go_at_call 55;(with_reducible refine (plan_in.calls Qh 4 1048576 QG _ A4.out).mono ?_);rintro e w' ⟨rfl,⟨nd,rfl⟩⟩))
  go_ret
  exact ⟨by first|rfl|(simp [errW_none,errW_some] <;> rfl)|(simp [*,errW_none,errW_some] <;> rfl),by repeat (first|(with_reducible first|exact HB.out|apply below_alloc|apply pw_below_drewN|apply below_drew1|refine below_set ?_ GE107.out)|exact HB.out)⟩
 ·replace c3:=Bool.eq_false_iff.mpr c3
  subst c3
  have H1 : (some false) = some r:=by rw [if_neg (show ¬ (false = true) by decide)] at H;exact H
  clear H
  have H:=H1
  clear H1
  obtain rfl:=Option.some.inj H
  go_enter Try.func47,Try.ntmps47
  go_wp2_with (first|((with_reducible refine gate_dst (N:=1) rfl ?_);refine box_event ?hg (N:=1) ?hd (cs:=#[.int .i64 Qi,.int .i64 Qn,.int .i64 Qj,.int .i64 Qp,.int .i64 Qq,.int .i64 Qk,.int .i64 Qg,.int .i64 Qm,.int .i64 Qh,.int .i64 Ql,.int .i64 Qa,.int .i64 Qb,.int .i64 Qc,.int .i64 Qd,.int .i64 Qe,.int .i64 Qf]) (t:=72) ?hr ?_;(case hd=>rfl);(case hg=>rfl);(case hr=>first|(go_simp;done)|(go_simp;rfl));intro QD hg w7 hbox hb;have n0_:=Aside0.mk (below_step (by repeat (first|(with_reducible first|exact HB.out|apply below_alloc|apply pw_below_drewN|apply below_drew1)|exact HB.out)) hb);have n1_:=Aside0.mk (hbox);have n2_:=Aside0.mk ((by rw [hg];exact (below_size (by repeat (first|(with_reducible first|exact HB.out|apply below_alloc|apply pw_below_drewN|apply below_drew1)|exact HB.out))) : w.heap.size ≤ QD));have n3_:=Aside0.mk ((by rw [hg];exact (below_size (by repeat (first|(with_reducible first|exact HB.out|apply below_alloc|apply pw_below_drewN|apply below_drew1)|exact HB.out))) : w.heap.size ≤ QD));clear HB;have HB:=n0_;have BK107:=n1_;have GW107:=n2_;have GE107:=n3_;clear n0_ n1_ n2_ n3_;clear hb hbox hg;obtain ⟨hcz8_0,hcz8_1,hcz8_2,hcz8_3,hcz8_4,hcz8_5,hcz8_6,hcz8_7,hcz8_8,hcz8_9,hcz8_10,hcz8_11,hcz8_12,hcz8_13,hcz8_14,hcz8_15⟩:=bc16_ (w:=w7) (g:=QD) (.int .i64 Qi) (.int .i64 Qn) (.int .i64 Qj) (.int .i64 Qp) (.int .i64 Qq) (.int .i64 Qk) (.int .i64 Qg) (.int .i64 Qm) (.int .i64 Qh) (.int .i64 Ql) (.int .i64 Qa) (.int .i64 Qb) (.int .i64 Qc) (.int .i64 Qd) (.int .i64 Qe) (.int .i64 Qf) BK107.out;obtain ⟨hfz8_0,hfz8_1,hfz8_2,hfz8_3,hfz8_4,hfz8_5,hfz8_6,hfz8_7,hfz8_8,hfz8_9,hfz8_10,hfz8_11,hfz8_12,hfz8_13,hfz8_14,hfz8_15⟩:=bf16_ BK107.out)|((with_reducible refine gate_callee (f:=55) rfl ?_);refine goesL_ (some 6) rfl rfl Try.func55 (by kernel_rfl) rfl #[.int .i64 Qj,.int .i64 1,.int .i64 1048576] rfl (by (try simp only [List.map_toArray,List.map_cons,List.map_nil]);first|done|rfl|(simp only [List.length_drop,List.length_take];rfl)) ?_;(with_reducible refine (plan_in.calls Qj 1 1048576 false _ A2.out).mono ?_);rintro e w' ⟨rfl,⟨nd,rfl⟩⟩;refine ⟨_,rfl,?_⟩))
  go_ret
  exact ⟨by first|rfl|(simp [errW_none,errW_some] <;> rfl)|(simp [*,errW_none,errW_some] <;> rfl),by repeat (first|(with_reducible first|exact HB.out|apply below_alloc|apply pw_below_drewN|apply below_drew1|refine below_set ?_ GE107.out)|exact HB.out)⟩

/-! ### plan_look_round: function 61 -/
def plan_look_round.f (Qi : Int) (Qn : Int) (Qj : Int) (Qp : Int) (Qq : Int) (Qk : Int) (Qg : Int) (Qm : Int) (Qh : Int) (Ql : Int) (Qa : Int) (Qb : Int) (Qc : Int) (Qd : Int) (Qe : Int) (Qf : Int) : Option (Int):=some (wrap64 (Qi * Qj))
set_option maxHeartbeats 8000000 in
set_option maxRecDepth 100000 in
theorem plan_look_round.calls (Qi : Int) (Qn : Int) (Qj : Int) (Qp : Int) (Qq : Int) (Qk : Int) (Qg : Int) (Qm : Int) (Qh : Int) (Ql : Int) (Qa : Int) (Qb : Int) (Qc : Int) (Qd : Int) (Qe : Int) (Qf : Int) (r : Int) (w : World) (h : plan_look_round.f Qi Qn Qj Qp Qq Qk Qg Qm Qh Ql Qa Qb Qc Qd Qe Qf = some r) :
  Calls Try.prog 61 #[.agg #[.int .i64 Qi,.int .i64 Qn,.int .i64 Qj,.int .i64 Qp,.int .i64 Qq,.int .i64 Qk,.int .i64 Qg,.int .i64 Qm,.int .i64 Qh,.int .i64 Ql,.int .i64 Qa,.int .i64 Qb,.int .i64 Qc,.int .i64 Qd,.int .i64 Qe,.int .i64 Qf]] w fun e w'=>e = .returned (.int .i64 r)∧Below w.heap.size w w':=by
 have hu72:=Try.underlying72
 have HB:=Aside0.mk (Below.refl w.heap.size w)
 have H : (some (wrap64 (Qi * Qj))) = some r:=h
 clear h
 obtain rfl:=Option.some.inj H
 go_enter Try.func61,Try.ntmps61
 go_wp2_with (first|((with_reducible refine gate_dst (N:=1) rfl ?_);refine box_event ?hg (N:=1) ?hd (cs:=#[.int .i64 Qi,.int .i64 Qn,.int .i64 Qj,.int .i64 Qp,.int .i64 Qq,.int .i64 Qk,.int .i64 Qg,.int .i64 Qm,.int .i64 Qh,.int .i64 Ql,.int .i64 Qa,.int .i64 Qb,.int .i64 Qc,.int .i64 Qd,.int .i64 Qe,.int .i64 Qf]) (t:=72) ?hr ?_;(case hd=>rfl);(case hg=>rfl);(case hr=>first|(go_simp;done)|(go_simp;rfl));intro gb110 hg w2 hbox hb;have n0_:=Aside0.mk (below_step (by repeat (first|(with_reducible first|exact HB.out|apply below_alloc|apply pw_below_drewN|apply below_drew1)|exact HB.out)) hb);have n1_:=Aside0.mk (hbox);have n2_:=Aside0.mk ((by rw [hg];exact (below_size (by repeat (first|(with_reducible first|exact HB.out|apply below_alloc|apply pw_below_drewN|apply below_drew1)|exact HB.out))) : w.heap.size ≤ gb110));have n3_:=Aside0.mk ((by rw [hg];exact (below_size (by repeat (first|(with_reducible first|exact HB.out|apply below_alloc|apply pw_below_drewN|apply below_drew1)|exact HB.out))) : w.heap.size ≤ gb110));clear HB;have HB:=n0_;have BK110:=n1_;have GW110:=n2_;have GE110:=n3_;clear n0_ n1_ n2_ n3_;clear hb hbox hg;obtain ⟨hcz3_0,hcz3_1,hcz3_2,hcz3_3,hcz3_4,hcz3_5,hcz3_6,hcz3_7,hcz3_8,hcz3_9,hcz3_10,hcz3_11,hcz3_12,hcz3_13,hcz3_14,hcz3_15⟩:=bc16_ (w:=w2) (g:=gb110) (.int .i64 Qi) (.int .i64 Qn) (.int .i64 Qj) (.int .i64 Qp) (.int .i64 Qq) (.int .i64 Qk) (.int .i64 Qg) (.int .i64 Qm) (.int .i64 Qh) (.int .i64 Ql) (.int .i64 Qa) (.int .i64 Qb) (.int .i64 Qc) (.int .i64 Qd) (.int .i64 Qe) (.int .i64 Qf) BK110.out;obtain ⟨hfz3_0,hfz3_1,hfz3_2,hfz3_3,hfz3_4,hfz3_5,hfz3_6,hfz3_7,hfz3_8,hfz3_9,hfz3_10,hfz3_11,hfz3_12,hfz3_13,hfz3_14,hfz3_15⟩:=bf16_ BK110.out))
 go_ret
 exact ⟨by first|rfl|(simp [errW_none,errW_some] <;> rfl)|(simp [*,errW_none,errW_some] <;> rfl),by repeat (first|(with_reducible first|exact HB.out|apply below_alloc|apply pw_below_drewN|apply below_drew1|refine below_set ?_ GE110.out)|exact HB.out)⟩

/-! ### plan_look_g: function 67 -/
def plan_look_g.f (Qi : Int) (Qn : Int) (Qj : Int) (Qp : Int) (Qq : Int) (Qk : Int) (Qg : Int) (Qm : Int) (Qh : Int) (Ql : Int) (Qa : Int) (Qb : Int) (Qc : Int) (Qd : Int) (Qe : Int) (Qf : Int) : Option (Int):=(plan_look_round.f Qi Qn Qj Qp Qq Qk Qg Qm Qh Ql Qa Qb Qc Qd Qe Qf).bind fun t112=>(if Qh = 0 then (none) else (some (wrap64 (2 * (wrap64 ((wrap64 (Int.tdiv (wrap64 (2 * t112)) Qh)) + 4))))))
def plan_look_g.T1 : Bool × List (List Nat × List Nat):=(true,[([],[]),([0],[0]),([1],[1]),([],[]),([3],[3]),([4],[4]),([2,5],[2,5]),([6],[6]),([7],[7]),([8,1,0,1,2,3,4,5,6,7,8],[8])])
def plan_look_g.B1 : List Nat:=[0,1,3,0,8,24,63,127,255,511]
theorem plan_look_g.tab1 : rtab .any (opsOf Try.f67 1) = plan_look_g.T1:=by kernel_rfl
theorem plan_look_g.bits1 : waitsOk plan_look_g.T1.2 plan_look_g.B1 = true:=by kernel_rfl
set_option maxHeartbeats 8000000 in
set_option maxRecDepth 100000 in
theorem plan_look_g.calls (Qi : Int) (Qn : Int) (Qj : Int) (Qp : Int) (Qq : Int) (Qk : Int) (Qg : Int) (Qm : Int) (Qh : Int) (Ql : Int) (Qa : Int) (Qb : Int) (Qc : Int) (Qd : Int) (Qe : Int) (Qf : Int) (r : Int) (w : World) (h : plan_look_g.f Qi Qn Qj Qp Qq Qk Qg Qm Qh Ql Qa Qb Qc Qd Qe Qf = some r) :
  Calls Try.prog 67 #[.agg #[.int .i64 Qi,.int .i64 Qn,.int .i64 Qj,.int .i64 Qp,.int .i64 Qq,.int .i64 Qk,.int .i64 Qg,.int .i64 Qm,.int .i64 Qh,.int .i64 Ql,.int .i64 Qa,.int .i64 Qb,.int .i64 Qc,.int .i64 Qd,.int .i64 Qe,.int .i64 Qf]] w fun e w'=>e = .returned (.int .i64 r)∧Below w.heap.size w w':=by
 have hu72:=Try.underlying72
 have HB:=Aside0.mk (Below.refl w.heap.size w)
 have H : ((plan_look_round.f Qi Qn Qj Qp Qq Qk Qg Qm Qh Ql Qa Qb Qc Qd Qe Qf).bind fun t112=>(if Qh = 0 then (none) else (some (wrap64 (2 * (wrap64 ((wrap64 (Int.tdiv (wrap64 (2 * t112)) Qh)) + 4))))))) = some r:=h
 clear h
 replace H:=Option.bind_eq_some_iff.mp H
 obtain ⟨t112,A20,H⟩:=H
 replace H : (if Qh = 0 then (none) else (some (wrap64 (2 * (wrap64 ((wrap64 (Int.tdiv (wrap64 (2 * t112)) Qh)) + 4)))))) = some r:=H
 have A2:=Aside0.mk A20
 clear A20
 by_cases c3 : Qh = 0
 ·rw [if_pos c3] at H
  exact absurd H (by simp)
 ·rw [if_neg c3] at H
  have c3b0 : (Qh == 0) = false:=beq_eq_false_iff_ne.mpr c3
  have c3b1 : (Qh != 0) = true:=bne_iff_ne.mpr c3
  obtain rfl:=Option.some.inj H
  go_enter Try.func67,Try.ntmps67
  try go_wp2_with (first|((with_reducible refine gate_dst (N:=1) rfl ?_);refine box_event ?hg (N:=1) ?hd (cs:=#[.int .i64 Qi,.int .i64 Qn,.int .i64 Qj,.int .i64 Qp,.int .i64 Qq,.int .i64 Qk,.int .i64 Qg,.int .i64 Qm,.int .i64 Qh,.int .i64 Ql,.int .i64 Qa,.int .i64 Qb,.int .i64 Qc,.int .i64 Qd,.int .i64 Qe,.int .i64 Qf]) (t:=72) ?hr ?_;(case hd=>rfl);(case hg=>rfl);(case hr=>first|(go_simp;done)|(go_simp;rfl));intro Qx hg w4 hbox hb;have n0_:=Aside0.mk (below_step (by repeat (first|(with_reducible first|exact HB.out|apply below_alloc|apply pw_below_drewN|apply below_drew1)|exact HB.out)) hb);have n1_:=Aside0.mk (hbox);have n2_:=Aside0.mk ((by rw [hg];exact (below_size (by repeat (first|(with_reducible first|exact HB.out|apply below_alloc|apply pw_below_drewN|apply below_drew1)|exact HB.out))) : w.heap.size ≤ Qx));have n3_:=Aside0.mk ((by rw [hg];exact (below_size (by repeat (first|(with_reducible first|exact HB.out|apply below_alloc|apply pw_below_drewN|apply below_drew1)|exact HB.out))) : w.heap.size ≤ Qx));clear HB;have HB:=n0_;have Qt:=n1_;have GW111:=n2_;have GE111:=n3_;clear n0_ n1_ n2_ n3_;clear hb hbox hg))
  have n0_:=Aside0.mk (blk_drew Qt.out)
  have n1_:=Aside0.mk (below_drew1 HB.out)
  clear Qt
  clear HB
  have Qt:=n0_
  have HB:=n1_
  clear n0_ n1_
  refine start_ (n:=10) (S:=fun w'=>w'.cell? ⟨Qx,0,none⟩ = some (.int .i64 Qi)∧w'.cell? ⟨Qx,1,none⟩ = some (.int .i64 Qn)∧w'.cell? ⟨Qx,2,none⟩ = some (.int .i64 Qj)∧w'.cell? ⟨Qx,3,none⟩ = some (.int .i64 Qp)∧w'.cell? ⟨Qx,4,none⟩ = some (.int .i64 Qq)∧w'.cell? ⟨Qx,5,none⟩ = some (.int .i64 Qk)∧w'.cell? ⟨Qx,6,none⟩ = some (.int .i64 Qg)∧w'.cell? ⟨Qx,7,none⟩ = some (.int .i64 Qm)∧w'.cell? ⟨Qx,8,none⟩ = some (.int .i64 Qh)∧w'.cell? ⟨Qx,9,none⟩ = some (.int .i64 Ql)∧w'.cell? ⟨Qx,10,none⟩ = some (.int .i64 Qa)∧w'.cell? ⟨Qx,11,none⟩ = some (.int .i64 Qb)∧w'.cell? ⟨Qx,12,none⟩ = some (.int .i64 Qc)∧w'.cell? ⟨Qx,13,none⟩ = some (.int .i64 Qd)∧w'.cell? ⟨Qx,14,none⟩ = some (.int .i64 Qe)∧w'.cell? ⟨Qx,15,none⟩ = some (.int .i64 Qf)) (ds:=[]) #[false,false,false,false,false,false,false,false,false,false] (by kernel_rfl) rfl rfl ⟨(blk_cell Qt.out 0).trans rfl,(blk_cell Qt.out 1).trans rfl,(blk_cell Qt.out 2).trans rfl,(blk_cell Qt.out 3).trans rfl,(blk_cell Qt.out 4).trans rfl,(blk_cell Qt.out 5).trans rfl,(blk_cell Qt.out 6).trans rfl,(blk_cell Qt.out 7).trans rfl,(blk_cell Qt.out 8).trans rfl,(blk_cell Qt.out 9).trans rfl,(blk_cell Qt.out 10).trans rfl,(blk_cell Qt.out 11).trans rfl,(blk_cell Qt.out 12).trans rfl,(blk_cell Qt.out 13).trans rfl,(blk_cell Qt.out 14).trans rfl,(blk_cell Qt.out 15).trans rfl⟩ (fun hHeld=>?_);refine with_tabW plan_look_g.tab1 plan_look_g.bits1 (fun HT_ HW_=>?_)
  generalize w4.drew = w5 at Qt HB hHeld ⊢
  refine pure_ (i:=3) (N:=some 6) (v:=?_) (a':=?_) #[false,false,false,true,false,false,false,false,false,false] rfl rfl (any_of HT_.out (by kernel_rfl)) (fun _ _ _ h=>h) (Or.inl ⟨by rfl,?_⟩) ?_ ?_
  rotate_left
  ·intro w'
   go_simp
   with_reducible rfl
  rotate_left
  ·simp only [Act.put,List.setIfInBounds_toArray,List.set_cons_zero,List.set_cons_succ,i64_w,i32_w]
   rfl
  refine pure_ (i:=4) (N:=some 7) (v:=?_) (a':=?_) #[false,false,false,true,true,false,false,false,false,false] rfl rfl (any_of HT_.out (by kernel_rfl)) (fun _ _ _ h=>h) (Or.inl ⟨by rfl,?_⟩) ?_ ?_
  rotate_left
  ·intro w'
   go_simp
   with_reducible rfl
  rotate_left
  ·simp only [Act.put,List.setIfInBounds_toArray,List.set_cons_zero,List.set_cons_succ,i64_w,i32_w]
   rfl
  refine take_ (i:=0) (N:=some 3) (v:=?_) (a':=?_) #[true,false,false,true,true,false,false,false,false,false] rfl rfl (take_ofW HT_.out HW_.out (by kernel_rfl)) (fun _ _ _ h=>h) (Or.inl ⟨by rfl,?_⟩) hHeld ?_ ?_
  rotate_left
  ·rintro w' ⟨s0,s1,s2,s3,s4,s5,s6,s7,s8,s9,s10,s11,s12,s13,s14,s15⟩
   go_simp
   with_reducible rfl
  rotate_left
  ·simp only [Act.put,List.setIfInBounds_toArray,List.set_cons_zero,List.set_cons_succ,i64_w,i32_w]
   rfl
  refine take_ (i:=5) (N:=some 8) (v:=?_) (a':=?_) #[true,false,false,true,true,true,false,false,false,false] rfl rfl (take_ofW HT_.out HW_.out (by kernel_rfl)) (fun _ _ _ h=>h) (Or.inl ⟨by rfl,?_⟩) hHeld ?_ ?_
  rotate_left
  ·rintro w' ⟨s0,s1,s2,s3,s4,s5,s6,s7,s8,s9,s10,s11,s12,s13,s14,s15⟩
   go_simp
   with_reducible rfl
  rotate_left
  ·simp only [Act.put,List.setIfInBounds_toArray,List.set_cons_zero,List.set_cons_succ,i64_w,i32_w]
   rfl
  refine one_ (i:=1) (N:=some 4) #[true,true,false,true,true,true,false,false,false,false] rfl rfl (one_of HT_.out (by kernel_rfl)) (by decide) (fun K hK=>?_)
  refine goes_ Try.func61 (by kernel_rfl) rfl #[.agg #[.int .i64 Qi,.int .i64 Qn,.int .i64 Qj,.int .i64 Qp,.int .i64 Qq,.int .i64 Qk,.int .i64 Qg,.int .i64 Qm,.int .i64 Qh,.int .i64 Ql,.int .i64 Qa,.int .i64 Qb,.int .i64 Qc,.int .i64 Qd,.int .i64 Qe,.int .i64 Qf]] (by rfl) rfl rfl (by (try simp only [List.map_toArray,List.map_cons,List.map_nil]);first|done|rfl|(simp only [List.length_drop,List.length_take];rfl)) ?_
  with_reducible refine (plan_look_round.calls Qi Qn Qj Qp Qq Qk Qg Qm Qh Ql Qa Qb Qc Qd Qe Qf t112 _ A2.out).mono ?_
  rintro e w6 ⟨rfl,hb⟩
  refine ⟨_,rfl,?_⟩
  have n0_:=Aside0.mk (blk_below (g:=Qx) (o:=.cells #[.int .i64 Qi,.int .i64 Qn,.int .i64 Qj,.int .i64 Qp,.int .i64 Qq,.int .i64 Qk,.int .i64 Qg,.int .i64 Qm,.int .i64 Qh,.int .i64 Ql,.int .i64 Qa,.int .i64 Qb,.int .i64 Qc,.int .i64 Qd,.int .i64 Qe,.int .i64 Qf] 72 (0,0)) (by (with_reducible repeat (first|refine blk_drewN ?_ _|refine blk_drew ?_|refine blk_alloc ?_ _));exact Qt.out) hb)
  have n1_:=Aside0.mk (below_step (by repeat (first|(with_reducible first|exact HB.out|apply below_alloc|apply pw_below_drewN|apply below_drew1|refine below_set ?_ GE111.out)|exact HB.out)) hb)
  clear Qt
  clear HB
  have Qt:=n0_
  have HB:=n1_
  clear n0_ n1_
  (try clear hb)
  (try clear hb2)
  (try clear hk)
  (try clear hi)
  refine hK.out _ _ ⟨(blk_cell Qt.out 0).trans rfl,(blk_cell Qt.out 1).trans rfl,(blk_cell Qt.out 2).trans rfl,(blk_cell Qt.out 3).trans rfl,(blk_cell Qt.out 4).trans rfl,(blk_cell Qt.out 5).trans rfl,(blk_cell Qt.out 6).trans rfl,(blk_cell Qt.out 7).trans rfl,(blk_cell Qt.out 8).trans rfl,(blk_cell Qt.out 9).trans rfl,(blk_cell Qt.out 10).trans rfl,(blk_cell Qt.out 11).trans rfl,(blk_cell Qt.out 12).trans rfl,(blk_cell Qt.out 13).trans rfl,(blk_cell Qt.out 14).trans rfl,(blk_cell Qt.out 15).trans rfl⟩ (fun hHeld=>?_)
  clear hK K
  refine norm_ (a':=?_) ?_ ?_
  rotate_left
  ·show Act.put _ (some 4) _ = _
   simp only [Act.put,List.setIfInBounds_toArray,List.set_cons_zero,List.set_cons_succ,i64_w,i32_w]
   rfl
  refine pure_ (i:=2) (N:=some 5) (v:=?_) (a':=?_) #[true,true,true,true,true,true,false,false,false,false] rfl rfl (any_of HT_.out (by kernel_rfl)) (fun _ _ _ h=>h) (Or.inl ⟨by rfl,?_⟩) ?_ ?_
  rotate_left
  ·intro w'
   go_simp
   with_reducible rfl
  rotate_left
  ·simp only [Act.put,List.setIfInBounds_toArray,List.set_cons_zero,List.set_cons_succ,i64_w,i32_w]
   rfl
  refine pure_ (i:=6) (N:=some 9) (v:=?_) (a':=?_) #[true,true,true,true,true,true,true,false,false,false] rfl rfl (any_of HT_.out (by kernel_rfl)) (fun _ _ _ h=>h) (Or.inl ⟨by rfl,?_⟩) ?_ ?_
  rotate_left
  ·intro w'
   go_simp
   with_reducible rfl
  rotate_left
  ·simp only [Act.put,List.setIfInBounds_toArray,List.set_cons_zero,List.set_cons_succ,i64_w,i32_w]
   rfl
  refine pure_ (i:=7) (N:=some 10) (v:=?_) (a':=?_) #[true,true,true,true,true,true,true,true,false,false] rfl rfl (any_of HT_.out (by kernel_rfl)) (fun _ _ _ h=>h) (Or.inl ⟨by rfl,?_⟩) ?_ ?_
  rotate_left
  ·intro w'
   go_simp
   with_reducible rfl
  rotate_left
  ·simp only [Act.put,List.setIfInBounds_toArray,List.set_cons_zero,List.set_cons_succ,i64_w,i32_w]
   rfl
  refine pure_ (i:=8) (N:=some 11) (v:=?_) (a':=?_) #[true,true,true,true,true,true,true,true,true,false] rfl rfl (any_of HT_.out (by kernel_rfl)) (fun _ _ _ h=>h) (Or.inl ⟨by rfl,?_⟩) ?_ ?_
  rotate_left
  ·intro w'
   go_simp
   with_reducible rfl
  rotate_left
  ·simp only [Act.put,List.setIfInBounds_toArray,List.set_cons_zero,List.set_cons_succ,i64_w,i32_w]
   rfl
  refine pure_ (i:=9) (N:=some 2) (v:=?_) (a':=?_) #[true,true,true,true,true,true,true,true,true,true] rfl rfl (any_of HT_.out (by kernel_rfl)) (fun _ _ _ h=>h) (Or.inl ⟨by rfl,?_⟩) ?_ ?_
  rotate_left
  ·intro w'
   go_simp
   with_reducible rfl
  rotate_left
  ·simp only [Act.put,List.setIfInBounds_toArray,List.set_cons_zero,List.set_cons_succ,i64_w,i32_w]
   rfl
  refine done_ (done_of HT_.out (by kernel_rfl)) ?_
  try go_wp2
  go_ret
  exact ⟨by first|rfl|(simp [errW_none,errW_some] <;> rfl)|(simp [*,errW_none,errW_some] <;> rfl),by repeat (first|(with_reducible first|exact HB.out|apply below_alloc|apply pw_below_drewN|apply below_drew1|refine below_set ?_ GE111.out)|exact HB.out)⟩

/-! ### plan_look_e: function 68 -/
def plan_look_e.f (Qi : Int) (Qn : Int) (Qj : Int) (Qp : Int) (Qq : Int) (Qk : Int) (Qg : Int) (Qm : Int) (Qh : Int) (Ql : Int) (Qa : Int) (Qb : Int) (Qc : Int) (Qd : Int) (Qe : Int) (Qf : Int) : Option (Int):=some (wrap64 ((wrap64 (Qm - Qg)) + 6))
set_option maxHeartbeats 8000000 in
set_option maxRecDepth 100000 in
theorem plan_look_e.calls (Qi : Int) (Qn : Int) (Qj : Int) (Qp : Int) (Qq : Int) (Qk : Int) (Qg : Int) (Qm : Int) (Qh : Int) (Ql : Int) (Qa : Int) (Qb : Int) (Qc : Int) (Qd : Int) (Qe : Int) (Qf : Int) (r : Int) (w : World) (h : plan_look_e.f Qi Qn Qj Qp Qq Qk Qg Qm Qh Ql Qa Qb Qc Qd Qe Qf = some r) :
  Calls Try.prog 68 #[.agg #[.int .i64 Qi,.int .i64 Qn,.int .i64 Qj,.int .i64 Qp,.int .i64 Qq,.int .i64 Qk,.int .i64 Qg,.int .i64 Qm,.int .i64 Qh,.int .i64 Ql,.int .i64 Qa,.int .i64 Qb,.int .i64 Qc,.int .i64 Qd,.int .i64 Qe,.int .i64 Qf]] w fun e w'=>e = .returned (.int .i64 r)∧Below w.heap.size w w':=by
 have hu72:=Try.underlying72
 have HB:=Aside0.mk (Below.refl w.heap.size w)
 have H : (some (wrap64 ((wrap64 (Qm - Qg)) + 6))) = some r:=h
 clear h
 obtain rfl:=Option.some.inj H
 go_enter Try.func68,Try.ntmps68
 go_wp2_with (first|((with_reducible refine gate_dst (N:=1) rfl ?_);refine box_event ?hg (N:=1) ?hd (cs:=#[.int .i64 Qi,.int .i64 Qn,.int .i64 Qj,.int .i64 Qp,.int .i64 Qq,.int .i64 Qk,.int .i64 Qg,.int .i64 Qm,.int .i64 Qh,.int .i64 Ql,.int .i64 Qa,.int .i64 Qb,.int .i64 Qc,.int .i64 Qd,.int .i64 Qe,.int .i64 Qf]) (t:=72) ?hr ?_;(case hd=>rfl);(case hg=>rfl);(case hr=>first|(go_simp;done)|(go_simp;rfl));intro gb113 hg w2 hbox hb;have n0_:=Aside0.mk (below_step (by repeat (first|(with_reducible first|exact HB.out|apply below_alloc|apply pw_below_drewN|apply below_drew1)|exact HB.out)) hb);have n1_:=Aside0.mk (hbox);have n2_:=Aside0.mk ((by rw [hg];exact (below_size (by repeat (first|(with_reducible first|exact HB.out|apply below_alloc|apply pw_below_drewN|apply below_drew1)|exact HB.out))) : w.heap.size ≤ gb113));have n3_:=Aside0.mk ((by rw [hg];exact (below_size (by repeat (first|(with_reducible first|exact HB.out|apply below_alloc|apply pw_below_drewN|apply below_drew1)|exact HB.out))) : w.heap.size ≤ gb113));clear HB;have HB:=n0_;have BK113:=n1_;have GW113:=n2_;have GE113:=n3_;clear n0_ n1_ n2_ n3_;clear hb hbox hg;obtain ⟨hcz3_0,hcz3_1,hcz3_2,hcz3_3,hcz3_4,hcz3_5,hcz3_6,hcz3_7,hcz3_8,hcz3_9,hcz3_10,hcz3_11,hcz3_12,hcz3_13,hcz3_14,hcz3_15⟩:=bc16_ (w:=w2) (g:=gb113) (.int .i64 Qi) (.int .i64 Qn) (.int .i64 Qj) (.int .i64 Qp) (.int .i64 Qq) (.int .i64 Qk) (.int .i64 Qg) (.int .i64 Qm) (.int .i64 Qh) (.int .i64 Ql) (.int .i64 Qa) (.int .i64 Qb) (.int .i64 Qc) (.int .i64 Qd) (.int .i64 Qe) (.int .i64 Qf) BK113.out;obtain ⟨hfz3_0,hfz3_1,hfz3_2,hfz3_3,hfz3_4,hfz3_5,hfz3_6,hfz3_7,hfz3_8,hfz3_9,hfz3_10,hfz3_11,hfz3_12,hfz3_13,hfz3_14,hfz3_15⟩:=bf16_ BK113.out))
 go_ret
 exact ⟨by first|rfl|(simp [errW_none,errW_some] <;> rfl)|(simp [*,errW_none,errW_some] <;> rfl),by repeat (first|(with_reducible first|exact HB.out|apply below_alloc|apply pw_below_drewN|apply below_drew1|refine below_set ?_ GE113.out)|exact HB.out)⟩

/-! ### plan_look_a: function 66 -/
def plan_look_a.f (Qi : Int) (Qn : Int) (Qj : Int) (Qp : Int) (Qq : Int) (Qk : Int) (Qg : Int) (Qm : Int) (Qh : Int) (Ql : Int) (Qa : Int) (Qb : Int) (Qc : Int) (Qd : Int) (Qe : Int) (Qf : Int) : Option (Int):=(plan_look_e.f Qi Qn Qj Qp Qq Qk Qg Qm Qh Ql Qa Qb Qc Qd Qe Qf).bind fun t115=>((plan_look_g.f Qi Qn Qj Qp Qq Qk Qg Qm Qh Ql Qa Qb Qc Qd Qe Qf).bind fun t116=>(some (wrap64 (2 * (wrap64 (t115 + t116))))))
set_option maxHeartbeats 8000000 in
set_option maxRecDepth 100000 in
theorem plan_look_a.calls (Qi : Int) (Qn : Int) (Qj : Int) (Qp : Int) (Qq : Int) (Qk : Int) (Qg : Int) (Qm : Int) (Qh : Int) (Ql : Int) (Qa : Int) (Qb : Int) (Qc : Int) (Qd : Int) (Qe : Int) (Qf : Int) (r : Int) (w : World) (h : plan_look_a.f Qi Qn Qj Qp Qq Qk Qg Qm Qh Ql Qa Qb Qc Qd Qe Qf = some r) :
  Calls Try.prog 66 #[.agg #[.int .i64 Qi,.int .i64 Qn,.int .i64 Qj,.int .i64 Qp,.int .i64 Qq,.int .i64 Qk,.int .i64 Qg,.int .i64 Qm,.int .i64 Qh,.int .i64 Ql,.int .i64 Qa,.int .i64 Qb,.int .i64 Qc,.int .i64 Qd,.int .i64 Qe,.int .i64 Qf]] w fun e w'=>e = .returned (.int .i64 r)∧Below w.heap.size w w':=by
 have hu72:=Try.underlying72
 have HB:=Aside0.mk (Below.refl w.heap.size w)
 have H : ((plan_look_e.f Qi Qn Qj Qp Qq Qk Qg Qm Qh Ql Qa Qb Qc Qd Qe Qf).bind fun t115=>((plan_look_g.f Qi Qn Qj Qp Qq Qk Qg Qm Qh Ql Qa Qb Qc Qd Qe Qf).bind fun t116=>(some (wrap64 (2 * (wrap64 (t115 + t116))))))) = some r:=h
 clear h
 replace H:=Option.bind_eq_some_iff.mp H
 obtain ⟨t115,A20,H⟩:=H
 replace H : ((plan_look_g.f Qi Qn Qj Qp Qq Qk Qg Qm Qh Ql Qa Qb Qc Qd Qe Qf).bind fun t116=>(some (wrap64 (2 * (wrap64 (t115 + t116)))))) = some r:=H
 have A2:=Aside0.mk A20
 clear A20
 replace H:=Option.bind_eq_some_iff.mp H
 obtain ⟨t116,A30,H⟩:=H
 replace H : (some (wrap64 (2 * (wrap64 (t115 + t116))))) = some r:=H
 have A3:=Aside0.mk A30
 clear A30
 obtain rfl:=Option.some.inj H
 go_enter Try.func66,Try.ntmps66
 try go_wp2_with (first|((with_reducible refine gate_dst (N:=1) rfl ?_);refine box_event ?hg (N:=1) ?hd (cs:=#[.int .i64 Qi,.int .i64 Qn,.int .i64 Qj,.int .i64 Qp,.int .i64 Qq,.int .i64 Qk,.int .i64 Qg,.int .i64 Qm,.int .i64 Qh,.int .i64 Ql,.int .i64 Qa,.int .i64 Qb,.int .i64 Qc,.int .i64 Qd,.int .i64 Qe,.int .i64 Qf]) (t:=72) ?hr ?_;(case hd=>rfl);(case hg=>rfl);(case hr=>first|(go_simp;done)|(go_simp;rfl));intro Qw hg w4 hbox hb;have n0_:=Aside0.mk (below_step (by repeat (first|(with_reducible first|exact HB.out|apply below_alloc|apply pw_below_drewN|apply below_drew1)|exact HB.out)) hb);have n1_:=Aside0.mk (hbox);have n2_:=Aside0.mk ((by rw [hg];exact (below_size (by repeat (first|(with_reducible first|exact HB.out|apply below_alloc|apply pw_below_drewN|apply below_drew1)|exact HB.out))) : w.heap.size ≤ Qw));have n3_:=Aside0.mk ((by rw [hg];exact (below_size (by repeat (first|(with_reducible first|exact HB.out|apply below_alloc|apply pw_below_drewN|apply below_drew1)|exact HB.out))) : w.heap.size ≤ Qw));clear HB;have HB:=n0_;have Qr:=n1_;have GW114:=n2_;have GE114:=n3_;clear n0_ n1_ n2_ n3_;clear hb hbox hg))
 have n0_:=Aside0.mk (blk_drew Qr.out)
 have n1_:=Aside0.mk (below_drew1 HB.out)
 clear Qr
 clear HB
 have Qr:=n0_
 have HB:=n1_
 clear n0_ n1_
 refine start_ (n:=7) (S:=fun w'=>w'.cell? ⟨Qw,0,none⟩ = some (.int .i64 Qi)∧w'.cell? ⟨Qw,1,none⟩ = some (.int .i64 Qn)∧w'.cell? ⟨Qw,2,none⟩ = some (.int .i64 Qj)∧w'.cell? ⟨Qw,3,none⟩ = some (.int .i64 Qp)∧w'.cell? ⟨Qw,4,none⟩ = some (.int .i64 Qq)∧w'.cell? ⟨Qw,5,none⟩ = some (.int .i64 Qk)∧w'.cell? ⟨Qw,6,none⟩ = some (.int .i64 Qg)∧w'.cell? ⟨Qw,7,none⟩ = some (.int .i64 Qm)∧w'.cell? ⟨Qw,8,none⟩ = some (.int .i64 Qh)∧w'.cell? ⟨Qw,9,none⟩ = some (.int .i64 Ql)∧w'.cell? ⟨Qw,10,none⟩ = some (.int .i64 Qa)∧w'.cell? ⟨Qw,11,none⟩ = some (.int .i64 Qb)∧w'.cell? ⟨Qw,12,none⟩ = some (.int .i64 Qc)∧w'.cell? ⟨Qw,13,none⟩ = some (.int .i64 Qd)∧w'.cell? ⟨Qw,14,none⟩ = some (.int .i64 Qe)∧w'.cell? ⟨Qw,15,none⟩ = some (.int .i64 Qf)) (ds:=[]) #[false,false,false,false,false,false,false] (by kernel_rfl) rfl rfl ⟨(blk_cell Qr.out 0).trans rfl,(blk_cell Qr.out 1).trans rfl,(blk_cell Qr.out 2).trans rfl,(blk_cell Qr.out 3).trans rfl,(blk_cell Qr.out 4).trans rfl,(blk_cell Qr.out 5).trans rfl,(blk_cell Qr.out 6).trans rfl,(blk_cell Qr.out 7).trans rfl,(blk_cell Qr.out 8).trans rfl,(blk_cell Qr.out 9).trans rfl,(blk_cell Qr.out 10).trans rfl,(blk_cell Qr.out 11).trans rfl,(blk_cell Qr.out 12).trans rfl,(blk_cell Qr.out 13).trans rfl,(blk_cell Qr.out 14).trans rfl,(blk_cell Qr.out 15).trans rfl⟩ (fun hHeld=>?_)
 generalize w4.drew = w5 at Qr HB hHeld ⊢
 refine take_ (i:=0) (N:=some 3) (v:=?_) (a':=?_) #[true,false,false,false,false,false,false] rfl rfl (by kernel_rfl) (fun _ _ _ h=>h) (Or.inl ⟨by rfl,?_⟩) hHeld ?_ ?_
 rotate_left
 ·rintro w' ⟨s0,s1,s2,s3,s4,s5,s6,s7,s8,s9,s10,s11,s12,s13,s14,s15⟩
  go_simp
  with_reducible rfl
 rotate_left
 ·simp only [Act.put,List.setIfInBounds_toArray,List.set_cons_zero,List.set_cons_succ,i64_w,i32_w]
  rfl
 refine take_ (i:=2) (N:=some 5) (v:=?_) (a':=?_) #[true,false,true,false,false,false,false] rfl rfl (by kernel_rfl) (fun _ _ _ h=>h) (Or.inl ⟨by rfl,?_⟩) hHeld ?_ ?_
 rotate_left
 ·rintro w' ⟨s0,s1,s2,s3,s4,s5,s6,s7,s8,s9,s10,s11,s12,s13,s14,s15⟩
  go_simp
  with_reducible rfl
 rotate_left
 ·simp only [Act.put,List.setIfInBounds_toArray,List.set_cons_zero,List.set_cons_succ,i64_w,i32_w]
  rfl
 refine one_ (i:=1) (N:=some 4) #[true,true,true,false,false,false,false] rfl rfl (by kernel_rfl) (by decide) (fun K hK=>?_)
 refine goes_ Try.func68 (by kernel_rfl) rfl #[.agg #[.int .i64 Qi,.int .i64 Qn,.int .i64 Qj,.int .i64 Qp,.int .i64 Qq,.int .i64 Qk,.int .i64 Qg,.int .i64 Qm,.int .i64 Qh,.int .i64 Ql,.int .i64 Qa,.int .i64 Qb,.int .i64 Qc,.int .i64 Qd,.int .i64 Qe,.int .i64 Qf]] (by rfl) rfl rfl (by (try simp only [List.map_toArray,List.map_cons,List.map_nil]);first|done|rfl|(simp only [List.length_drop,List.length_take];rfl)) ?_
 with_reducible refine (plan_look_e.calls Qi Qn Qj Qp Qq Qk Qg Qm Qh Ql Qa Qb Qc Qd Qe Qf t115 _ A2.out).mono ?_
 rintro e w6 ⟨rfl,hb⟩
 refine ⟨_,rfl,?_⟩
 have n0_:=Aside0.mk (blk_below (g:=Qw) (o:=.cells #[.int .i64 Qi,.int .i64 Qn,.int .i64 Qj,.int .i64 Qp,.int .i64 Qq,.int .i64 Qk,.int .i64 Qg,.int .i64 Qm,.int .i64 Qh,.int .i64 Ql,.int .i64 Qa,.int .i64 Qb,.int .i64 Qc,.int .i64 Qd,.int .i64 Qe,.int .i64 Qf] 72 (0,0)) (by (with_reducible repeat (first|refine blk_drewN ?_ _|refine blk_drew ?_|refine blk_alloc ?_ _));exact Qr.out) hb)
 have n1_:=Aside0.mk (below_step (by repeat (first|(with_reducible first|exact HB.out|apply below_alloc|apply pw_below_drewN|apply below_drew1|refine below_set ?_ GE114.out)|exact HB.out)) hb)
 clear Qr
 clear HB
 have Qr:=n0_
 have HB:=n1_
 clear n0_ n1_
 (try clear hb)
 (try clear hb2)
 (try clear hk)
 (try clear hi)
 refine hK.out _ _ ⟨(blk_cell Qr.out 0).trans rfl,(blk_cell Qr.out 1).trans rfl,(blk_cell Qr.out 2).trans rfl,(blk_cell Qr.out 3).trans rfl,(blk_cell Qr.out 4).trans rfl,(blk_cell Qr.out 5).trans rfl,(blk_cell Qr.out 6).trans rfl,(blk_cell Qr.out 7).trans rfl,(blk_cell Qr.out 8).trans rfl,(blk_cell Qr.out 9).trans rfl,(blk_cell Qr.out 10).trans rfl,(blk_cell Qr.out 11).trans rfl,(blk_cell Qr.out 12).trans rfl,(blk_cell Qr.out 13).trans rfl,(blk_cell Qr.out 14).trans rfl,(blk_cell Qr.out 15).trans rfl⟩ (fun hHeld=>?_)
 clear hK K
 refine norm_ (a':=?_) ?_ ?_
 rotate_left
 ·show Act.put _ (some 4) _ = _
  simp only [Act.put,List.setIfInBounds_toArray,List.set_cons_zero,List.set_cons_succ,i64_w,i32_w]
  rfl
 refine one_ (i:=3) (N:=some 6) #[true,true,true,true,false,false,false] rfl rfl (by kernel_rfl) (by decide) (fun K hK=>?_)
 refine goes_ Try.func67 (by kernel_rfl) rfl #[.agg #[.int .i64 Qi,.int .i64 Qn,.int .i64 Qj,.int .i64 Qp,.int .i64 Qq,.int .i64 Qk,.int .i64 Qg,.int .i64 Qm,.int .i64 Qh,.int .i64 Ql,.int .i64 Qa,.int .i64 Qb,.int .i64 Qc,.int .i64 Qd,.int .i64 Qe,.int .i64 Qf]] (by rfl) rfl rfl (by (try simp only [List.map_toArray,List.map_cons,List.map_nil]);first|done|rfl|(simp only [List.length_drop,List.length_take];rfl)) ?_
 with_reducible refine (plan_look_g.calls Qi Qn Qj Qp Qq Qk Qg Qm Qh Ql Qa Qb Qc Qd Qe Qf t116 _ A3.out).mono ?_
 rintro e w7 ⟨rfl,hb⟩
 refine ⟨_,rfl,?_⟩
 have n0_:=Aside0.mk (blk_below (g:=Qw) (o:=.cells #[.int .i64 Qi,.int .i64 Qn,.int .i64 Qj,.int .i64 Qp,.int .i64 Qq,.int .i64 Qk,.int .i64 Qg,.int .i64 Qm,.int .i64 Qh,.int .i64 Ql,.int .i64 Qa,.int .i64 Qb,.int .i64 Qc,.int .i64 Qd,.int .i64 Qe,.int .i64 Qf] 72 (0,0)) (by (with_reducible repeat (first|refine blk_drewN ?_ _|refine blk_drew ?_|refine blk_alloc ?_ _));exact Qr.out) hb)
 have n1_:=Aside0.mk (below_step (by repeat (first|(with_reducible first|exact HB.out|apply below_alloc|apply pw_below_drewN|apply below_drew1|refine below_set ?_ GE114.out)|exact HB.out)) hb)
 clear Qr
 clear HB
 have Qr:=n0_
 have HB:=n1_
 clear n0_ n1_
 (try clear hb)
 (try clear hb2)
 (try clear hk)
 (try clear hi)
 refine hK.out _ _ ⟨(blk_cell Qr.out 0).trans rfl,(blk_cell Qr.out 1).trans rfl,(blk_cell Qr.out 2).trans rfl,(blk_cell Qr.out 3).trans rfl,(blk_cell Qr.out 4).trans rfl,(blk_cell Qr.out 5).trans rfl,(blk_cell Qr.out 6).trans rfl,(blk_cell Qr.out 7).trans rfl,(blk_cell Qr.out 8).trans rfl,(blk_cell Qr.out 9).trans rfl,(blk_cell Qr.out 10).trans rfl,(blk_cell Qr.out 11).trans rfl,(blk_cell Qr.out 12).trans rfl,(blk_cell Qr.out 13).trans rfl,(blk_cell Qr.out 14).trans rfl,(blk_cell Qr.out 15).trans rfl⟩ (fun hHeld=>?_)
 clear hK K
 refine norm_ (a':=?_) ?_ ?_
 rotate_left
 ·show Act.put _ (some 6) _ = _
  simp only [Act.put,List.setIfInBounds_toArray,List.set_cons_zero,List.set_cons_succ,i64_w,i32_w]
  rfl
 refine pure_ (i:=4) (N:=some 7) (v:=?_) (a':=?_) #[true,true,true,true,true,false,false] rfl rfl (by kernel_rfl) (fun _ _ _ h=>h) (Or.inl ⟨by rfl,?_⟩) ?_ ?_
 rotate_left
 ·intro w'
  go_simp
  with_reducible rfl
 rotate_left
 ·simp only [Act.put,List.setIfInBounds_toArray,List.set_cons_zero,List.set_cons_succ,i64_w,i32_w]
  rfl
 refine pure_ (i:=5) (N:=some 8) (v:=?_) (a':=?_) #[true,true,true,true,true,true,false] rfl rfl (by kernel_rfl) (fun _ _ _ h=>h) (Or.inl ⟨by rfl,?_⟩) ?_ ?_
 rotate_left
 ·intro w'
  go_simp
  with_reducible rfl
 rotate_left
 ·simp only [Act.put,List.setIfInBounds_toArray,List.set_cons_zero,List.set_cons_succ,i64_w,i32_w]
  rfl
 refine pure_ (i:=6) (N:=some 2) (v:=?_) (a':=?_) #[true,true,true,true,true,true,true] rfl rfl (by kernel_rfl) (fun _ _ _ h=>h) (Or.inl ⟨by rfl,?_⟩) ?_ ?_
 rotate_left
 ·intro w'
  go_simp
  with_reducible rfl
 rotate_left
 ·simp only [Act.put,List.setIfInBounds_toArray,List.set_cons_zero,List.set_cons_succ,i64_w,i32_w]
  rfl
 refine done_ (by kernel_rfl) ?_
 try go_wp2
 go_ret
 exact ⟨by first|rfl|(simp [errW_none,errW_some] <;> rfl)|(simp [*,errW_none,errW_some] <;> rfl),by repeat (first|(with_reducible first|exact HB.out|apply below_alloc|apply pw_below_drewN|apply below_drew1|refine below_set ?_ GE114.out)|exact HB.out)⟩

/-! ### plan_look_leastPi: function 56 -/
def plan_look_leastPi.f (Qi : Int) (Qn : Int) (Qj : Int) (Qp : Int) (Qq : Int) (Qk : Int) (Qg : Int) (Qm : Int) (Qh : Int) (Ql : Int) (Qa : Int) (Qb : Int) (Qc : Int) (Qd : Int) (Qe : Int) (Qf : Int) : Option (Int):=(plan_look_a.f Qi Qn Qj Qp Qq Qk Qg Qm Qh Ql Qa Qb Qc Qd Qe Qf).bind fun t118=>((plan_look_g.f Qi Qn Qj Qp Qq Qk Qg Qm Qh Ql Qa Qb Qc Qd Qe Qf).bind fun QI=>((plan_look_e.f Qi Qn Qj Qp Qq Qk Qg Qm Qh Ql Qa Qb Qc Qd Qe Qf).bind fun QH=>(some (wrap64 ((wrap64 (2 * (wrap64 (t118 + QI)))) + QH)))))
def plan_look_leastPi.T1 : Bool × List (List Nat × List Nat):=(true,[([],[]),([0],[0]),([],[]),([2,1],[2]),([1,3],[1,3]),([4],[4]),([],[]),([6,3],[6]),([5,7],[5,7]),([8,7,0,1,2,3,4,5,6,7,8],[8])])
def plan_look_leastPi.B1 : List Nat:=[0,1,0,7,15,31,0,79,255,511]
theorem plan_look_leastPi.tab1 : rtab .any (opsOf Try.f56 1) = plan_look_leastPi.T1:=by kernel_rfl
theorem plan_look_leastPi.bits1 : waitsOk plan_look_leastPi.T1.2 plan_look_leastPi.B1 = true:=by kernel_rfl
set_option maxHeartbeats 8000000 in
set_option maxRecDepth 100000 in
theorem plan_look_leastPi.calls (Qi : Int) (Qn : Int) (Qj : Int) (Qp : Int) (Qq : Int) (Qk : Int) (Qg : Int) (Qm : Int) (Qh : Int) (Ql : Int) (Qa : Int) (Qb : Int) (Qc : Int) (Qd : Int) (Qe : Int) (Qf : Int) (r : Int) (w : World) (h : plan_look_leastPi.f Qi Qn Qj Qp Qq Qk Qg Qm Qh Ql Qa Qb Qc Qd Qe Qf = some r) :
  Calls Try.prog 56 #[.agg #[.int .i64 Qi,.int .i64 Qn,.int .i64 Qj,.int .i64 Qp,.int .i64 Qq,.int .i64 Qk,.int .i64 Qg,.int .i64 Qm,.int .i64 Qh,.int .i64 Ql,.int .i64 Qa,.int .i64 Qb,.int .i64 Qc,.int .i64 Qd,.int .i64 Qe,.int .i64 Qf]] w fun e w'=>e = .returned (.int .i64 r)∧Below w.heap.size w w':=by
 have hu72:=Try.underlying72
 have HB:=Aside0.mk (Below.refl w.heap.size w)
 have H : ((plan_look_a.f Qi Qn Qj Qp Qq Qk Qg Qm Qh Ql Qa Qb Qc Qd Qe Qf).bind fun t118=>((plan_look_g.f Qi Qn Qj Qp Qq Qk Qg Qm Qh Ql Qa Qb Qc Qd Qe Qf).bind fun QI=>((plan_look_e.f Qi Qn Qj Qp Qq Qk Qg Qm Qh Ql Qa Qb Qc Qd Qe Qf).bind fun QH=>(some (wrap64 ((wrap64 (2 * (wrap64 (t118 + QI)))) + QH)))))) = some r:=h
 clear h
 replace H:=Option.bind_eq_some_iff.mp H
 obtain ⟨t118,A20,H⟩:=H
 replace H : ((plan_look_g.f Qi Qn Qj Qp Qq Qk Qg Qm Qh Ql Qa Qb Qc Qd Qe Qf).bind fun QI=>((plan_look_e.f Qi Qn Qj Qp Qq Qk Qg Qm Qh Ql Qa Qb Qc Qd Qe Qf).bind fun QH=>(some (wrap64 ((wrap64 (2 * (wrap64 (t118 + QI)))) + QH))))) = some r:=H
 have A2:=Aside0.mk A20
 clear A20
 replace H:=Option.bind_eq_some_iff.mp H
 obtain ⟨QI,A30,H⟩:=H
 replace H : ((plan_look_e.f Qi Qn Qj Qp Qq Qk Qg Qm Qh Ql Qa Qb Qc Qd Qe Qf).bind fun QH=>(some (wrap64 ((wrap64 (2 * (wrap64 (t118 + QI)))) + QH)))) = some r:=H
 have A3:=Aside0.mk A30
 clear A30
 replace H:=Option.bind_eq_some_iff.mp H
 obtain ⟨QH,A40,H⟩:=H
 replace H : (some (wrap64 ((wrap64 (2 * (wrap64 (t118 + QI)))) + QH))) = some r:=H
 have A4:=Aside0.mk A40
 clear A40
 obtain rfl:=Option.some.inj H
 go_enter Try.func56,Try.ntmps56
 try go_wp2_with (first|((with_reducible refine gate_dst (N:=1) rfl ?_);refine box_event ?hg (N:=1) ?hd (cs:=#[.int .i64 Qi,.int .i64 Qn,.int .i64 Qj,.int .i64 Qp,.int .i64 Qq,.int .i64 Qk,.int .i64 Qg,.int .i64 Qm,.int .i64 Qh,.int .i64 Ql,.int .i64 Qa,.int .i64 Qb,.int .i64 Qc,.int .i64 Qd,.int .i64 Qe,.int .i64 Qf]) (t:=72) ?hr ?_;(case hd=>rfl);(case hg=>rfl);(case hr=>first|(go_simp;done)|(go_simp;rfl));intro Qv hg w5 hbox hb;have n0_:=Aside0.mk (below_step (by repeat (first|(with_reducible first|exact HB.out|apply below_alloc|apply pw_below_drewN|apply below_drew1)|exact HB.out)) hb);have n1_:=Aside0.mk (hbox);have n2_:=Aside0.mk ((by rw [hg];exact (below_size (by repeat (first|(with_reducible first|exact HB.out|apply below_alloc|apply pw_below_drewN|apply below_drew1)|exact HB.out))) : w.heap.size ≤ Qv));have n3_:=Aside0.mk ((by rw [hg];exact (below_size (by repeat (first|(with_reducible first|exact HB.out|apply below_alloc|apply pw_below_drewN|apply below_drew1)|exact HB.out))) : w.heap.size ≤ Qv));clear HB;have HB:=n0_;have Qo:=n1_;have GW117:=n2_;have GE117:=n3_;clear n0_ n1_ n2_ n3_;clear hb hbox hg))
 have n0_:=Aside0.mk (blk_drew Qo.out)
 have n1_:=Aside0.mk (below_drew1 HB.out)
 clear Qo
 clear HB
 have Qo:=n0_
 have HB:=n1_
 clear n0_ n1_
 refine start_ (n:=10) (S:=fun w'=>w'.cell? ⟨Qv,0,none⟩ = some (.int .i64 Qi)∧w'.cell? ⟨Qv,1,none⟩ = some (.int .i64 Qn)∧w'.cell? ⟨Qv,2,none⟩ = some (.int .i64 Qj)∧w'.cell? ⟨Qv,3,none⟩ = some (.int .i64 Qp)∧w'.cell? ⟨Qv,4,none⟩ = some (.int .i64 Qq)∧w'.cell? ⟨Qv,5,none⟩ = some (.int .i64 Qk)∧w'.cell? ⟨Qv,6,none⟩ = some (.int .i64 Qg)∧w'.cell? ⟨Qv,7,none⟩ = some (.int .i64 Qm)∧w'.cell? ⟨Qv,8,none⟩ = some (.int .i64 Qh)∧w'.cell? ⟨Qv,9,none⟩ = some (.int .i64 Ql)∧w'.cell? ⟨Qv,10,none⟩ = some (.int .i64 Qa)∧w'.cell? ⟨Qv,11,none⟩ = some (.int .i64 Qb)∧w'.cell? ⟨Qv,12,none⟩ = some (.int .i64 Qc)∧w'.cell? ⟨Qv,13,none⟩ = some (.int .i64 Qd)∧w'.cell? ⟨Qv,14,none⟩ = some (.int .i64 Qe)∧w'.cell? ⟨Qv,15,none⟩ = some (.int .i64 Qf)) (ds:=[]) #[false,false,false,false,false,false,false,false,false,false] (by kernel_rfl) rfl rfl ⟨(blk_cell Qo.out 0).trans rfl,(blk_cell Qo.out 1).trans rfl,(blk_cell Qo.out 2).trans rfl,(blk_cell Qo.out 3).trans rfl,(blk_cell Qo.out 4).trans rfl,(blk_cell Qo.out 5).trans rfl,(blk_cell Qo.out 6).trans rfl,(blk_cell Qo.out 7).trans rfl,(blk_cell Qo.out 8).trans rfl,(blk_cell Qo.out 9).trans rfl,(blk_cell Qo.out 10).trans rfl,(blk_cell Qo.out 11).trans rfl,(blk_cell Qo.out 12).trans rfl,(blk_cell Qo.out 13).trans rfl,(blk_cell Qo.out 14).trans rfl,(blk_cell Qo.out 15).trans rfl⟩ (fun hHeld=>?_);refine with_tabW plan_look_leastPi.tab1 plan_look_leastPi.bits1 (fun HT_ HW_=>?_)
 generalize w5.drew = w6 at Qo HB hHeld ⊢
 refine take_ (i:=0) (N:=some 3) (v:=?_) (a':=?_) #[true,false,false,false,false,false,false,false,false,false] rfl rfl (take_ofW HT_.out HW_.out (by kernel_rfl)) (fun _ _ _ h=>h) (Or.inl ⟨by rfl,?_⟩) hHeld ?_ ?_
 rotate_left
 ·rintro w' ⟨s0,s1,s2,s3,s4,s5,s6,s7,s8,s9,s10,s11,s12,s13,s14,s15⟩
  go_simp
  with_reducible rfl
 rotate_left
 ·simp only [Act.put,List.setIfInBounds_toArray,List.set_cons_zero,List.set_cons_succ,i64_w,i32_w]
  rfl
 refine take_ (i:=2) (N:=some 5) (v:=?_) (a':=?_) #[true,false,true,false,false,false,false,false,false,false] rfl rfl (take_ofW HT_.out HW_.out (by kernel_rfl)) (fun _ _ _ h=>h) (Or.inl ⟨by rfl,?_⟩) hHeld ?_ ?_
 rotate_left
 ·rintro w' ⟨s0,s1,s2,s3,s4,s5,s6,s7,s8,s9,s10,s11,s12,s13,s14,s15⟩
  go_simp
  with_reducible rfl
 rotate_left
 ·simp only [Act.put,List.setIfInBounds_toArray,List.set_cons_zero,List.set_cons_succ,i64_w,i32_w]
  rfl
 refine take_ (i:=6) (N:=some 9) (v:=?_) (a':=?_) #[true,false,true,false,false,false,true,false,false,false] rfl rfl (take_ofW HT_.out HW_.out (by kernel_rfl)) (fun _ _ _ h=>h) (Or.inl ⟨by rfl,?_⟩) hHeld ?_ ?_
 rotate_left
 ·rintro w' ⟨s0,s1,s2,s3,s4,s5,s6,s7,s8,s9,s10,s11,s12,s13,s14,s15⟩
  go_simp
  with_reducible rfl
 rotate_left
 ·simp only [Act.put,List.setIfInBounds_toArray,List.set_cons_zero,List.set_cons_succ,i64_w,i32_w]
  rfl
 refine one_ (i:=1) (N:=some 4) #[true,true,true,false,false,false,true,false,false,false] rfl rfl (one_of HT_.out (by kernel_rfl)) (by decide) (fun K hK=>?_)
 refine goes_ Try.func66 (by kernel_rfl) rfl #[.agg #[.int .i64 Qi,.int .i64 Qn,.int .i64 Qj,.int .i64 Qp,.int .i64 Qq,.int .i64 Qk,.int .i64 Qg,.int .i64 Qm,.int .i64 Qh,.int .i64 Ql,.int .i64 Qa,.int .i64 Qb,.int .i64 Qc,.int .i64 Qd,.int .i64 Qe,.int .i64 Qf]] (by rfl) rfl rfl (by (try simp only [List.map_toArray,List.map_cons,List.map_nil]);first|done|rfl|(simp only [List.length_drop,List.length_take];rfl)) ?_
 with_reducible refine (plan_look_a.calls Qi Qn Qj Qp Qq Qk Qg Qm Qh Ql Qa Qb Qc Qd Qe Qf t118 _ A2.out).mono ?_
 rintro e w7 ⟨rfl,hb⟩
 refine ⟨_,rfl,?_⟩
 have n0_:=Aside0.mk (blk_below (g:=Qv) (o:=.cells #[.int .i64 Qi,.int .i64 Qn,.int .i64 Qj,.int .i64 Qp,.int .i64 Qq,.int .i64 Qk,.int .i64 Qg,.int .i64 Qm,.int .i64 Qh,.int .i64 Ql,.int .i64 Qa,.int .i64 Qb,.int .i64 Qc,.int .i64 Qd,.int .i64 Qe,.int .i64 Qf] 72 (0,0)) (by (with_reducible repeat (first|refine blk_drewN ?_ _|refine blk_drew ?_|refine blk_alloc ?_ _));exact Qo.out) hb)
 have n1_:=Aside0.mk (below_step (by repeat (first|(with_reducible first|exact HB.out|apply below_alloc|apply pw_below_drewN|apply below_drew1|refine below_set ?_ GE117.out)|exact HB.out)) hb)
 clear Qo
 clear HB
 have Qo:=n0_
 have HB:=n1_
 clear n0_ n1_
 (try clear hb)
 (try clear hb2)
 (try clear hk)
 (try clear hi)
 refine hK.out _ _ ⟨(blk_cell Qo.out 0).trans rfl,(blk_cell Qo.out 1).trans rfl,(blk_cell Qo.out 2).trans rfl,(blk_cell Qo.out 3).trans rfl,(blk_cell Qo.out 4).trans rfl,(blk_cell Qo.out 5).trans rfl,(blk_cell Qo.out 6).trans rfl,(blk_cell Qo.out 7).trans rfl,(blk_cell Qo.out 8).trans rfl,(blk_cell Qo.out 9).trans rfl,(blk_cell Qo.out 10).trans rfl,(blk_cell Qo.out 11).trans rfl,(blk_cell Qo.out 12).trans rfl,(blk_cell Qo.out 13).trans rfl,(blk_cell Qo.out 14).trans rfl,(blk_cell Qo.out 15).trans rfl⟩ (fun hHeld=>?_)
 clear hK K
 refine norm_ (a':=?_) ?_ ?_
 rotate_left
 ·show Act.put _ (some 4) _ = _
  simp only [Act.put,List.setIfInBounds_toArray,List.set_cons_zero,List.set_cons_succ,i64_w,i32_w]
  rfl
 refine one_ (i:=3) (N:=some 6) #[true,true,true,true,false,false,true,false,false,false] rfl rfl (one_of HT_.out (by kernel_rfl)) (by decide) (fun K hK=>?_)
 refine goes_ Try.func67 (by kernel_rfl) rfl #[.agg #[.int .i64 Qi,.int .i64 Qn,.int .i64 Qj,.int .i64 Qp,.int .i64 Qq,.int .i64 Qk,.int .i64 Qg,.int .i64 Qm,.int .i64 Qh,.int .i64 Ql,.int .i64 Qa,.int .i64 Qb,.int .i64 Qc,.int .i64 Qd,.int .i64 Qe,.int .i64 Qf]] (by rfl) rfl rfl (by (try simp only [List.map_toArray,List.map_cons,List.map_nil]);first|done|rfl|(simp only [List.length_drop,List.length_take];rfl)) ?_
 with_reducible refine (plan_look_g.calls Qi Qn Qj Qp Qq Qk Qg Qm Qh Ql Qa Qb Qc Qd Qe Qf QI _ A3.out).mono ?_
 rintro e w8 ⟨rfl,hb⟩
 refine ⟨_,rfl,?_⟩
 have n0_:=Aside0.mk (blk_below (g:=Qv) (o:=.cells #[.int .i64 Qi,.int .i64 Qn,.int .i64 Qj,.int .i64 Qp,.int .i64 Qq,.int .i64 Qk,.int .i64 Qg,.int .i64 Qm,.int .i64 Qh,.int .i64 Ql,.int .i64 Qa,.int .i64 Qb,.int .i64 Qc,.int .i64 Qd,.int .i64 Qe,.int .i64 Qf] 72 (0,0)) (by (with_reducible repeat (first|refine blk_drewN ?_ _|refine blk_drew ?_|refine blk_alloc ?_ _));exact Qo.out) hb)
 have n1_:=Aside0.mk (below_step (by repeat (first|(with_reducible first|exact HB.out|apply below_alloc|apply pw_below_drewN|apply below_drew1|refine below_set ?_ GE117.out)|exact HB.out)) hb)
 clear Qo
 clear HB
 have Qo:=n0_
 have HB:=n1_
 clear n0_ n1_
 (try clear hb)
 (try clear hb2)
 (try clear hk)
 (try clear hi)
 refine hK.out _ _ ⟨(blk_cell Qo.out 0).trans rfl,(blk_cell Qo.out 1).trans rfl,(blk_cell Qo.out 2).trans rfl,(blk_cell Qo.out 3).trans rfl,(blk_cell Qo.out 4).trans rfl,(blk_cell Qo.out 5).trans rfl,(blk_cell Qo.out 6).trans rfl,(blk_cell Qo.out 7).trans rfl,(blk_cell Qo.out 8).trans rfl,(blk_cell Qo.out 9).trans rfl,(blk_cell Qo.out 10).trans rfl,(blk_cell Qo.out 11).trans rfl,(blk_cell Qo.out 12).trans rfl,(blk_cell Qo.out 13).trans rfl,(blk_cell Qo.out 14).trans rfl,(blk_cell Qo.out 15).trans rfl⟩ (fun hHeld=>?_)
 clear hK K
 refine norm_ (a':=?_) ?_ ?_
 rotate_left
 ·show Act.put _ (some 6) _ = _
  simp only [Act.put,List.setIfInBounds_toArray,List.set_cons_zero,List.set_cons_succ,i64_w,i32_w]
  rfl
 refine pure_ (i:=4) (N:=some 7) (v:=?_) (a':=?_) #[true,true,true,true,true,false,true,false,false,false] rfl rfl (any_of HT_.out (by kernel_rfl)) (fun _ _ _ h=>h) (Or.inl ⟨by rfl,?_⟩) ?_ ?_
 rotate_left
 ·intro w'
  go_simp
  with_reducible rfl
 rotate_left
 ·simp only [Act.put,List.setIfInBounds_toArray,List.set_cons_zero,List.set_cons_succ,i64_w,i32_w]
  rfl
 refine pure_ (i:=5) (N:=some 8) (v:=?_) (a':=?_) #[true,true,true,true,true,true,true,false,false,false] rfl rfl (any_of HT_.out (by kernel_rfl)) (fun _ _ _ h=>h) (Or.inl ⟨by rfl,?_⟩) ?_ ?_
 rotate_left
 ·intro w'
  go_simp
  with_reducible rfl
 rotate_left
 ·simp only [Act.put,List.setIfInBounds_toArray,List.set_cons_zero,List.set_cons_succ,i64_w,i32_w]
  rfl
 refine one_ (i:=7) (N:=some 10) #[true,true,true,true,true,true,true,true,false,false] rfl rfl (one_of HT_.out (by kernel_rfl)) (by decide) (fun K hK=>?_)
 refine goes_ Try.func68 (by kernel_rfl) rfl #[.agg #[.int .i64 Qi,.int .i64 Qn,.int .i64 Qj,.int .i64 Qp,.int .i64 Qq,.int .i64 Qk,.int .i64 Qg,.int .i64 Qm,.int .i64 Qh,.int .i64 Ql,.int .i64 Qa,.int .i64 Qb,.int .i64 Qc,.int .i64 Qd,.int .i64 Qe,.int .i64 Qf]] (by rfl) rfl rfl (by (try simp only [List.map_toArray,List.map_cons,List.map_nil]);first|done|rfl|(simp only [List.length_drop,List.length_take];rfl)) ?_
 with_reducible refine (plan_look_e.calls Qi Qn Qj Qp Qq Qk Qg Qm Qh Ql Qa Qb Qc Qd Qe Qf QH _ A4.out).mono ?_
 rintro e w9 ⟨rfl,hb⟩
 refine ⟨_,rfl,?_⟩
 have n0_:=Aside0.mk (blk_below (g:=Qv) (o:=.cells #[.int .i64 Qi,.int .i64 Qn,.int .i64 Qj,.int .i64 Qp,.int .i64 Qq,.int .i64 Qk,.int .i64 Qg,.int .i64 Qm,.int .i64 Qh,.int .i64 Ql,.int .i64 Qa,.int .i64 Qb,.int .i64 Qc,.int .i64 Qd,.int .i64 Qe,.int .i64 Qf] 72 (0,0)) (by (with_reducible repeat (first|refine blk_drewN ?_ _|refine blk_drew ?_|refine blk_alloc ?_ _));exact Qo.out) hb)
 have n1_:=Aside0.mk (below_step (by repeat (first|(with_reducible first|exact HB.out|apply below_alloc|apply pw_below_drewN|apply below_drew1|refine below_set ?_ GE117.out)|exact HB.out)) hb)
 clear Qo
 clear HB
 have Qo:=n0_
 have HB:=n1_
 clear n0_ n1_
 (try clear hb)
 (try clear hb2)
 (try clear hk)
 (try clear hi)
 refine hK.out _ _ ⟨(blk_cell Qo.out 0).trans rfl,(blk_cell Qo.out 1).trans rfl,(blk_cell Qo.out 2).trans rfl,(blk_cell Qo.out 3).trans rfl,(blk_cell Qo.out 4).trans rfl,(blk_cell Qo.out 5).trans rfl,(blk_cell Qo.out 6).trans rfl,(blk_cell Qo.out 7).trans rfl,(blk_cell Qo.out 8).trans rfl,(blk_cell Qo.out 9).trans rfl,(blk_cell Qo.out 10).trans rfl,(blk_cell Qo.out 11).trans rfl,(blk_cell Qo.out 12).trans rfl,(blk_cell Qo.out 13).trans rfl,(blk_cell Qo.out 14).trans rfl,(blk_cell Qo.out 15).trans rfl⟩ (fun hHeld=>?_)
 clear hK K
 refine norm_ (a':=?_) ?_ ?_
 rotate_left
 ·show Act.put _ (some 10) _ = _
  simp only [Act.put,List.setIfInBounds_toArray,List.set_cons_zero,List.set_cons_succ,i64_w,i32_w]
  rfl
 refine pure_ (i:=8) (N:=some 11) (v:=?_) (a':=?_) #[true,true,true,true,true,true,true,true,true,false] rfl rfl (any_of HT_.out (by kernel_rfl)) (fun _ _ _ h=>h) (Or.inl ⟨by rfl,?_⟩) ?_ ?_
 rotate_left
 ·intro w'
  go_simp
  with_reducible rfl
 rotate_left
 ·simp only [Act.put,List.setIfInBounds_toArray,List.set_cons_zero,List.set_cons_succ,i64_w,i32_w]
  rfl
 refine pure_ (i:=9) (N:=some 2) (v:=?_) (a':=?_) #[true,true,true,true,true,true,true,true,true,true] rfl rfl (any_of HT_.out (by kernel_rfl)) (fun _ _ _ h=>h) (Or.inl ⟨by rfl,?_⟩) ?_ ?_
 rotate_left
 ·intro w'
  go_simp
  with_reducible rfl
 rotate_left
 ·simp only [Act.put,List.setIfInBounds_toArray,List.set_cons_zero,List.set_cons_succ,i64_w,i32_w]
  rfl
 refine done_ (done_of HT_.out (by kernel_rfl)) ?_
 try go_wp2
 go_ret
 exact ⟨by first|rfl|(simp [errW_none,errW_some] <;> rfl)|(simp [*,errW_none,errW_some] <;> rfl),by repeat (first|(with_reducible first|exact HB.out|apply below_alloc|apply pw_below_drewN|apply below_drew1|refine below_set ?_ GE117.out)|exact HB.out)⟩

/-! ### plan_look_pi: function 48 -/
def plan_look_pi.f (Qi : Int) (Qn : Int) (Qj : Int) (Qp : Int) (Qq : Int) (Qk : Int) (Qg : Int) (Qm : Int) (Qh : Int) (Ql : Int) (Qa : Int) (Qb : Int) (Qc : Int) (Qd : Int) (Qe : Int) (Qf : Int) : Option (Bool):=(plan_look_leastPi.f Qi Qn Qj Qp Qq Qk Qg Qm Qh Ql Qa Qb Qc Qd Qe Qf).bind fun t122=>((plan_in.f Ql t122 1048576).bind fun t123=>(some t123))
set_option maxHeartbeats 8000000 in
set_option maxRecDepth 100000 in
theorem plan_look_pi.calls (Qi : Int) (Qn : Int) (Qj : Int) (Qp : Int) (Qq : Int) (Qk : Int) (Qg : Int) (Qm : Int) (Qh : Int) (Ql : Int) (Qa : Int) (Qb : Int) (Qc : Int) (Qd : Int) (Qe : Int) (Qf : Int) (r : Bool) (w : World) (h : plan_look_pi.f Qi Qn Qj Qp Qq Qk Qg Qm Qh Ql Qa Qb Qc Qd Qe Qf = some r) :
  Calls Try.prog 48 #[.agg #[.int .i64 Qi,.int .i64 Qn,.int .i64 Qj,.int .i64 Qp,.int .i64 Qq,.int .i64 Qk,.int .i64 Qg,.int .i64 Qm,.int .i64 Qh,.int .i64 Ql,.int .i64 Qa,.int .i64 Qb,.int .i64 Qc,.int .i64 Qd,.int .i64 Qe,.int .i64 Qf]] w fun e w'=>e = .returned (.bool r)∧Below w.heap.size w w':=by
 have hu72:=Try.underlying72
 have HB:=Aside0.mk (Below.refl w.heap.size w)
 have H : ((plan_look_leastPi.f Qi Qn Qj Qp Qq Qk Qg Qm Qh Ql Qa Qb Qc Qd Qe Qf).bind fun t122=>((plan_in.f Ql t122 1048576).bind fun t123=>(some t123))) = some r:=h
 clear h
 replace H:=Option.bind_eq_some_iff.mp H
 obtain ⟨t122,A20,H⟩:=H
 replace H : ((plan_in.f Ql t122 1048576).bind fun t123=>(some t123)) = some r:=H
 have A2:=Aside0.mk A20
 clear A20
 replace H:=Option.bind_eq_some_iff.mp H
 obtain ⟨t123,A30,H⟩:=H
 replace H : (some t123) = some r:=H
 have A3:=Aside0.mk A30
 clear A30
 obtain rfl:=Option.some.inj H
 go_enter Try.func48,Try.ntmps48
 try go_wp2_with (first|((with_reducible refine gate_dst (N:=1) rfl ?_);refine box_event ?hg (N:=1) ?hd (cs:=#[.int .i64 Qi,.int .i64 Qn,.int .i64 Qj,.int .i64 Qp,.int .i64 Qq,.int .i64 Qk,.int .i64 Qg,.int .i64 Qm,.int .i64 Qh,.int .i64 Ql,.int .i64 Qa,.int .i64 Qb,.int .i64 Qc,.int .i64 Qd,.int .i64 Qe,.int .i64 Qf]) (t:=72) ?hr ?_;(case hd=>rfl);(case hg=>rfl);(case hr=>first|(go_simp;done)|(go_simp;rfl));intro Qy hg w4 hbox hb;have n0_:=Aside0.mk (below_step (by repeat (first|(with_reducible first|exact HB.out|apply below_alloc|apply pw_below_drewN|apply below_drew1)|exact HB.out)) hb);have n1_:=Aside0.mk (hbox);have n2_:=Aside0.mk ((by rw [hg];exact (below_size (by repeat (first|(with_reducible first|exact HB.out|apply below_alloc|apply pw_below_drewN|apply below_drew1)|exact HB.out))) : w.heap.size ≤ Qy));have n3_:=Aside0.mk ((by rw [hg];exact (below_size (by repeat (first|(with_reducible first|exact HB.out|apply below_alloc|apply pw_below_drewN|apply below_drew1)|exact HB.out))) : w.heap.size ≤ Qy));clear HB;have HB:=n0_;have Qs:=n1_;have GW121:=n2_;have GE121:=n3_;clear n0_ n1_ n2_ n3_;clear hb hbox hg))
 have n0_:=Aside0.mk (blk_drew Qs.out)
 have n1_:=Aside0.mk (below_drew1 HB.out)
 clear Qs
 clear HB
 have Qs:=n0_
 have HB:=n1_
 clear n0_ n1_
 refine start_ (n:=7) (S:=fun w'=>w'.cell? ⟨Qy,0,none⟩ = some (.int .i64 Qi)∧w'.cell? ⟨Qy,1,none⟩ = some (.int .i64 Qn)∧w'.cell? ⟨Qy,2,none⟩ = some (.int .i64 Qj)∧w'.cell? ⟨Qy,3,none⟩ = some (.int .i64 Qp)∧w'.cell? ⟨Qy,4,none⟩ = some (.int .i64 Qq)∧w'.cell? ⟨Qy,5,none⟩ = some (.int .i64 Qk)∧w'.cell? ⟨Qy,6,none⟩ = some (.int .i64 Qg)∧w'.cell? ⟨Qy,7,none⟩ = some (.int .i64 Qm)∧w'.cell? ⟨Qy,8,none⟩ = some (.int .i64 Qh)∧w'.cell? ⟨Qy,9,none⟩ = some (.int .i64 Ql)∧w'.cell? ⟨Qy,10,none⟩ = some (.int .i64 Qa)∧w'.cell? ⟨Qy,11,none⟩ = some (.int .i64 Qb)∧w'.cell? ⟨Qy,12,none⟩ = some (.int .i64 Qc)∧w'.cell? ⟨Qy,13,none⟩ = some (.int .i64 Qd)∧w'.cell? ⟨Qy,14,none⟩ = some (.int .i64 Qe)∧w'.cell? ⟨Qy,15,none⟩ = some (.int .i64 Qf)) (ds:=[]) #[false,false,false,false,false,false,false] (by kernel_rfl) rfl rfl ⟨(blk_cell Qs.out 0).trans rfl,(blk_cell Qs.out 1).trans rfl,(blk_cell Qs.out 2).trans rfl,(blk_cell Qs.out 3).trans rfl,(blk_cell Qs.out 4).trans rfl,(blk_cell Qs.out 5).trans rfl,(blk_cell Qs.out 6).trans rfl,(blk_cell Qs.out 7).trans rfl,(blk_cell Qs.out 8).trans rfl,(blk_cell Qs.out 9).trans rfl,(blk_cell Qs.out 10).trans rfl,(blk_cell Qs.out 11).trans rfl,(blk_cell Qs.out 12).trans rfl,(blk_cell Qs.out 13).trans rfl,(blk_cell Qs.out 14).trans rfl,(blk_cell Qs.out 15).trans rfl⟩ (fun hHeld=>?_)
 generalize w4.drew = w5 at Qs HB hHeld ⊢
 refine pure_ (i:=0) (N:=some 3) (v:=?_) (a':=?_) #[true,false,false,false,false,false,false] rfl rfl (by kernel_rfl) (fun _ _ _ h=>h) (Or.inl ⟨by rfl,?_⟩) ?_ ?_
 rotate_left
 ·intro w'
  go_simp
  with_reducible rfl
 rotate_left
 ·simp only [Act.put,List.setIfInBounds_toArray,List.set_cons_zero,List.set_cons_succ,i64_w,i32_w]
  rfl
 refine pure_ (i:=1) (N:=some 4) (v:=?_) (a':=?_) #[true,true,false,false,false,false,false] rfl rfl (by kernel_rfl) (fun _ _ _ h=>h) (Or.inl ⟨by rfl,?_⟩) ?_ ?_
 rotate_left
 ·intro w'
  go_simp
  with_reducible rfl
 rotate_left
 ·simp only [Act.put,List.setIfInBounds_toArray,List.set_cons_zero,List.set_cons_succ,i64_w,i32_w]
  rfl
 refine take_ (i:=2) (N:=some 5) (v:=?_) (a':=?_) #[true,true,true,false,false,false,false] rfl rfl (by kernel_rfl) (fun _ _ _ h=>h) (Or.inl ⟨by rfl,?_⟩) hHeld ?_ ?_
 rotate_left
 ·rintro w' ⟨s0,s1,s2,s3,s4,s5,s6,s7,s8,s9,s10,s11,s12,s13,s14,s15⟩
  go_simp
  with_reducible rfl
 rotate_left
 ·simp only [Act.put,List.setIfInBounds_toArray,List.set_cons_zero,List.set_cons_succ,i64_w,i32_w]
  rfl
 refine take_ (i:=3) (N:=some 6) (v:=?_) (a':=?_) #[true,true,true,true,false,false,false] rfl rfl (by kernel_rfl) (fun _ _ _ h=>h) (Or.inl ⟨by rfl,?_⟩) hHeld ?_ ?_
 rotate_left
 ·rintro w' ⟨s0,s1,s2,s3,s4,s5,s6,s7,s8,s9,s10,s11,s12,s13,s14,s15⟩
  go_simp
  with_reducible rfl
 rotate_left
 ·simp only [Act.put,List.setIfInBounds_toArray,List.set_cons_zero,List.set_cons_succ,i64_w,i32_w]
  rfl
 refine one_ (i:=4) (N:=some 7) #[true,true,true,true,true,false,false] rfl rfl (by kernel_rfl) (by decide) (fun K hK=>?_)
 refine goes_ Try.func56 (by kernel_rfl) rfl #[.agg #[.int .i64 Qi,.int .i64 Qn,.int .i64 Qj,.int .i64 Qp,.int .i64 Qq,.int .i64 Qk,.int .i64 Qg,.int .i64 Qm,.int .i64 Qh,.int .i64 Ql,.int .i64 Qa,.int .i64 Qb,.int .i64 Qc,.int .i64 Qd,.int .i64 Qe,.int .i64 Qf]] (by rfl) rfl rfl (by (try simp only [List.map_toArray,List.map_cons,List.map_nil]);first|done|rfl|(simp only [List.length_drop,List.length_take];rfl)) ?_
 with_reducible refine (plan_look_leastPi.calls Qi Qn Qj Qp Qq Qk Qg Qm Qh Ql Qa Qb Qc Qd Qe Qf t122 _ A2.out).mono ?_
 rintro e w6 ⟨rfl,hb⟩
 refine ⟨_,rfl,?_⟩
 have n0_:=Aside0.mk (blk_below (g:=Qy) (o:=.cells #[.int .i64 Qi,.int .i64 Qn,.int .i64 Qj,.int .i64 Qp,.int .i64 Qq,.int .i64 Qk,.int .i64 Qg,.int .i64 Qm,.int .i64 Qh,.int .i64 Ql,.int .i64 Qa,.int .i64 Qb,.int .i64 Qc,.int .i64 Qd,.int .i64 Qe,.int .i64 Qf] 72 (0,0)) (by (with_reducible repeat (first|refine blk_drewN ?_ _|refine blk_drew ?_|refine blk_alloc ?_ _));exact Qs.out) hb)
 have n1_:=Aside0.mk (below_step (by repeat (first|(with_reducible first|exact HB.out|apply below_alloc|apply pw_below_drewN|apply below_drew1|refine below_set ?_ GE121.out)|exact HB.out)) hb)
 clear Qs
 clear HB
 have Qs:=n0_
 have HB:=n1_
 clear n0_ n1_
 (try clear hb)
 (try clear hb2)
 (try clear hk)
 (try clear hi)
 refine hK.out _ _ ⟨(blk_cell Qs.out 0).trans rfl,(blk_cell Qs.out 1).trans rfl,(blk_cell Qs.out 2).trans rfl,(blk_cell Qs.out 3).trans rfl,(blk_cell Qs.out 4).trans rfl,(blk_cell Qs.out 5).trans rfl,(blk_cell Qs.out 6).trans rfl,(blk_cell Qs.out 7).trans rfl,(blk_cell Qs.out 8).trans rfl,(blk_cell Qs.out 9).trans rfl,(blk_cell Qs.out 10).trans rfl,(blk_cell Qs.out 11).trans rfl,(blk_cell Qs.out 12).trans rfl,(blk_cell Qs.out 13).trans rfl,(blk_cell Qs.out 14).trans rfl,(blk_cell Qs.out 15).trans rfl⟩ (fun hHeld=>?_)
 clear hK K
 refine norm_ (a':=?_) ?_ ?_
 rotate_left
 ·show Act.put _ (some 7) _ = _
  simp only [Act.put,List.setIfInBounds_toArray,List.set_cons_zero,List.set_cons_succ,i64_w,i32_w]
  rfl
 refine one_ (i:=5) (N:=some 8) #[true,true,true,true,true,true,false] rfl rfl (by kernel_rfl) (by decide) (fun K hK=>?_)
 refine goes_ Try.func55 (by kernel_rfl) rfl #[.int .i64 Ql,.int .i64 t122,.int .i64 1048576] (by rfl) rfl rfl (by (try simp only [List.map_toArray,List.map_cons,List.map_nil]);first|done|rfl|(simp only [List.length_drop,List.length_take];rfl)) ?_
 with_reducible refine (plan_in.calls Ql t122 1048576 t123 _ A3.out).mono ?_
 rintro e w' ⟨rfl,⟨nd,rfl⟩⟩
 refine ⟨_,rfl,?_⟩
 refine hK.out _ _ ⟨(blk_cell Qs.out 0).trans rfl,(blk_cell Qs.out 1).trans rfl,(blk_cell Qs.out 2).trans rfl,(blk_cell Qs.out 3).trans rfl,(blk_cell Qs.out 4).trans rfl,(blk_cell Qs.out 5).trans rfl,(blk_cell Qs.out 6).trans rfl,(blk_cell Qs.out 7).trans rfl,(blk_cell Qs.out 8).trans rfl,(blk_cell Qs.out 9).trans rfl,(blk_cell Qs.out 10).trans rfl,(blk_cell Qs.out 11).trans rfl,(blk_cell Qs.out 12).trans rfl,(blk_cell Qs.out 13).trans rfl,(blk_cell Qs.out 14).trans rfl,(blk_cell Qs.out 15).trans rfl⟩ (fun hHeld=>?_)
 clear hK K
 refine norm_ (a':=?_) ?_ ?_
 rotate_left
 ·show Act.put _ (some 8) _ = _
  simp only [Act.put,List.setIfInBounds_toArray,List.set_cons_zero,List.set_cons_succ,i64_w,i32_w]
  rfl
 refine pure_ (i:=6) (N:=some 2) (v:=?_) (a':=?_) #[true,true,true,true,true,true,true] rfl rfl (by kernel_rfl) (fun _ _ _ h=>h) (Or.inl ⟨by rfl,?_⟩) ?_ ?_
 rotate_left
 ·intro w'
  go_simp
  with_reducible rfl
 rotate_left
 ·simp only [Act.put,List.setIfInBounds_toArray,List.set_cons_zero,List.set_cons_succ,i64_w,i32_w]
  rfl
 refine done_ (by kernel_rfl) ?_
 try go_wp2
 go_ret
 exact ⟨by first|rfl|(simp [errW_none,errW_some] <;> rfl)|(simp [*,errW_none,errW_some] <;> rfl),by repeat (first|(with_reducible first|exact HB.out|apply below_alloc|apply pw_below_drewN|apply below_drew1|refine below_set ?_ GE121.out)|exact HB.out)⟩

/-! ### plan_look_leastWindow: function 57 -/
def plan_look_leastWindow.f (Qi : Int) (Qn : Int) (Qj : Int) (Qp : Int) (Qq : Int) (Qk : Int) (Qg : Int) (Qm : Int) (Qh : Int) (Ql : Int) (Qa : Int) (Qb : Int) (Qc : Int) (Qd : Int) (Qe : Int) (Qf : Int) : Option (Int):=(plan_look_e.f Qi Qn Qj Qp Qq Qk Qg Qm Qh Ql Qa Qb Qc Qd Qe Qf).bind fun t125=>(some (wrap64 (Ql + t125)))
set_option maxHeartbeats 8000000 in
set_option maxRecDepth 100000 in
theorem plan_look_leastWindow.calls (Qi : Int) (Qn : Int) (Qj : Int) (Qp : Int) (Qq : Int) (Qk : Int) (Qg : Int) (Qm : Int) (Qh : Int) (Ql : Int) (Qa : Int) (Qb : Int) (Qc : Int) (Qd : Int) (Qe : Int) (Qf : Int) (r : Int) (w : World) (h : plan_look_leastWindow.f Qi Qn Qj Qp Qq Qk Qg Qm Qh Ql Qa Qb Qc Qd Qe Qf = some r) :
  Calls Try.prog 57 #[.agg #[.int .i64 Qi,.int .i64 Qn,.int .i64 Qj,.int .i64 Qp,.int .i64 Qq,.int .i64 Qk,.int .i64 Qg,.int .i64 Qm,.int .i64 Qh,.int .i64 Ql,.int .i64 Qa,.int .i64 Qb,.int .i64 Qc,.int .i64 Qd,.int .i64 Qe,.int .i64 Qf]] w fun e w'=>e = .returned (.int .i64 r)∧Below w.heap.size w w':=by
 have hu72:=Try.underlying72
 have HB:=Aside0.mk (Below.refl w.heap.size w)
 have H : ((plan_look_e.f Qi Qn Qj Qp Qq Qk Qg Qm Qh Ql Qa Qb Qc Qd Qe Qf).bind fun t125=>(some (wrap64 (Ql + t125)))) = some r:=h
 clear h
 replace H:=Option.bind_eq_some_iff.mp H
 obtain ⟨t125,A20,H⟩:=H
 replace H : (some (wrap64 (Ql + t125))) = some r:=H
 have A2:=Aside0.mk A20
 clear A20
 obtain rfl:=Option.some.inj H
 go_enter Try.func57,Try.ntmps57
 try go_wp2_with (first|((with_reducible refine gate_dst (N:=1) rfl ?_);refine box_event ?hg (N:=1) ?hd (cs:=#[.int .i64 Qi,.int .i64 Qn,.int .i64 Qj,.int .i64 Qp,.int .i64 Qq,.int .i64 Qk,.int .i64 Qg,.int .i64 Qm,.int .i64 Qh,.int .i64 Ql,.int .i64 Qa,.int .i64 Qb,.int .i64 Qc,.int .i64 Qd,.int .i64 Qe,.int .i64 Qf]) (t:=72) ?hr ?_;(case hd=>rfl);(case hg=>rfl);(case hr=>first|(go_simp;done)|(go_simp;rfl));intro Qz hg w3 hbox hb;have n0_:=Aside0.mk (below_step (by repeat (first|(with_reducible first|exact HB.out|apply below_alloc|apply pw_below_drewN|apply below_drew1)|exact HB.out)) hb);have n1_:=Aside0.mk (hbox);have n2_:=Aside0.mk ((by rw [hg];exact (below_size (by repeat (first|(with_reducible first|exact HB.out|apply below_alloc|apply pw_below_drewN|apply below_drew1)|exact HB.out))) : w.heap.size ≤ Qz));have n3_:=Aside0.mk ((by rw [hg];exact (below_size (by repeat (first|(with_reducible first|exact HB.out|apply below_alloc|apply pw_below_drewN|apply below_drew1)|exact HB.out))) : w.heap.size ≤ Qz));clear HB;have HB:=n0_;have Qu:=n1_;have GW124:=n2_;have GE124:=n3_;clear n0_ n1_ n2_ n3_;clear hb hbox hg))
 have n0_:=Aside0.mk (blk_drew Qu.out)
 have n1_:=Aside0.mk (below_drew1 HB.out)
 clear Qu
 clear HB
 have Qu:=n0_
 have HB:=n1_
 clear n0_ n1_
 refine start_ (n:=7) (S:=fun w'=>w'.cell? ⟨Qz,0,none⟩ = some (.int .i64 Qi)∧w'.cell? ⟨Qz,1,none⟩ = some (.int .i64 Qn)∧w'.cell? ⟨Qz,2,none⟩ = some (.int .i64 Qj)∧w'.cell? ⟨Qz,3,none⟩ = some (.int .i64 Qp)∧w'.cell? ⟨Qz,4,none⟩ = some (.int .i64 Qq)∧w'.cell? ⟨Qz,5,none⟩ = some (.int .i64 Qk)∧w'.cell? ⟨Qz,6,none⟩ = some (.int .i64 Qg)∧w'.cell? ⟨Qz,7,none⟩ = some (.int .i64 Qm)∧w'.cell? ⟨Qz,8,none⟩ = some (.int .i64 Qh)∧w'.cell? ⟨Qz,9,none⟩ = some (.int .i64 Ql)∧w'.cell? ⟨Qz,10,none⟩ = some (.int .i64 Qa)∧w'.cell? ⟨Qz,11,none⟩ = some (.int .i64 Qb)∧w'.cell? ⟨Qz,12,none⟩ = some (.int .i64 Qc)∧w'.cell? ⟨Qz,13,none⟩ = some (.int .i64 Qd)∧w'.cell? ⟨Qz,14,none⟩ = some (.int .i64 Qe)∧w'.cell? ⟨Qz,15,none⟩ = some (.int .i64 Qf)) (ds:=[]) #[false,false,false,false,false,false,false] (by kernel_rfl) rfl rfl ⟨(blk_cell Qu.out 0).trans rfl,(blk_cell Qu.out 1).trans rfl,(blk_cell Qu.out 2).trans rfl,(blk_cell Qu.out 3).trans rfl,(blk_cell Qu.out 4).trans rfl,(blk_cell Qu.out 5).trans rfl,(blk_cell Qu.out 6).trans rfl,(blk_cell Qu.out 7).trans rfl,(blk_cell Qu.out 8).trans rfl,(blk_cell Qu.out 9).trans rfl,(blk_cell Qu.out 10).trans rfl,(blk_cell Qu.out 11).trans rfl,(blk_cell Qu.out 12).trans rfl,(blk_cell Qu.out 13).trans rfl,(blk_cell Qu.out 14).trans rfl,(blk_cell Qu.out 15).trans rfl⟩ (fun hHeld=>?_)
 generalize w3.drew = w4 at Qu HB hHeld ⊢
 refine pure_ (i:=0) (N:=some 3) (v:=?_) (a':=?_) #[true,false,false,false,false,false,false] rfl rfl (by kernel_rfl) (fun _ _ _ h=>h) (Or.inl ⟨by rfl,?_⟩) ?_ ?_
 rotate_left
 ·intro w'
  go_simp
  with_reducible rfl
 rotate_left
 ·simp only [Act.put,List.setIfInBounds_toArray,List.set_cons_zero,List.set_cons_succ,i64_w,i32_w]
  rfl
 refine pure_ (i:=1) (N:=some 4) (v:=?_) (a':=?_) #[true,true,false,false,false,false,false] rfl rfl (by kernel_rfl) (fun _ _ _ h=>h) (Or.inl ⟨by rfl,?_⟩) ?_ ?_
 rotate_left
 ·intro w'
  go_simp
  with_reducible rfl
 rotate_left
 ·simp only [Act.put,List.setIfInBounds_toArray,List.set_cons_zero,List.set_cons_succ,i64_w,i32_w]
  rfl
 refine take_ (i:=2) (N:=some 5) (v:=?_) (a':=?_) #[true,true,true,false,false,false,false] rfl rfl (by kernel_rfl) (fun _ _ _ h=>h) (Or.inl ⟨by rfl,?_⟩) hHeld ?_ ?_
 rotate_left
 ·rintro w' ⟨s0,s1,s2,s3,s4,s5,s6,s7,s8,s9,s10,s11,s12,s13,s14,s15⟩
  go_simp
  with_reducible rfl
 rotate_left
 ·simp only [Act.put,List.setIfInBounds_toArray,List.set_cons_zero,List.set_cons_succ,i64_w,i32_w]
  rfl
 refine take_ (i:=3) (N:=some 6) (v:=?_) (a':=?_) #[true,true,true,true,false,false,false] rfl rfl (by kernel_rfl) (fun _ _ _ h=>h) (Or.inl ⟨by rfl,?_⟩) hHeld ?_ ?_
 rotate_left
 ·rintro w' ⟨s0,s1,s2,s3,s4,s5,s6,s7,s8,s9,s10,s11,s12,s13,s14,s15⟩
  go_simp
  with_reducible rfl
 rotate_left
 ·simp only [Act.put,List.setIfInBounds_toArray,List.set_cons_zero,List.set_cons_succ,i64_w,i32_w]
  rfl
 refine one_ (i:=4) (N:=some 7) #[true,true,true,true,true,false,false] rfl rfl (by kernel_rfl) (by decide) (fun K hK=>?_)
 refine goes_ Try.func68 (by kernel_rfl) rfl #[.agg #[.int .i64 Qi,.int .i64 Qn,.int .i64 Qj,.int .i64 Qp,.int .i64 Qq,.int .i64 Qk,.int .i64 Qg,.int .i64 Qm,.int .i64 Qh,.int .i64 Ql,.int .i64 Qa,.int .i64 Qb,.int .i64 Qc,.int .i64 Qd,.int .i64 Qe,.int .i64 Qf]] (by rfl) rfl rfl (by (try simp only [List.map_toArray,List.map_cons,List.map_nil]);first|done|rfl|(simp only [List.length_drop,List.length_take];rfl)) ?_
 with_reducible refine (plan_look_e.calls Qi Qn Qj Qp Qq Qk Qg Qm Qh Ql Qa Qb Qc Qd Qe Qf t125 _ A2.out).mono ?_
 rintro e w5 ⟨rfl,hb⟩
 refine ⟨_,rfl,?_⟩
 have n0_:=Aside0.mk (blk_below (g:=Qz) (o:=.cells #[.int .i64 Qi,.int .i64 Qn,.int .i64 Qj,.int .i64 Qp,.int .i64 Qq,.int .i64 Qk,.int .i64 Qg,.int .i64 Qm,.int .i64 Qh,.int .i64 Ql,.int .i64 Qa,.int .i64 Qb,.int .i64 Qc,.int .i64 Qd,.int .i64 Qe,.int .i64 Qf] 72 (0,0)) (by (with_reducible repeat (first|refine blk_drewN ?_ _|refine blk_drew ?_|refine blk_alloc ?_ _));exact Qu.out) hb)
 have n1_:=Aside0.mk (below_step (by repeat (first|(with_reducible first|exact HB.out|apply below_alloc|apply pw_below_drewN|apply below_drew1|refine below_set ?_ GE124.out)|exact HB.out)) hb)
 clear Qu
 clear HB
 have Qu:=n0_
 have HB:=n1_
 clear n0_ n1_
 (try clear hb)
 (try clear hb2)
 (try clear hk)
 (try clear hi)
 refine hK.out _ _ ⟨(blk_cell Qu.out 0).trans rfl,(blk_cell Qu.out 1).trans rfl,(blk_cell Qu.out 2).trans rfl,(blk_cell Qu.out 3).trans rfl,(blk_cell Qu.out 4).trans rfl,(blk_cell Qu.out 5).trans rfl,(blk_cell Qu.out 6).trans rfl,(blk_cell Qu.out 7).trans rfl,(blk_cell Qu.out 8).trans rfl,(blk_cell Qu.out 9).trans rfl,(blk_cell Qu.out 10).trans rfl,(blk_cell Qu.out 11).trans rfl,(blk_cell Qu.out 12).trans rfl,(blk_cell Qu.out 13).trans rfl,(blk_cell Qu.out 14).trans rfl,(blk_cell Qu.out 15).trans rfl⟩ (fun hHeld=>?_)
 clear hK K
 refine norm_ (a':=?_) ?_ ?_
 rotate_left
 ·show Act.put _ (some 7) _ = _
  simp only [Act.put,List.setIfInBounds_toArray,List.set_cons_zero,List.set_cons_succ,i64_w,i32_w]
  rfl
 refine pure_ (i:=5) (N:=some 8) (v:=?_) (a':=?_) #[true,true,true,true,true,true,false] rfl rfl (by kernel_rfl) (fun _ _ _ h=>h) (Or.inl ⟨by rfl,?_⟩) ?_ ?_
 rotate_left
 ·intro w'
  go_simp
  with_reducible rfl
 rotate_left
 ·simp only [Act.put,List.setIfInBounds_toArray,List.set_cons_zero,List.set_cons_succ,i64_w,i32_w]
  rfl
 refine pure_ (i:=6) (N:=some 2) (v:=?_) (a':=?_) #[true,true,true,true,true,true,true] rfl rfl (by kernel_rfl) (fun _ _ _ h=>h) (Or.inl ⟨by rfl,?_⟩) ?_ ?_
 rotate_left
 ·intro w'
  go_simp
  with_reducible rfl
 rotate_left
 ·simp only [Act.put,List.setIfInBounds_toArray,List.set_cons_zero,List.set_cons_succ,i64_w,i32_w]
  rfl
 refine done_ (by kernel_rfl) ?_
 try go_wp2
 go_ret
 exact ⟨by first|rfl|(simp [errW_none,errW_some] <;> rfl)|(simp [*,errW_none,errW_some] <;> rfl),by repeat (first|(with_reducible first|exact HB.out|apply below_alloc|apply pw_below_drewN|apply below_drew1|refine below_set ?_ GE124.out)|exact HB.out)⟩

end Go.Proofs.Ytnmephdamgofnaa.PA
