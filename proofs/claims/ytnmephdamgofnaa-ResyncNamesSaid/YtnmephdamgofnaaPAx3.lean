/- Written by a program of this session (wip/jprint.py, over the printer of the kit): functions that a law comes to, as plain Lean functions, and walks; Lean checks it. -/
import Derived.Test.YtnmephdamgofnaaPAx0
import Derived.Test.YtnmephdamgofnaaPAx2
namespace Go.Proofs.Ytnmephdamgofnaa.PA
open Go.RowKit Go.Proofs.YtnmephdamgofnaaW.PrintWords Go.Proofs.YtnmephdamgofnaaW.PrintLast Go.Proofs.YtnmephdamgofnaaW.PrintMore
attribute [local go_sem] max2_int min2_int max_two min_two max_three min_three max_four min_four   -- for this text's walks alone
set_option linter.unusedVariables false
set_option linter.unusedSimpArgs false

/-! ### plan_look_window: function 49 -/
def plan_look_window.f (Qn : Int) (Qo : Int) (Qk : Int) (Qi : Int) (Qh : Int) (Ql : Int) (Qp : Int) (Qm : Int) (Qq : Int) (Qj : Int) (Qa : Int) (Qe : Int) (Qb : Int) (Qd : Int) (Qc : Int) (Qf : Int) : Option (Bool):=(plan_look_leastWindow.f Qn Qo Qk Qi Qh Ql Qp Qm Qq Qj Qa Qe Qb Qd Qc Qf).bind fun t127=>((plan_in.f Qh t127 1048576).bind fun t128=>(some t128))
set_option maxHeartbeats 8000000 in
set_option maxRecDepth 100000 in
theorem plan_look_window.calls (Qn : Int) (Qo : Int) (Qk : Int) (Qi : Int) (Qh : Int) (Ql : Int) (Qp : Int) (Qm : Int) (Qq : Int) (Qj : Int) (Qa : Int) (Qe : Int) (Qb : Int) (Qd : Int) (Qc : Int) (Qf : Int) (r : Bool) (w : World) (h : plan_look_window.f Qn Qo Qk Qi Qh Ql Qp Qm Qq Qj Qa Qe Qb Qd Qc Qf = some r) :
  Calls Try.prog 49 #[.agg #[.int .i64 Qn,.int .i64 Qo,.int .i64 Qk,.int .i64 Qi,.int .i64 Qh,.int .i64 Ql,.int .i64 Qp,.int .i64 Qm,.int .i64 Qq,.int .i64 Qj,.int .i64 Qa,.int .i64 Qe,.int .i64 Qb,.int .i64 Qd,.int .i64 Qc,.int .i64 Qf]] w fun e w'=>e = .returned (.bool r)∧Below w.heap.size w w':=by
 have hu72:=Try.underlying72
 have HB:=Aside0.mk (Below.refl w.heap.size w)
 have H : ((plan_look_leastWindow.f Qn Qo Qk Qi Qh Ql Qp Qm Qq Qj Qa Qe Qb Qd Qc Qf).bind fun t127=>((plan_in.f Qh t127 1048576).bind fun t128=>(some t128))) = some r:=h
 clear h
 replace H:=Option.bind_eq_some_iff.mp H
 obtain ⟨t127,A20,H⟩:=H
 replace H : ((plan_in.f Qh t127 1048576).bind fun t128=>(some t128)) = some r:=H
 have A2:=Aside0.mk A20
 clear A20
 replace H:=Option.bind_eq_some_iff.mp H
 obtain ⟨t128,A30,H⟩:=H
 replace H : (some t128) = some r:=H
 have A3:=Aside0.mk A30
 clear A30
 obtain rfl:=Option.some.inj H
 go_enter Try.func49,Try.ntmps49
 try go_wp2_with (first|((with_reducible refine gate_dst (N:=1) rfl ?_);refine box_event ?hg (N:=1) ?hd (cs:=#[.int .i64 Qn,.int .i64 Qo,.int .i64 Qk,.int .i64 Qi,.int .i64 Qh,.int .i64 Ql,.int .i64 Qp,.int .i64 Qm,.int .i64 Qq,.int .i64 Qj,.int .i64 Qa,.int .i64 Qe,.int .i64 Qb,.int .i64 Qd,.int .i64 Qc,.int .i64 Qf]) (t:=72) ?hr ?_;(case hd=>rfl);(case hg=>rfl);(case hr=>first|(go_simp;done)|(go_simp;rfl));intro Qw hg w4 hbox hb;have n0_:=Aside0.mk (below_step (by repeat (first|(with_reducible first|exact HB.out|apply below_alloc|apply pw_below_drewN|apply below_drew1)|exact HB.out)) hb);have n1_:=Aside0.mk (hbox);have n2_:=Aside0.mk ((by rw [hg];exact (below_size (by repeat (first|(with_reducible first|exact HB.out|apply below_alloc|apply pw_below_drewN|apply below_drew1)|exact HB.out))) : w.heap.size ≤ Qw));have n3_:=Aside0.mk ((by rw [hg];exact (below_size (by repeat (first|(with_reducible first|exact HB.out|apply below_alloc|apply pw_below_drewN|apply below_drew1)|exact HB.out))) : w.heap.size ≤ Qw));clear HB;have HB:=n0_;have Qr:=n1_;have GW126:=n2_;have GE126:=n3_;clear n0_ n1_ n2_ n3_;clear hb hbox hg))
 have n0_:=Aside0.mk (blk_drew Qr.out)
 have n1_:=Aside0.mk (below_drew1 HB.out)
 clear Qr
 clear HB
 have Qr:=n0_
 have HB:=n1_
 clear n0_ n1_
 refine start_ (n:=7) (S:=fun w'=>w'.cell? ⟨Qw,0,none⟩ = some (.int .i64 Qn)∧w'.cell? ⟨Qw,1,none⟩ = some (.int .i64 Qo)∧w'.cell? ⟨Qw,2,none⟩ = some (.int .i64 Qk)∧w'.cell? ⟨Qw,3,none⟩ = some (.int .i64 Qi)∧w'.cell? ⟨Qw,4,none⟩ = some (.int .i64 Qh)∧w'.cell? ⟨Qw,5,none⟩ = some (.int .i64 Ql)∧w'.cell? ⟨Qw,6,none⟩ = some (.int .i64 Qp)∧w'.cell? ⟨Qw,7,none⟩ = some (.int .i64 Qm)∧w'.cell? ⟨Qw,8,none⟩ = some (.int .i64 Qq)∧w'.cell? ⟨Qw,9,none⟩ = some (.int .i64 Qj)∧w'.cell? ⟨Qw,10,none⟩ = some (.int .i64 Qa)∧w'.cell? ⟨Qw,11,none⟩ = some (.int .i64 Qe)∧w'.cell? ⟨Qw,12,none⟩ = some (.int .i64 Qb)∧w'.cell? ⟨Qw,13,none⟩ = some (.int .i64 Qd)∧w'.cell? ⟨Qw,14,none⟩ = some (.int .i64 Qc)∧w'.cell? ⟨Qw,15,none⟩ = some (.int .i64 Qf)) (ds:=[]) #[false,false,false,false,false,false,false] (by kernel_rfl) rfl rfl ⟨(blk_cell Qr.out 0).trans rfl,(blk_cell Qr.out 1).trans rfl,(blk_cell Qr.out 2).trans rfl,(blk_cell Qr.out 3).trans rfl,(blk_cell Qr.out 4).trans rfl,(blk_cell Qr.out 5).trans rfl,(blk_cell Qr.out 6).trans rfl,(blk_cell Qr.out 7).trans rfl,(blk_cell Qr.out 8).trans rfl,(blk_cell Qr.out 9).trans rfl,(blk_cell Qr.out 10).trans rfl,(blk_cell Qr.out 11).trans rfl,(blk_cell Qr.out 12).trans rfl,(blk_cell Qr.out 13).trans rfl,(blk_cell Qr.out 14).trans rfl,(blk_cell Qr.out 15).trans rfl⟩ (fun hHeld=>?_)
 generalize w4.drew = w5 at Qr HB hHeld ⊢
 refine pure_ (i:=0) (N:=some 3) (v:=?_) (a':=?_) #[true,false,false,false,false,false,false] rfl rfl (by kernel_rfl) (fun _ _ _ h=>h) (Or.inl ⟨by rfl,?_⟩) ?_ ?_
 rotate_left
 ·intro w'
  go_simp
  with_reducible rfl
 rotate_left
 ·simp only [Act.put,List.setIfInBounds_toArray,List.set_cons_zero,List.set_cons_succ,i64_w,i32_w]
  rfl
 refine pure_ (i:=1) (N:=some 4) (v:=?_) (a':=?_) #[true,true,false,false,false,false,false] rfl rfl (by kernel_rfl) (fun _ _ _ h=>h) (Or.inl ⟨by rfl,?_⟩) ?_ ?_
 rotate_left
 ·intro w'
  go_simp
  with_reducible rfl
 rotate_left
 ·simp only [Act.put,List.setIfInBounds_toArray,List.set_cons_zero,List.set_cons_succ,i64_w,i32_w]
  rfl
 refine take_ (i:=2) (N:=some 5) (v:=?_) (a':=?_) #[true,true,true,false,false,false,false] rfl rfl (by kernel_rfl) (fun _ _ _ h=>h) (Or.inl ⟨by rfl,?_⟩) hHeld ?_ ?_
 rotate_left
 ·rintro w' ⟨s0,s1,s2,s3,s4,s5,s6,s7,s8,s9,s10,s11,s12,s13,s14,s15⟩
  go_simp
  with_reducible rfl
 rotate_left
 ·simp only [Act.put,List.setIfInBounds_toArray,List.set_cons_zero,List.set_cons_succ,i64_w,i32_w]
  rfl
 refine take_ (i:=3) (N:=some 6) (v:=?_) (a':=?_) #[true,true,true,true,false,false,false] rfl rfl (by kernel_rfl) (fun _ _ _ h=>h) (Or.inl ⟨by rfl,?_⟩) hHeld ?_ ?_
 rotate_left
 ·rintro w' ⟨s0,s1,s2,s3,s4,s5,s6,s7,s8,s9,s10,s11,s12,s13,s14,s15⟩
  go_simp
  with_reducible rfl
 rotate_left
 ·simp only [Act.put,List.setIfInBounds_toArray,List.set_cons_zero,List.set_cons_succ,i64_w,i32_w]
  rfl
 refine one_ (i:=4) (N:=some 7) #[true,true,true,true,true,false,false] rfl rfl (by kernel_rfl) (by decide) (fun K hK=>?_)
 refine goes_ Try.func57 (by kernel_rfl) rfl #[.agg #[.int .i64 Qn,.int .i64 Qo,.int .i64 Qk,.int .i64 Qi,.int .i64 Qh,.int .i64 Ql,.int .i64 Qp,.int .i64 Qm,.int .i64 Qq,.int .i64 Qj,.int .i64 Qa,.int .i64 Qe,.int .i64 Qb,.int .i64 Qd,.int .i64 Qc,.int .i64 Qf]] (by rfl) rfl rfl (by (try simp only [List.map_toArray,List.map_cons,List.map_nil]);first|done|rfl|(simp only [List.length_drop,List.length_take];rfl)) ?_
 with_reducible refine (plan_look_leastWindow.calls Qn Qo Qk Qi Qh Ql Qp Qm Qq Qj Qa Qe Qb Qd Qc Qf t127 _ A2.out).mono ?_
 rintro e w6 ⟨rfl,hb⟩
 refine ⟨_,rfl,?_⟩
 have n0_:=Aside0.mk (blk_below (g:=Qw) (o:=.cells #[.int .i64 Qn,.int .i64 Qo,.int .i64 Qk,.int .i64 Qi,.int .i64 Qh,.int .i64 Ql,.int .i64 Qp,.int .i64 Qm,.int .i64 Qq,.int .i64 Qj,.int .i64 Qa,.int .i64 Qe,.int .i64 Qb,.int .i64 Qd,.int .i64 Qc,.int .i64 Qf] 72 (0,0)) (by (with_reducible repeat (first|refine blk_drewN ?_ _|refine blk_drew ?_|refine blk_alloc ?_ _));exact Qr.out) hb)
 have n1_:=Aside0.mk (below_step (by repeat (first|(with_reducible first|exact HB.out|apply below_alloc|apply pw_below_drewN|apply below_drew1|refine below_set ?_ GE126.out)|exact HB.out)) hb)
 clear Qr
 clear HB
 have Qr:=n0_
 have HB:=n1_
 clear n0_ n1_
 (try clear hb)
 (try clear hb2)
 (try clear hk)
 (try clear hi)
 refine hK.out _ _ ⟨(blk_cell Qr.out 0).trans rfl,(blk_cell Qr.out 1).trans rfl,(blk_cell Qr.out 2).trans rfl,(blk_cell Qr.out 3).trans rfl,(blk_cell Qr.out 4).trans rfl,(blk_cell Qr.out 5).trans rfl,(blk_cell Qr.out 6).trans rfl,(blk_cell Qr.out 7).trans rfl,(blk_cell Qr.out 8).trans rfl,(blk_cell Qr.out 9).trans rfl,(blk_cell Qr.out 10).trans rfl,(blk_cell Qr.out 11).trans rfl,(blk_cell Qr.out 12).trans rfl,(blk_cell Qr.out 13).trans rfl,(blk_cell Qr.out 14).trans rfl,(blk_cell Qr.out 15).trans rfl⟩ (fun hHeld=>?_)
 clear hK K
 refine norm_ (a':=?_) ?_ ?_
 rotate_left
 ·show Act.put _ (some 7) _ = _
  simp only [Act.put,List.setIfInBounds_toArray,List.set_cons_zero,List.set_cons_succ,i64_w,i32_w]
  rfl
 refine one_ (i:=5) (N:=some 8) #[true,true,true,true,true,true,false] rfl rfl (by kernel_rfl) (by decide) (fun K hK=>?_)
 refine goes_ Try.func55 (by kernel_rfl) rfl #[.int .i64 Qh,.int .i64 t127,.int .i64 1048576] (by rfl) rfl rfl (by (try simp only [List.map_toArray,List.map_cons,List.map_nil]);first|done|rfl|(simp only [List.length_drop,List.length_take];rfl)) ?_
 with_reducible refine (plan_in.calls Qh t127 1048576 t128 _ A3.out).mono ?_
 rintro e w' ⟨rfl,⟨nd,rfl⟩⟩
 refine ⟨_,rfl,?_⟩
 refine hK.out _ _ ⟨(blk_cell Qr.out 0).trans rfl,(blk_cell Qr.out 1).trans rfl,(blk_cell Qr.out 2).trans rfl,(blk_cell Qr.out 3).trans rfl,(blk_cell Qr.out 4).trans rfl,(blk_cell Qr.out 5).trans rfl,(blk_cell Qr.out 6).trans rfl,(blk_cell Qr.out 7).trans rfl,(blk_cell Qr.out 8).trans rfl,(blk_cell Qr.out 9).trans rfl,(blk_cell Qr.out 10).trans rfl,(blk_cell Qr.out 11).trans rfl,(blk_cell Qr.out 12).trans rfl,(blk_cell Qr.out 13).trans rfl,(blk_cell Qr.out 14).trans rfl,(blk_cell Qr.out 15).trans rfl⟩ (fun hHeld=>?_)
 clear hK K
 refine norm_ (a':=?_) ?_ ?_
 rotate_left
 ·show Act.put _ (some 8) _ = _
  simp only [Act.put,List.setIfInBounds_toArray,List.set_cons_zero,List.set_cons_succ,i64_w,i32_w]
  rfl
 refine pure_ (i:=6) (N:=some 2) (v:=?_) (a':=?_) #[true,true,true,true,true,true,true] rfl rfl (by kernel_rfl) (fun _ _ _ h=>h) (Or.inl ⟨by rfl,?_⟩) ?_ ?_
 rotate_left
 ·intro w'
  go_simp
  with_reducible rfl
 rotate_left
 ·simp only [Act.put,List.setIfInBounds_toArray,List.set_cons_zero,List.set_cons_succ,i64_w,i32_w]
  rfl
 refine done_ (by kernel_rfl) ?_
 try go_wp2
 go_ret
 exact ⟨by first|rfl|(simp [errW_none,errW_some] <;> rfl)|(simp [*,errW_none,errW_some] <;> rfl),by repeat (first|(with_reducible first|exact HB.out|apply below_alloc|apply pw_below_drewN|apply below_drew1|refine below_set ?_ GE126.out)|exact HB.out)⟩

/-! ### plan_look_leastCap: function 58 -/
def plan_look_leastCap.f (Qn : Int) (Qo : Int) (Qk : Int) (Qi : Int) (Qh : Int) (Ql : Int) (Qp : Int) (Qm : Int) (Qq : Int) (Qj : Int) (Qa : Int) (Qe : Int) (Qb : Int) (Qd : Int) (Qc : Int) (Qf : Int) : Option (Int):=(plan_look_a.f Qn Qo Qk Qi Qh Ql Qp Qm Qq Qj Qa Qe Qb Qd Qc Qf).bind fun t130=>((plan_look_g.f Qn Qo Qk Qi Qh Ql Qp Qm Qq Qj Qa Qe Qb Qd Qc Qf).bind fun QF=>((plan_look_e.f Qn Qo Qk Qi Qh Ql Qp Qm Qq Qj Qa Qe Qb Qd Qc Qf).bind fun QD=>(some (wrap64 ((wrap64 (t130 + (wrap64 (2 * QF)))) + (wrap64 (2 * QD)))))))
def plan_look_leastCap.T1 : Bool × List (List Nat × List Nat):=(true,[([],[]),([0],[0]),([],[]),([2,1],[2]),([3],[3]),([1,4],[1,4]),([],[]),([6,3],[6]),([7],[7]),([5,8],[5,8]),([9,7,0,1,2,3,4,5,6,7,8,9],[9])])
def plan_look_leastCap.B1 : List Nat:=[0,1,0,7,15,31,0,79,207,511,1023]
theorem plan_look_leastCap.tab1 : rtab .any (opsOf Try.f58 1) = plan_look_leastCap.T1:=by kernel_rfl
theorem plan_look_leastCap.bits1 : waitsOk plan_look_leastCap.T1.2 plan_look_leastCap.B1 = true:=by kernel_rfl
set_option maxHeartbeats 8000000 in
set_option maxRecDepth 100000 in
theorem plan_look_leastCap.calls (Qn : Int) (Qo : Int) (Qk : Int) (Qi : Int) (Qh : Int) (Ql : Int) (Qp : Int) (Qm : Int) (Qq : Int) (Qj : Int) (Qa : Int) (Qe : Int) (Qb : Int) (Qd : Int) (Qc : Int) (Qf : Int) (r : Int) (w : World) (h : plan_look_leastCap.f Qn Qo Qk Qi Qh Ql Qp Qm Qq Qj Qa Qe Qb Qd Qc Qf = some r) :
  Calls Try.prog 58 #[.agg #[.int .i64 Qn,.int .i64 Qo,.int .i64 Qk,.int .i64 Qi,.int .i64 Qh,.int .i64 Ql,.int .i64 Qp,.int .i64 Qm,.int .i64 Qq,.int .i64 Qj,.int .i64 Qa,.int .i64 Qe,.int .i64 Qb,.int .i64 Qd,.int .i64 Qc,.int .i64 Qf]] w fun e w'=>e = .returned (.int .i64 r)∧Below w.heap.size w w':=by
 have hu72:=Try.underlying72
 have HB:=Aside0.mk (Below.refl w.heap.size w)
 have H : ((plan_look_a.f Qn Qo Qk Qi Qh Ql Qp Qm Qq Qj Qa Qe Qb Qd Qc Qf).bind fun t130=>((plan_look_g.f Qn Qo Qk Qi Qh Ql Qp Qm Qq Qj Qa Qe Qb Qd Qc Qf).bind fun QF=>((plan_look_e.f Qn Qo Qk Qi Qh Ql Qp Qm Qq Qj Qa Qe Qb Qd Qc Qf).bind fun QD=>(some (wrap64 ((wrap64 (t130 + (wrap64 (2 * QF)))) + (wrap64 (2 * QD)))))))) = some r:=h
 clear h
 replace H:=Option.bind_eq_some_iff.mp H
 obtain ⟨t130,A20,H⟩:=H
 replace H : ((plan_look_g.f Qn Qo Qk Qi Qh Ql Qp Qm Qq Qj Qa Qe Qb Qd Qc Qf).bind fun QF=>((plan_look_e.f Qn Qo Qk Qi Qh Ql Qp Qm Qq Qj Qa Qe Qb Qd Qc Qf).bind fun QD=>(some (wrap64 ((wrap64 (t130 + (wrap64 (2 * QF)))) + (wrap64 (2 * QD))))))) = some r:=H
 have A2:=Aside0.mk A20
 clear A20
 replace H:=Option.bind_eq_some_iff.mp H
 obtain ⟨QF,A30,H⟩:=H
 replace H : ((plan_look_e.f Qn Qo Qk Qi Qh Ql Qp Qm Qq Qj Qa Qe Qb Qd Qc Qf).bind fun QD=>(some (wrap64 ((wrap64 (t130 + (wrap64 (2 * QF)))) + (wrap64 (2 * QD)))))) = some r:=H
 have A3:=Aside0.mk A30
 clear A30
 replace H:=Option.bind_eq_some_iff.mp H
 obtain ⟨QD,A40,H⟩:=H
 replace H : (some (wrap64 ((wrap64 (t130 + (wrap64 (2 * QF)))) + (wrap64 (2 * QD))))) = some r:=H
 have A4:=Aside0.mk A40
 clear A40
 obtain rfl:=Option.some.inj H
 go_enter Try.func58,Try.ntmps58
 try go_wp2_with (first|((with_reducible refine gate_dst (N:=1) rfl ?_);refine box_event ?hg (N:=1) ?hd (cs:=#[.int .i64 Qn,.int .i64 Qo,.int .i64 Qk,.int .i64 Qi,.int .i64 Qh,.int .i64 Ql,.int .i64 Qp,.int .i64 Qm,.int .i64 Qq,.int .i64 Qj,.int .i64 Qa,.int .i64 Qe,.int .i64 Qb,.int .i64 Qd,.int .i64 Qc,.int .i64 Qf]) (t:=72) ?hr ?_;(case hd=>rfl);(case hg=>rfl);(case hr=>first|(go_simp;done)|(go_simp;rfl));intro Qv hg w5 hbox hb;have n0_:=Aside0.mk (below_step (by repeat (first|(with_reducible first|exact HB.out|apply below_alloc|apply pw_below_drewN|apply below_drew1)|exact HB.out)) hb);have n1_:=Aside0.mk (hbox);have n2_:=Aside0.mk ((by rw [hg];exact (below_size (by repeat (first|(with_reducible first|exact HB.out|apply below_alloc|apply pw_below_drewN|apply below_drew1)|exact HB.out))) : w.heap.size ≤ Qv));have n3_:=Aside0.mk ((by rw [hg];exact (below_size (by repeat (first|(with_reducible first|exact HB.out|apply below_alloc|apply pw_below_drewN|apply below_drew1)|exact HB.out))) : w.heap.size ≤ Qv));clear HB;have HB:=n0_;have Qg:=n1_;have GW129:=n2_;have GE129:=n3_;clear n0_ n1_ n2_ n3_;clear hb hbox hg))
 have n0_:=Aside0.mk (blk_drew Qg.out)
 have n1_:=Aside0.mk (below_drew1 HB.out)
 clear Qg
 clear HB
 have Qg:=n0_
 have HB:=n1_
 clear n0_ n1_
 refine start_ (n:=11) (S:=fun w'=>w'.cell? ⟨Qv,0,none⟩ = some (.int .i64 Qn)∧w'.cell? ⟨Qv,1,none⟩ = some (.int .i64 Qo)∧w'.cell? ⟨Qv,2,none⟩ = some (.int .i64 Qk)∧w'.cell? ⟨Qv,3,none⟩ = some (.int .i64 Qi)∧w'.cell? ⟨Qv,4,none⟩ = some (.int .i64 Qh)∧w'.cell? ⟨Qv,5,none⟩ = some (.int .i64 Ql)∧w'.cell? ⟨Qv,6,none⟩ = some (.int .i64 Qp)∧w'.cell? ⟨Qv,7,none⟩ = some (.int .i64 Qm)∧w'.cell? ⟨Qv,8,none⟩ = some (.int .i64 Qq)∧w'.cell? ⟨Qv,9,none⟩ = some (.int .i64 Qj)∧w'.cell? ⟨Qv,10,none⟩ = some (.int .i64 Qa)∧w'.cell? ⟨Qv,11,none⟩ = some (.int .i64 Qe)∧w'.cell? ⟨Qv,12,none⟩ = some (.int .i64 Qb)∧w'.cell? ⟨Qv,13,none⟩ = some (.int .i64 Qd)∧w'.cell? ⟨Qv,14,none⟩ = some (.int .i64 Qc)∧w'.cell? ⟨Qv,15,none⟩ = some (.int .i64 Qf)) (ds:=[]) #[false,false,false,false,false,false,false,false,false,false,false] (by kernel_rfl) rfl rfl ⟨(blk_cell Qg.out 0).trans rfl,(blk_cell Qg.out 1).trans rfl,(blk_cell Qg.out 2).trans rfl,(blk_cell Qg.out 3).trans rfl,(blk_cell Qg.out 4).trans rfl,(blk_cell Qg.out 5).trans rfl,(blk_cell Qg.out 6).trans rfl,(blk_cell Qg.out 7).trans rfl,(blk_cell Qg.out 8).trans rfl,(blk_cell Qg.out 9).trans rfl,(blk_cell Qg.out 10).trans rfl,(blk_cell Qg.out 11).trans rfl,(blk_cell Qg.out 12).trans rfl,(blk_cell Qg.out 13).trans rfl,(blk_cell Qg.out 14).trans rfl,(blk_cell Qg.out 15).trans rfl⟩ (fun hHeld=>?_);refine with_tabW plan_look_leastCap.tab1 plan_look_leastCap.bits1 (fun HT_ HW_=>?_)
 generalize w5.drew = w6 at Qg HB hHeld ⊢
 refine take_ (i:=0) (N:=some 3) (v:=?_) (a':=?_) #[true,false,false,false,false,false,false,false,false,false,false] rfl rfl (take_ofW HT_.out HW_.out (by kernel_rfl)) (fun _ _ _ h=>h) (Or.inl ⟨by rfl,?_⟩) hHeld ?_ ?_
 rotate_left
 ·rintro w' ⟨s0,s1,s2,s3,s4,s5,s6,s7,s8,s9,s10,s11,s12,s13,s14,s15⟩
  go_simp
  with_reducible rfl
 rotate_left
 ·simp only [Act.put,List.setIfInBounds_toArray,List.set_cons_zero,List.set_cons_succ,i64_w,i32_w]
  rfl
 refine take_ (i:=2) (N:=some 5) (v:=?_) (a':=?_) #[true,false,true,false,false,false,false,false,false,false,false] rfl rfl (take_ofW HT_.out HW_.out (by kernel_rfl)) (fun _ _ _ h=>h) (Or.inl ⟨by rfl,?_⟩) hHeld ?_ ?_
 rotate_left
 ·rintro w' ⟨s0,s1,s2,s3,s4,s5,s6,s7,s8,s9,s10,s11,s12,s13,s14,s15⟩
  go_simp
  with_reducible rfl
 rotate_left
 ·simp only [Act.put,List.setIfInBounds_toArray,List.set_cons_zero,List.set_cons_succ,i64_w,i32_w]
  rfl
 refine take_ (i:=6) (N:=some 9) (v:=?_) (a':=?_) #[true,false,true,false,false,false,true,false,false,false,false] rfl rfl (take_ofW HT_.out HW_.out (by kernel_rfl)) (fun _ _ _ h=>h) (Or.inl ⟨by rfl,?_⟩) hHeld ?_ ?_
 rotate_left
 ·rintro w' ⟨s0,s1,s2,s3,s4,s5,s6,s7,s8,s9,s10,s11,s12,s13,s14,s15⟩
  go_simp
  with_reducible rfl
 rotate_left
 ·simp only [Act.put,List.setIfInBounds_toArray,List.set_cons_zero,List.set_cons_succ,i64_w,i32_w]
  rfl
 refine one_ (i:=1) (N:=some 4) #[true,true,true,false,false,false,true,false,false,false,false] rfl rfl (one_of HT_.out (by kernel_rfl)) (by decide) (fun K hK=>?_)
 refine goes_ Try.func66 (by kernel_rfl) rfl #[.agg #[.int .i64 Qn,.int .i64 Qo,.int .i64 Qk,.int .i64 Qi,.int .i64 Qh,.int .i64 Ql,.int .i64 Qp,.int .i64 Qm,.int .i64 Qq,.int .i64 Qj,.int .i64 Qa,.int .i64 Qe,.int .i64 Qb,.int .i64 Qd,.int .i64 Qc,.int .i64 Qf]] (by rfl) rfl rfl (by (try simp only [List.map_toArray,List.map_cons,List.map_nil]);first|done|rfl|(simp only [List.length_drop,List.length_take];rfl)) ?_
 with_reducible refine (plan_look_a.calls Qn Qo Qk Qi Qh Ql Qp Qm Qq Qj Qa Qe Qb Qd Qc Qf t130 _ A2.out).mono ?_
 rintro e w7 ⟨rfl,hb⟩
 refine ⟨_,rfl,?_⟩
 have n0_:=Aside0.mk (blk_below (g:=Qv) (o:=.cells #[.int .i64 Qn,.int .i64 Qo,.int .i64 Qk,.int .i64 Qi,.int .i64 Qh,.int .i64 Ql,.int .i64 Qp,.int .i64 Qm,.int .i64 Qq,.int .i64 Qj,.int .i64 Qa,.int .i64 Qe,.int .i64 Qb,.int .i64 Qd,.int .i64 Qc,.int .i64 Qf] 72 (0,0)) (by (with_reducible repeat (first|refine blk_drewN ?_ _|refine blk_drew ?_|refine blk_alloc ?_ _));exact Qg.out) hb)
 have n1_:=Aside0.mk (below_step (by repeat (first|(with_reducible first|exact HB.out|apply below_alloc|apply pw_below_drewN|apply below_drew1|refine below_set ?_ GE129.out)|exact HB.out)) hb)
 clear Qg
 clear HB
 have Qg:=n0_
 have HB:=n1_
 clear n0_ n1_
 (try clear hb)
 (try clear hb2)
 (try clear hk)
 (try clear hi)
 refine hK.out _ _ ⟨(blk_cell Qg.out 0).trans rfl,(blk_cell Qg.out 1).trans rfl,(blk_cell Qg.out 2).trans rfl,(blk_cell Qg.out 3).trans rfl,(blk_cell Qg.out 4).trans rfl,(blk_cell Qg.out 5).trans rfl,(blk_cell Qg.out 6).trans rfl,(blk_cell Qg.out 7).trans rfl,(blk_cell Qg.out 8).trans rfl,(blk_cell Qg.out 9).trans rfl,(blk_cell Qg.out 10).trans rfl,(blk_cell Qg.out 11).trans rfl,(blk_cell Qg.out 12).trans rfl,(blk_cell Qg.out 13).trans rfl,(blk_cell Qg.out 14).trans rfl,(blk_cell Qg.out 15).trans rfl⟩ (fun hHeld=>?_)
 clear hK K
 refine norm_ (a':=?_) ?_ ?_
 rotate_left
 ·show Act.put _ (some 4) _ = _
  simp only [Act.put,List.setIfInBounds_toArray,List.set_cons_zero,List.set_cons_succ,i64_w,i32_w]
  rfl
 refine one_ (i:=3) (N:=some 6) #[true,true,true,true,false,false,true,false,false,false,false] rfl rfl (one_of HT_.out (by kernel_rfl)) (by decide) (fun K hK=>?_)
 refine goes_ Try.func67 (by kernel_rfl) rfl #[.agg #[.int .i64 Qn,.int .i64 Qo,.int .i64 Qk,.int .i64 Qi,.int .i64 Qh,.int .i64 Ql,.int .i64 Qp,.int .i64 Qm,.int .i64 Qq,.int .i64 Qj,.int .i64 Qa,.int .i64 Qe,.int .i64 Qb,.int .i64 Qd,.int .i64 Qc,.int .i64 Qf]] (by rfl) rfl rfl (by (try simp only [List.map_toArray,List.map_cons,List.map_nil]);first|done|rfl|(simp only [List.length_drop,List.length_take];rfl)) ?_
 with_reducible refine (plan_look_g.calls Qn Qo Qk Qi Qh Ql Qp Qm Qq Qj Qa Qe Qb Qd Qc Qf QF _ A3.out).mono ?_
 rintro e w8 ⟨rfl,hb⟩
 refine ⟨_,rfl,?_⟩
 have n0_:=Aside0.mk (blk_below (g:=Qv) (o:=.cells #[.int .i64 Qn,.int .i64 Qo,.int .i64 Qk,.int .i64 Qi,.int .i64 Qh,.int .i64 Ql,.int .i64 Qp,.int .i64 Qm,.int .i64 Qq,.int .i64 Qj,.int .i64 Qa,.int .i64 Qe,.int .i64 Qb,.int .i64 Qd,.int .i64 Qc,.int .i64 Qf] 72 (0,0)) (by (with_reducible repeat (first|refine blk_drewN ?_ _|refine blk_drew ?_|refine blk_alloc ?_ _));exact Qg.out) hb)
 have n1_:=Aside0.mk (below_step (by repeat (first|(with_reducible first|exact HB.out|apply below_alloc|apply pw_below_drewN|apply below_drew1|refine below_set ?_ GE129.out)|exact HB.out)) hb)
 clear Qg
 clear HB
 have Qg:=n0_
 have HB:=n1_
 clear n0_ n1_
 (try clear hb)
 (try clear hb2)
 (try clear hk)
 (try clear hi)
 refine hK.out _ _ ⟨(blk_cell Qg.out 0).trans rfl,(blk_cell Qg.out 1).trans rfl,(blk_cell Qg.out 2).trans rfl,(blk_cell Qg.out 3).trans rfl,(blk_cell Qg.out 4).trans rfl,(blk_cell Qg.out 5).trans rfl,(blk_cell Qg.out 6).trans rfl,(blk_cell Qg.out 7).trans rfl,(blk_cell Qg.out 8).trans rfl,(blk_cell Qg.out 9).trans rfl,(blk_cell Qg.out 10).trans rfl,(blk_cell Qg.out 11).trans rfl,(blk_cell Qg.out 12).trans rfl,(blk_cell Qg.out 13).trans rfl,(blk_cell Qg.out 14).trans rfl,(blk_cell Qg.out 15).trans rfl⟩ (fun hHeld=>?_)
 clear hK K
 refine norm_ (a':=?_) ?_ ?_
 rotate_left
 ·show Act.put _ (some 6) _ = _
  simp only [Act.put,List.setIfInBounds_toArray,List.set_cons_zero,List.set_cons_succ,i64_w,i32_w]
  rfl
 refine pure_ (i:=4) (N:=some 7) (v:=?_) (a':=?_) #[true,true,true,true,true,false,true,false,false,false,false] rfl rfl (any_of HT_.out (by kernel_rfl)) (fun _ _ _ h=>h) (Or.inl ⟨by rfl,?_⟩) ?_ ?_
 rotate_left
 ·intro w'
  go_simp
  with_reducible rfl
 rotate_left
 ·simp only [Act.put,List.setIfInBounds_toArray,List.set_cons_zero,List.set_cons_succ,i64_w,i32_w]
  rfl
 refine pure_ (i:=5) (N:=some 8) (v:=?_) (a':=?_) #[true,true,true,true,true,true,true,false,false,false,false] rfl rfl (any_of HT_.out (by kernel_rfl)) (fun _ _ _ h=>h) (Or.inl ⟨by rfl,?_⟩) ?_ ?_
 rotate_left
 ·intro w'
  go_simp
  with_reducible rfl
 rotate_left
 ·simp only [Act.put,List.setIfInBounds_toArray,List.set_cons_zero,List.set_cons_succ,i64_w,i32_w]
  rfl
 refine one_ (i:=7) (N:=some 10) #[true,true,true,true,true,true,true,true,false,false,false] rfl rfl (one_of HT_.out (by kernel_rfl)) (by decide) (fun K hK=>?_)
 refine goes_ Try.func68 (by kernel_rfl) rfl #[.agg #[.int .i64 Qn,.int .i64 Qo,.int .i64 Qk,.int .i64 Qi,.int .i64 Qh,.int .i64 Ql,.int .i64 Qp,.int .i64 Qm,.int .i64 Qq,.int .i64 Qj,.int .i64 Qa,.int .i64 Qe,.int .i64 Qb,.int .i64 Qd,.int .i64 Qc,.int .i64 Qf]] (by rfl) rfl rfl (by (try simp only [List.map_toArray,List.map_cons,List.map_nil]);first|done|rfl|(simp only [List.length_drop,List.length_take];rfl)) ?_
 with_reducible refine (plan_look_e.calls Qn Qo Qk Qi Qh Ql Qp Qm Qq Qj Qa Qe Qb Qd Qc Qf QD _ A4.out).mono ?_
 rintro e w9 ⟨rfl,hb⟩
 refine ⟨_,rfl,?_⟩
 have n0_:=Aside0.mk (blk_below (g:=Qv) (o:=.cells #[.int .i64 Qn,.int .i64 Qo,.int .i64 Qk,.int .i64 Qi,.int .i64 Qh,.int .i64 Ql,.int .i64 Qp,.int .i64 Qm,.int .i64 Qq,.int .i64 Qj,.int .i64 Qa,.int .i64 Qe,.int .i64 Qb,.int .i64 Qd,.int .i64 Qc,.int .i64 Qf] 72 (0,0)) (by (with_reducible repeat (first|refine blk_drewN ?_ _|refine blk_drew ?_|refine blk_alloc ?_ _));exact Qg.out) hb)
 have n1_:=Aside0.mk (below_step (by repeat (first|(with_reducible first|exact HB.out|apply below_alloc|apply pw_below_drewN|apply below_drew1|refine below_set ?_ GE129.out)|exact HB.out)) hb)
 clear Qg
 clear HB
 have Qg:=n0_
 have HB:=n1_
 clear n0_ n1_
 (try clear hb)
 (try clear hb2)
 (try clear hk)
 (try clear hi)
 refine hK.out _ _ ⟨(blk_cell Qg.out 0).trans rfl,(blk_cell Qg.out 1).trans rfl,(blk_cell Qg.out 2).trans rfl,(blk_cell Qg.out 3).trans rfl,(blk_cell Qg.out 4).trans rfl,(blk_cell Qg.out 5).trans rfl,(blk_cell Qg.out 6).trans rfl,(blk_cell Qg.out 7).trans rfl,(blk_cell Qg.out 8).trans rfl,(blk_cell Qg.out 9).trans rfl,(blk_cell Qg.out 10).trans rfl,(blk_cell Qg.out 11).trans rfl,(blk_cell Qg.out 12).trans rfl,(blk_cell Qg.out 13).trans rfl,(blk_cell Qg.out 14).trans rfl,(blk_cell Qg.out 15).trans rfl⟩ (fun hHeld=>?_)
 clear hK K
 refine norm_ (a':=?_) ?_ ?_
 rotate_left
 ·show Act.put _ (some 10) _ = _
  simp only [Act.put,List.setIfInBounds_toArray,List.set_cons_zero,List.set_cons_succ,i64_w,i32_w]
  rfl
 refine pure_ (i:=8) (N:=some 11) (v:=?_) (a':=?_) #[true,true,true,true,true,true,true,true,true,false,false] rfl rfl (any_of HT_.out (by kernel_rfl)) (fun _ _ _ h=>h) (Or.inl ⟨by rfl,?_⟩) ?_ ?_
 rotate_left
 ·intro w'
  go_simp
  with_reducible rfl
 rotate_left
 ·simp only [Act.put,List.setIfInBounds_toArray,List.set_cons_zero,List.set_cons_succ,i64_w,i32_w]
  rfl
 refine pure_ (i:=9) (N:=some 12) (v:=?_) (a':=?_) #[true,true,true,true,true,true,true,true,true,true,false] rfl rfl (any_of HT_.out (by kernel_rfl)) (fun _ _ _ h=>h) (Or.inl ⟨by rfl,?_⟩) ?_ ?_
 rotate_left
 ·intro w'
  go_simp
  with_reducible rfl
 rotate_left
 ·simp only [Act.put,List.setIfInBounds_toArray,List.set_cons_zero,List.set_cons_succ,i64_w,i32_w]
  rfl
 refine pure_ (i:=10) (N:=some 2) (v:=?_) (a':=?_) #[true,true,true,true,true,true,true,true,true,true,true] rfl rfl (any_of HT_.out (by kernel_rfl)) (fun _ _ _ h=>h) (Or.inl ⟨by rfl,?_⟩) ?_ ?_
 rotate_left
 ·intro w'
  go_simp
  with_reducible rfl
 rotate_left
 ·simp only [Act.put,List.setIfInBounds_toArray,List.set_cons_zero,List.set_cons_succ,i64_w,i32_w]
  rfl
 refine done_ (done_of HT_.out (by kernel_rfl)) ?_
 try go_wp2
 go_ret
 exact ⟨by first|rfl|(simp [errW_none,errW_some] <;> rfl)|(simp [*,errW_none,errW_some] <;> rfl),by repeat (first|(with_reducible first|exact HB.out|apply below_alloc|apply pw_below_drewN|apply below_drew1|refine below_set ?_ GE129.out)|exact HB.out)⟩

/-! ### plan_look_limit: function 50 -/
def plan_look_limit.f (Qn : Int) (Qo : Int) (Qk : Int) (Qi : Int) (Qh : Int) (Ql : Int) (Qp : Int) (Qm : Int) (Qq : Int) (Qj : Int) (Qa : Int) (Qe : Int) (Qb : Int) (Qd : Int) (Qc : Int) (Qf : Int) : Option (Bool):=(plan_look_leastCap.f Qn Qo Qk Qi Qh Ql Qp Qm Qq Qj Qa Qe Qb Qd Qc Qf).bind fun t134=>((plan_in.f Qa t134 1048576).bind fun t135=>(some t135))
set_option maxHeartbeats 8000000 in
set_option maxRecDepth 100000 in
theorem plan_look_limit.calls (Qn : Int) (Qo : Int) (Qk : Int) (Qi : Int) (Qh : Int) (Ql : Int) (Qp : Int) (Qm : Int) (Qq : Int) (Qj : Int) (Qa : Int) (Qe : Int) (Qb : Int) (Qd : Int) (Qc : Int) (Qf : Int) (r : Bool) (w : World) (h : plan_look_limit.f Qn Qo Qk Qi Qh Ql Qp Qm Qq Qj Qa Qe Qb Qd Qc Qf = some r) :
  Calls Try.prog 50 #[.agg #[.int .i64 Qn,.int .i64 Qo,.int .i64 Qk,.int .i64 Qi,.int .i64 Qh,.int .i64 Ql,.int .i64 Qp,.int .i64 Qm,.int .i64 Qq,.int .i64 Qj,.int .i64 Qa,.int .i64 Qe,.int .i64 Qb,.int .i64 Qd,.int .i64 Qc,.int .i64 Qf]] w fun e w'=>e = .returned (.bool r)∧Below w.heap.size w w':=by
 have hu72:=Try.underlying72
 have HB:=Aside0.mk (Below.refl w.heap.size w)
 have H : ((plan_look_leastCap.f Qn Qo Qk Qi Qh Ql Qp Qm Qq Qj Qa Qe Qb Qd Qc Qf).bind fun t134=>((plan_in.f Qa t134 1048576).bind fun t135=>(some t135))) = some r:=h
 clear h
 replace H:=Option.bind_eq_some_iff.mp H
 obtain ⟨t134,A20,H⟩:=H
 replace H : ((plan_in.f Qa t134 1048576).bind fun t135=>(some t135)) = some r:=H
 have A2:=Aside0.mk A20
 clear A20
 replace H:=Option.bind_eq_some_iff.mp H
 obtain ⟨t135,A30,H⟩:=H
 replace H : (some t135) = some r:=H
 have A3:=Aside0.mk A30
 clear A30
 obtain rfl:=Option.some.inj H
 go_enter Try.func50,Try.ntmps50
 try go_wp2_with (first|((with_reducible refine gate_dst (N:=1) rfl ?_);refine box_event ?hg (N:=1) ?hd (cs:=#[.int .i64 Qn,.int .i64 Qo,.int .i64 Qk,.int .i64 Qi,.int .i64 Qh,.int .i64 Ql,.int .i64 Qp,.int .i64 Qm,.int .i64 Qq,.int .i64 Qj,.int .i64 Qa,.int .i64 Qe,.int .i64 Qb,.int .i64 Qd,.int .i64 Qc,.int .i64 Qf]) (t:=72) ?hr ?_;(case hd=>rfl);(case hg=>rfl);(case hr=>first|(go_simp;done)|(go_simp;rfl));intro Qx hg w4 hbox hb;have n0_:=Aside0.mk (below_step (by repeat (first|(with_reducible first|exact HB.out|apply below_alloc|apply pw_below_drewN|apply below_drew1)|exact HB.out)) hb);have n1_:=Aside0.mk (hbox);have n2_:=Aside0.mk ((by rw [hg];exact (below_size (by repeat (first|(with_reducible first|exact HB.out|apply below_alloc|apply pw_below_drewN|apply below_drew1)|exact HB.out))) : w.heap.size ≤ Qx));have n3_:=Aside0.mk ((by rw [hg];exact (below_size (by repeat (first|(with_reducible first|exact HB.out|apply below_alloc|apply pw_below_drewN|apply below_drew1)|exact HB.out))) : w.heap.size ≤ Qx));clear HB;have HB:=n0_;have Qs:=n1_;have GW133:=n2_;have GE133:=n3_;clear n0_ n1_ n2_ n3_;clear hb hbox hg))
 have n0_:=Aside0.mk (blk_drew Qs.out)
 have n1_:=Aside0.mk (below_drew1 HB.out)
 clear Qs
 clear HB
 have Qs:=n0_
 have HB:=n1_
 clear n0_ n1_
 refine start_ (n:=7) (S:=fun w'=>w'.cell? ⟨Qx,0,none⟩ = some (.int .i64 Qn)∧w'.cell? ⟨Qx,1,none⟩ = some (.int .i64 Qo)∧w'.cell? ⟨Qx,2,none⟩ = some (.int .i64 Qk)∧w'.cell? ⟨Qx,3,none⟩ = some (.int .i64 Qi)∧w'.cell? ⟨Qx,4,none⟩ = some (.int .i64 Qh)∧w'.cell? ⟨Qx,5,none⟩ = some (.int .i64 Ql)∧w'.cell? ⟨Qx,6,none⟩ = some (.int .i64 Qp)∧w'.cell? ⟨Qx,7,none⟩ = some (.int .i64 Qm)∧w'.cell? ⟨Qx,8,none⟩ = some (.int .i64 Qq)∧w'.cell? ⟨Qx,9,none⟩ = some (.int .i64 Qj)∧w'.cell? ⟨Qx,10,none⟩ = some (.int .i64 Qa)∧w'.cell? ⟨Qx,11,none⟩ = some (.int .i64 Qe)∧w'.cell? ⟨Qx,12,none⟩ = some (.int .i64 Qb)∧w'.cell? ⟨Qx,13,none⟩ = some (.int .i64 Qd)∧w'.cell? ⟨Qx,14,none⟩ = some (.int .i64 Qc)∧w'.cell? ⟨Qx,15,none⟩ = some (.int .i64 Qf)) (ds:=[]) #[false,false,false,false,false,false,false] (by kernel_rfl) rfl rfl ⟨(blk_cell Qs.out 0).trans rfl,(blk_cell Qs.out 1).trans rfl,(blk_cell Qs.out 2).trans rfl,(blk_cell Qs.out 3).trans rfl,(blk_cell Qs.out 4).trans rfl,(blk_cell Qs.out 5).trans rfl,(blk_cell Qs.out 6).trans rfl,(blk_cell Qs.out 7).trans rfl,(blk_cell Qs.out 8).trans rfl,(blk_cell Qs.out 9).trans rfl,(blk_cell Qs.out 10).trans rfl,(blk_cell Qs.out 11).trans rfl,(blk_cell Qs.out 12).trans rfl,(blk_cell Qs.out 13).trans rfl,(blk_cell Qs.out 14).trans rfl,(blk_cell Qs.out 15).trans rfl⟩ (fun hHeld=>?_)
 generalize w4.drew = w5 at Qs HB hHeld ⊢
 refine pure_ (i:=0) (N:=some 3) (v:=?_) (a':=?_) #[true,false,false,false,false,false,false] rfl rfl (by kernel_rfl) (fun _ _ _ h=>h) (Or.inl ⟨by rfl,?_⟩) ?_ ?_
 rotate_left
 ·intro w'
  go_simp
  with_reducible rfl
 rotate_left
 ·simp only [Act.put,List.setIfInBounds_toArray,List.set_cons_zero,List.set_cons_succ,i64_w,i32_w]
  rfl
 refine pure_ (i:=1) (N:=some 4) (v:=?_) (a':=?_) #[true,true,false,false,false,false,false] rfl rfl (by kernel_rfl) (fun _ _ _ h=>h) (Or.inl ⟨by rfl,?_⟩) ?_ ?_
 rotate_left
 ·intro w'
  go_simp
  with_reducible rfl
 rotate_left
 ·simp only [Act.put,List.setIfInBounds_toArray,List.set_cons_zero,List.set_cons_succ,i64_w,i32_w]
  rfl
 refine take_ (i:=2) (N:=some 5) (v:=?_) (a':=?_) #[true,true,true,false,false,false,false] rfl rfl (by kernel_rfl) (fun _ _ _ h=>h) (Or.inl ⟨by rfl,?_⟩) hHeld ?_ ?_
 rotate_left
 ·rintro w' ⟨s0,s1,s2,s3,s4,s5,s6,s7,s8,s9,s10,s11,s12,s13,s14,s15⟩
  go_simp
  with_reducible rfl
 rotate_left
 ·simp only [Act.put,List.setIfInBounds_toArray,List.set_cons_zero,List.set_cons_succ,i64_w,i32_w]
  rfl
 refine take_ (i:=3) (N:=some 6) (v:=?_) (a':=?_) #[true,true,true,true,false,false,false] rfl rfl (by kernel_rfl) (fun _ _ _ h=>h) (Or.inl ⟨by rfl,?_⟩) hHeld ?_ ?_
 rotate_left
 ·rintro w' ⟨s0,s1,s2,s3,s4,s5,s6,s7,s8,s9,s10,s11,s12,s13,s14,s15⟩
  go_simp
  with_reducible rfl
 rotate_left
 ·simp only [Act.put,List.setIfInBounds_toArray,List.set_cons_zero,List.set_cons_succ,i64_w,i32_w]
  rfl
 refine one_ (i:=4) (N:=some 7) #[true,true,true,true,true,false,false] rfl rfl (by kernel_rfl) (by decide) (fun K hK=>?_)
 refine goes_ Try.func58 (by kernel_rfl) rfl #[.agg #[.int .i64 Qn,.int .i64 Qo,.int .i64 Qk,.int .i64 Qi,.int .i64 Qh,.int .i64 Ql,.int .i64 Qp,.int .i64 Qm,.int .i64 Qq,.int .i64 Qj,.int .i64 Qa,.int .i64 Qe,.int .i64 Qb,.int .i64 Qd,.int .i64 Qc,.int .i64 Qf]] (by rfl) rfl rfl (by (try simp only [List.map_toArray,List.map_cons,List.map_nil]);first|done|rfl|(simp only [List.length_drop,List.length_take];rfl)) ?_
 with_reducible refine (plan_look_leastCap.calls Qn Qo Qk Qi Qh Ql Qp Qm Qq Qj Qa Qe Qb Qd Qc Qf t134 _ A2.out).mono ?_
 rintro e w6 ⟨rfl,hb⟩
 refine ⟨_,rfl,?_⟩
 have n0_:=Aside0.mk (blk_below (g:=Qx) (o:=.cells #[.int .i64 Qn,.int .i64 Qo,.int .i64 Qk,.int .i64 Qi,.int .i64 Qh,.int .i64 Ql,.int .i64 Qp,.int .i64 Qm,.int .i64 Qq,.int .i64 Qj,.int .i64 Qa,.int .i64 Qe,.int .i64 Qb,.int .i64 Qd,.int .i64 Qc,.int .i64 Qf] 72 (0,0)) (by (with_reducible repeat (first|refine blk_drewN ?_ _|refine blk_drew ?_|refine blk_alloc ?_ _));exact Qs.out) hb)
 have n1_:=Aside0.mk (below_step (by repeat (first|(with_reducible first|exact HB.out|apply below_alloc|apply pw_below_drewN|apply below_drew1|refine below_set ?_ GE133.out)|exact HB.out)) hb)
 clear Qs
 clear HB
 have Qs:=n0_
 have HB:=n1_
 clear n0_ n1_
 (try clear hb)
 (try clear hb2)
 (try clear hk)
 (try clear hi)
 refine hK.out _ _ ⟨(blk_cell Qs.out 0).trans rfl,(blk_cell Qs.out 1).trans rfl,(blk_cell Qs.out 2).trans rfl,(blk_cell Qs.out 3).trans rfl,(blk_cell Qs.out 4).trans rfl,(blk_cell Qs.out 5).trans rfl,(blk_cell Qs.out 6).trans rfl,(blk_cell Qs.out 7).trans rfl,(blk_cell Qs.out 8).trans rfl,(blk_cell Qs.out 9).trans rfl,(blk_cell Qs.out 10).trans rfl,(blk_cell Qs.out 11).trans rfl,(blk_cell Qs.out 12).trans rfl,(blk_cell Qs.out 13).trans rfl,(blk_cell Qs.out 14).trans rfl,(blk_cell Qs.out 15).trans rfl⟩ (fun hHeld=>?_)
 clear hK K
 refine norm_ (a':=?_) ?_ ?_
 rotate_left
 ·show Act.put _ (some 7) _ = _
  simp only [Act.put,List.setIfInBounds_toArray,List.set_cons_zero,List.set_cons_succ,i64_w,i32_w]
  rfl
 refine one_ (i:=5) (N:=some 8) #[true,true,true,true,true,true,false] rfl rfl (by kernel_rfl) (by decide) (fun K hK=>?_)
 refine goes_ Try.func55 (by kernel_rfl) rfl #[.int .i64 Qa,.int .i64 t134,.int .i64 1048576] (by rfl) rfl rfl (by (try simp only [List.map_toArray,List.map_cons,List.map_nil]);first|done|rfl|(simp only [List.length_drop,List.length_take];rfl)) ?_
 with_reducible refine (plan_in.calls Qa t134 1048576 t135 _ A3.out).mono ?_
 rintro e w' ⟨rfl,⟨nd,rfl⟩⟩
 refine ⟨_,rfl,?_⟩
 refine hK.out _ _ ⟨(blk_cell Qs.out 0).trans rfl,(blk_cell Qs.out 1).trans rfl,(blk_cell Qs.out 2).trans rfl,(blk_cell Qs.out 3).trans rfl,(blk_cell Qs.out 4).trans rfl,(blk_cell Qs.out 5).trans rfl,(blk_cell Qs.out 6).trans rfl,(blk_cell Qs.out 7).trans rfl,(blk_cell Qs.out 8).trans rfl,(blk_cell Qs.out 9).trans rfl,(blk_cell Qs.out 10).trans rfl,(blk_cell Qs.out 11).trans rfl,(blk_cell Qs.out 12).trans rfl,(blk_cell Qs.out 13).trans rfl,(blk_cell Qs.out 14).trans rfl,(blk_cell Qs.out 15).trans rfl⟩ (fun hHeld=>?_)
 clear hK K
 refine norm_ (a':=?_) ?_ ?_
 rotate_left
 ·show Act.put _ (some 8) _ = _
  simp only [Act.put,List.setIfInBounds_toArray,List.set_cons_zero,List.set_cons_succ,i64_w,i32_w]
  rfl
 refine pure_ (i:=6) (N:=some 2) (v:=?_) (a':=?_) #[true,true,true,true,true,true,true] rfl rfl (by kernel_rfl) (fun _ _ _ h=>h) (Or.inl ⟨by rfl,?_⟩) ?_ ?_
 rotate_left
 ·intro w'
  go_simp
  with_reducible rfl
 rotate_left
 ·simp only [Act.put,List.setIfInBounds_toArray,List.set_cons_zero,List.set_cons_succ,i64_w,i32_w]
  rfl
 refine done_ (by kernel_rfl) ?_
 try go_wp2
 go_ret
 exact ⟨by first|rfl|(simp [errW_none,errW_some] <;> rfl)|(simp [*,errW_none,errW_some] <;> rfl),by repeat (first|(with_reducible first|exact HB.out|apply below_alloc|apply pw_below_drewN|apply below_drew1|refine below_set ?_ GE133.out)|exact HB.out)⟩

/-! ### plan_look_leastOff: function 59 -/
def plan_look_leastOff.f (Qn : Int) (Qo : Int) (Qk : Int) (Qi : Int) (Qh : Int) (Ql : Int) (Qp : Int) (Qm : Int) (Qq : Int) (Qj : Int) (Qa : Int) (Qe : Int) (Qb : Int) (Qd : Int) (Qc : Int) (Qf : Int) : Option (Int):=some (wrap64 ((wrap64 (Qh + Qa)) + Qj))
set_option maxHeartbeats 8000000 in
set_option maxRecDepth 100000 in
theorem plan_look_leastOff.calls (Qn : Int) (Qo : Int) (Qk : Int) (Qi : Int) (Qh : Int) (Ql : Int) (Qp : Int) (Qm : Int) (Qq : Int) (Qj : Int) (Qa : Int) (Qe : Int) (Qb : Int) (Qd : Int) (Qc : Int) (Qf : Int) (r : Int) (w : World) (h : plan_look_leastOff.f Qn Qo Qk Qi Qh Ql Qp Qm Qq Qj Qa Qe Qb Qd Qc Qf = some r) :
  Calls Try.prog 59 #[.agg #[.int .i64 Qn,.int .i64 Qo,.int .i64 Qk,.int .i64 Qi,.int .i64 Qh,.int .i64 Ql,.int .i64 Qp,.int .i64 Qm,.int .i64 Qq,.int .i64 Qj,.int .i64 Qa,.int .i64 Qe,.int .i64 Qb,.int .i64 Qd,.int .i64 Qc,.int .i64 Qf]] w fun e w'=>e = .returned (.int .i64 r)∧Below w.heap.size w w':=by
 have hu72:=Try.underlying72
 have HB:=Aside0.mk (Below.refl w.heap.size w)
 have H : (some (wrap64 ((wrap64 (Qh + Qa)) + Qj))) = some r:=h
 clear h
 obtain rfl:=Option.some.inj H
 go_enter Try.func59,Try.ntmps59
 go_wp2_with (first|((with_reducible refine gate_dst (N:=1) rfl ?_);refine box_event ?hg (N:=1) ?hd (cs:=#[.int .i64 Qn,.int .i64 Qo,.int .i64 Qk,.int .i64 Qi,.int .i64 Qh,.int .i64 Ql,.int .i64 Qp,.int .i64 Qm,.int .i64 Qq,.int .i64 Qj,.int .i64 Qa,.int .i64 Qe,.int .i64 Qb,.int .i64 Qd,.int .i64 Qc,.int .i64 Qf]) (t:=72) ?hr ?_;(case hd=>rfl);(case hg=>rfl);(case hr=>first|(go_simp;done)|(go_simp;rfl));intro gb136 hg w2 hbox hb;have n0_:=Aside0.mk (below_step (by repeat (first|(with_reducible first|exact HB.out|apply below_alloc|apply pw_below_drewN|apply below_drew1)|exact HB.out)) hb);have n1_:=Aside0.mk (hbox);have n2_:=Aside0.mk ((by rw [hg];exact (below_size (by repeat (first|(with_reducible first|exact HB.out|apply below_alloc|apply pw_below_drewN|apply below_drew1)|exact HB.out))) : w.heap.size ≤ gb136));have n3_:=Aside0.mk ((by rw [hg];exact (below_size (by repeat (first|(with_reducible first|exact HB.out|apply below_alloc|apply pw_below_drewN|apply below_drew1)|exact HB.out))) : w.heap.size ≤ gb136));clear HB;have HB:=n0_;have BK136:=n1_;have GW136:=n2_;have GE136:=n3_;clear n0_ n1_ n2_ n3_;clear hb hbox hg;obtain ⟨hcz3_0,hcz3_1,hcz3_2,hcz3_3,hcz3_4,hcz3_5,hcz3_6,hcz3_7,hcz3_8,hcz3_9,hcz3_10,hcz3_11,hcz3_12,hcz3_13,hcz3_14,hcz3_15⟩:=bc16_ (w:=w2) (g:=gb136) (.int .i64 Qn) (.int .i64 Qo) (.int .i64 Qk) (.int .i64 Qi) (.int .i64 Qh) (.int .i64 Ql) (.int .i64 Qp) (.int .i64 Qm) (.int .i64 Qq) (.int .i64 Qj) (.int .i64 Qa) (.int .i64 Qe) (.int .i64 Qb) (.int .i64 Qd) (.int .i64 Qc) (.int .i64 Qf) BK136.out;obtain ⟨hfz3_0,hfz3_1,hfz3_2,hfz3_3,hfz3_4,hfz3_5,hfz3_6,hfz3_7,hfz3_8,hfz3_9,hfz3_10,hfz3_11,hfz3_12,hfz3_13,hfz3_14,hfz3_15⟩:=bf16_ BK136.out))
 go_ret
 exact ⟨by first|rfl|(simp [errW_none,errW_some] <;> rfl)|(simp [*,errW_none,errW_some] <;> rfl),by repeat (first|(with_reducible first|exact HB.out|apply below_alloc|apply pw_below_drewN|apply below_drew1|refine below_set ?_ GE136.out)|exact HB.out)⟩

/-! ### plan_look_sends: function 51 -/
def plan_look_sends.f (Qn : Int) (Qo : Int) (Qk : Int) (Qi : Int) (Qh : Int) (Ql : Int) (Qp : Int) (Qm : Int) (Qq : Int) (Qj : Int) (Qa : Int) (Qe : Int) (Qb : Int) (Qd : Int) (Qc : Int) (Qf : Int) : Option (Bool):=(plan_look_leastOff.f Qn Qo Qk Qi Qh Ql Qp Qm Qq Qj Qa Qe Qb Qd Qc Qf).bind fun t138=>((plan_in.f Qi t138 1048576).bind fun t139=>(some t139))
set_option maxHeartbeats 8000000 in
set_option maxRecDepth 100000 in
theorem plan_look_sends.calls (Qn : Int) (Qo : Int) (Qk : Int) (Qi : Int) (Qh : Int) (Ql : Int) (Qp : Int) (Qm : Int) (Qq : Int) (Qj : Int) (Qa : Int) (Qe : Int) (Qb : Int) (Qd : Int) (Qc : Int) (Qf : Int) (r : Bool) (w : World) (h : plan_look_sends.f Qn Qo Qk Qi Qh Ql Qp Qm Qq Qj Qa Qe Qb Qd Qc Qf = some r) :
  Calls Try.prog 51 #[.agg #[.int .i64 Qn,.int .i64 Qo,.int .i64 Qk,.int .i64 Qi,.int .i64 Qh,.int .i64 Ql,.int .i64 Qp,.int .i64 Qm,.int .i64 Qq,.int .i64 Qj,.int .i64 Qa,.int .i64 Qe,.int .i64 Qb,.int .i64 Qd,.int .i64 Qc,.int .i64 Qf]] w fun e w'=>e = .returned (.bool r)∧Below w.heap.size w w':=by
 have hu72:=Try.underlying72
 have HB:=Aside0.mk (Below.refl w.heap.size w)
 have H : ((plan_look_leastOff.f Qn Qo Qk Qi Qh Ql Qp Qm Qq Qj Qa Qe Qb Qd Qc Qf).bind fun t138=>((plan_in.f Qi t138 1048576).bind fun t139=>(some t139))) = some r:=h
 clear h
 replace H:=Option.bind_eq_some_iff.mp H
 obtain ⟨t138,A20,H⟩:=H
 replace H : ((plan_in.f Qi t138 1048576).bind fun t139=>(some t139)) = some r:=H
 have A2:=Aside0.mk A20
 clear A20
 replace H:=Option.bind_eq_some_iff.mp H
 obtain ⟨t139,A30,H⟩:=H
 replace H : (some t139) = some r:=H
 have A3:=Aside0.mk A30
 clear A30
 obtain rfl:=Option.some.inj H
 go_enter Try.func51,Try.ntmps51
 try go_wp2_with (first|((with_reducible refine gate_dst (N:=1) rfl ?_);refine box_event ?hg (N:=1) ?hd (cs:=#[.int .i64 Qn,.int .i64 Qo,.int .i64 Qk,.int .i64 Qi,.int .i64 Qh,.int .i64 Ql,.int .i64 Qp,.int .i64 Qm,.int .i64 Qq,.int .i64 Qj,.int .i64 Qa,.int .i64 Qe,.int .i64 Qb,.int .i64 Qd,.int .i64 Qc,.int .i64 Qf]) (t:=72) ?hr ?_;(case hd=>rfl);(case hg=>rfl);(case hr=>first|(go_simp;done)|(go_simp;rfl));intro Qy hg w4 hbox hb;have n0_:=Aside0.mk (below_step (by repeat (first|(with_reducible first|exact HB.out|apply below_alloc|apply pw_below_drewN|apply below_drew1)|exact HB.out)) hb);have n1_:=Aside0.mk (hbox);have n2_:=Aside0.mk ((by rw [hg];exact (below_size (by repeat (first|(with_reducible first|exact HB.out|apply below_alloc|apply pw_below_drewN|apply below_drew1)|exact HB.out))) : w.heap.size ≤ Qy));have n3_:=Aside0.mk ((by rw [hg];exact (below_size (by repeat (first|(with_reducible first|exact HB.out|apply below_alloc|apply pw_below_drewN|apply below_drew1)|exact HB.out))) : w.heap.size ≤ Qy));clear HB;have HB:=n0_;have Qt:=n1_;have GW137:=n2_;have GE137:=n3_;clear n0_ n1_ n2_ n3_;clear hb hbox hg))
 have n0_:=Aside0.mk (blk_drew Qt.out)
 have n1_:=Aside0.mk (below_drew1 HB.out)
 clear Qt
 clear HB
 have Qt:=n0_
 have HB:=n1_
 clear n0_ n1_
 refine start_ (n:=7) (S:=fun w'=>w'.cell? ⟨Qy,0,none⟩ = some (.int .i64 Qn)∧w'.cell? ⟨Qy,1,none⟩ = some (.int .i64 Qo)∧w'.cell? ⟨Qy,2,none⟩ = some (.int .i64 Qk)∧w'.cell? ⟨Qy,3,none⟩ = some (.int .i64 Qi)∧w'.cell? ⟨Qy,4,none⟩ = some (.int .i64 Qh)∧w'.cell? ⟨Qy,5,none⟩ = some (.int .i64 Ql)∧w'.cell? ⟨Qy,6,none⟩ = some (.int .i64 Qp)∧w'.cell? ⟨Qy,7,none⟩ = some (.int .i64 Qm)∧w'.cell? ⟨Qy,8,none⟩ = some (.int .i64 Qq)∧w'.cell? ⟨Qy,9,none⟩ = some (.int .i64 Qj)∧w'.cell? ⟨Qy,10,none⟩ = some (.int .i64 Qa)∧w'.cell? ⟨Qy,11,none⟩ = some (.int .i64 Qe)∧w'.cell? ⟨Qy,12,none⟩ = some (.int .i64 Qb)∧w'.cell? ⟨Qy,13,none⟩ = some (.int .i64 Qd)∧w'.cell? ⟨Qy,14,none⟩ = some (.int .i64 Qc)∧w'.cell? ⟨Qy,15,none⟩ = some (.int .i64 Qf)) (ds:=[]) #[false,false,false,false,false,false,false] (by kernel_rfl) rfl rfl ⟨(blk_cell Qt.out 0).trans rfl,(blk_cell Qt.out 1).trans rfl,(blk_cell Qt.out 2).trans rfl,(blk_cell Qt.out 3).trans rfl,(blk_cell Qt.out 4).trans rfl,(blk_cell Qt.out 5).trans rfl,(blk_cell Qt.out 6).trans rfl,(blk_cell Qt.out 7).trans rfl,(blk_cell Qt.out 8).trans rfl,(blk_cell Qt.out 9).trans rfl,(blk_cell Qt.out 10).trans rfl,(blk_cell Qt.out 11).trans rfl,(blk_cell Qt.out 12).trans rfl,(blk_cell Qt.out 13).trans rfl,(blk_cell Qt.out 14).trans rfl,(blk_cell Qt.out 15).trans rfl⟩ (fun hHeld=>?_)
 generalize w4.drew = w5 at Qt HB hHeld ⊢
 refine pure_ (i:=0) (N:=some 3) (v:=?_) (a':=?_) #[true,false,false,false,false,false,false] rfl rfl (by kernel_rfl) (fun _ _ _ h=>h) (Or.inl ⟨by rfl,?_⟩) ?_ ?_
 rotate_left
 ·intro w'
  go_simp
  with_reducible rfl
 rotate_left
 ·simp only [Act.put,List.setIfInBounds_toArray,List.set_cons_zero,List.set_cons_succ,i64_w,i32_w]
  rfl
 refine pure_ (i:=1) (N:=some 4) (v:=?_) (a':=?_) #[true,true,false,false,false,false,false] rfl rfl (by kernel_rfl) (fun _ _ _ h=>h) (Or.inl ⟨by rfl,?_⟩) ?_ ?_
 rotate_left
 ·intro w'
  go_simp
  with_reducible rfl
 rotate_left
 ·simp only [Act.put,List.setIfInBounds_toArray,List.set_cons_zero,List.set_cons_succ,i64_w,i32_w]
  rfl
 refine take_ (i:=2) (N:=some 5) (v:=?_) (a':=?_) #[true,true,true,false,false,false,false] rfl rfl (by kernel_rfl) (fun _ _ _ h=>h) (Or.inl ⟨by rfl,?_⟩) hHeld ?_ ?_
 rotate_left
 ·rintro w' ⟨s0,s1,s2,s3,s4,s5,s6,s7,s8,s9,s10,s11,s12,s13,s14,s15⟩
  go_simp
  with_reducible rfl
 rotate_left
 ·simp only [Act.put,List.setIfInBounds_toArray,List.set_cons_zero,List.set_cons_succ,i64_w,i32_w]
  rfl
 refine take_ (i:=3) (N:=some 6) (v:=?_) (a':=?_) #[true,true,true,true,false,false,false] rfl rfl (by kernel_rfl) (fun _ _ _ h=>h) (Or.inl ⟨by rfl,?_⟩) hHeld ?_ ?_
 rotate_left
 ·rintro w' ⟨s0,s1,s2,s3,s4,s5,s6,s7,s8,s9,s10,s11,s12,s13,s14,s15⟩
  go_simp
  with_reducible rfl
 rotate_left
 ·simp only [Act.put,List.setIfInBounds_toArray,List.set_cons_zero,List.set_cons_succ,i64_w,i32_w]
  rfl
 refine one_ (i:=4) (N:=some 7) #[true,true,true,true,true,false,false] rfl rfl (by kernel_rfl) (by decide) (fun K hK=>?_)
 refine goes_ Try.func59 (by kernel_rfl) rfl #[.agg #[.int .i64 Qn,.int .i64 Qo,.int .i64 Qk,.int .i64 Qi,.int .i64 Qh,.int .i64 Ql,.int .i64 Qp,.int .i64 Qm,.int .i64 Qq,.int .i64 Qj,.int .i64 Qa,.int .i64 Qe,.int .i64 Qb,.int .i64 Qd,.int .i64 Qc,.int .i64 Qf]] (by rfl) rfl rfl (by (try simp only [List.map_toArray,List.map_cons,List.map_nil]);first|done|rfl|(simp only [List.length_drop,List.length_take];rfl)) ?_
 with_reducible refine (plan_look_leastOff.calls Qn Qo Qk Qi Qh Ql Qp Qm Qq Qj Qa Qe Qb Qd Qc Qf t138 _ A2.out).mono ?_
 rintro e w6 ⟨rfl,hb⟩
 refine ⟨_,rfl,?_⟩
 have n0_:=Aside0.mk (blk_below (g:=Qy) (o:=.cells #[.int .i64 Qn,.int .i64 Qo,.int .i64 Qk,.int .i64 Qi,.int .i64 Qh,.int .i64 Ql,.int .i64 Qp,.int .i64 Qm,.int .i64 Qq,.int .i64 Qj,.int .i64 Qa,.int .i64 Qe,.int .i64 Qb,.int .i64 Qd,.int .i64 Qc,.int .i64 Qf] 72 (0,0)) (by (with_reducible repeat (first|refine blk_drewN ?_ _|refine blk_drew ?_|refine blk_alloc ?_ _));exact Qt.out) hb)
 have n1_:=Aside0.mk (below_step (by repeat (first|(with_reducible first|exact HB.out|apply below_alloc|apply pw_below_drewN|apply below_drew1|refine below_set ?_ GE137.out)|exact HB.out)) hb)
 clear Qt
 clear HB
 have Qt:=n0_
 have HB:=n1_
 clear n0_ n1_
 (try clear hb)
 (try clear hb2)
 (try clear hk)
 (try clear hi)
 refine hK.out _ _ ⟨(blk_cell Qt.out 0).trans rfl,(blk_cell Qt.out 1).trans rfl,(blk_cell Qt.out 2).trans rfl,(blk_cell Qt.out 3).trans rfl,(blk_cell Qt.out 4).trans rfl,(blk_cell Qt.out 5).trans rfl,(blk_cell Qt.out 6).trans rfl,(blk_cell Qt.out 7).trans rfl,(blk_cell Qt.out 8).trans rfl,(blk_cell Qt.out 9).trans rfl,(blk_cell Qt.out 10).trans rfl,(blk_cell Qt.out 11).trans rfl,(blk_cell Qt.out 12).trans rfl,(blk_cell Qt.out 13).trans rfl,(blk_cell Qt.out 14).trans rfl,(blk_cell Qt.out 15).trans rfl⟩ (fun hHeld=>?_)
 clear hK K
 refine norm_ (a':=?_) ?_ ?_
 rotate_left
 ·show Act.put _ (some 7) _ = _
  simp only [Act.put,List.setIfInBounds_toArray,List.set_cons_zero,List.set_cons_succ,i64_w,i32_w]
  rfl
 refine one_ (i:=5) (N:=some 8) #[true,true,true,true,true,true,false] rfl rfl (by kernel_rfl) (by decide) (fun K hK=>?_)
 refine goes_ Try.func55 (by kernel_rfl) rfl #[.int .i64 Qi,.int .i64 t138,.int .i64 1048576] (by rfl) rfl rfl (by (try simp only [List.map_toArray,List.map_cons,List.map_nil]);first|done|rfl|(simp only [List.length_drop,List.length_take];rfl)) ?_
 with_reducible refine (plan_in.calls Qi t138 1048576 t139 _ A3.out).mono ?_
 rintro e w' ⟨rfl,⟨nd,rfl⟩⟩
 refine ⟨_,rfl,?_⟩
 refine hK.out _ _ ⟨(blk_cell Qt.out 0).trans rfl,(blk_cell Qt.out 1).trans rfl,(blk_cell Qt.out 2).trans rfl,(blk_cell Qt.out 3).trans rfl,(blk_cell Qt.out 4).trans rfl,(blk_cell Qt.out 5).trans rfl,(blk_cell Qt.out 6).trans rfl,(blk_cell Qt.out 7).trans rfl,(blk_cell Qt.out 8).trans rfl,(blk_cell Qt.out 9).trans rfl,(blk_cell Qt.out 10).trans rfl,(blk_cell Qt.out 11).trans rfl,(blk_cell Qt.out 12).trans rfl,(blk_cell Qt.out 13).trans rfl,(blk_cell Qt.out 14).trans rfl,(blk_cell Qt.out 15).trans rfl⟩ (fun hHeld=>?_)
 clear hK K
 refine norm_ (a':=?_) ?_ ?_
 rotate_left
 ·show Act.put _ (some 8) _ = _
  simp only [Act.put,List.setIfInBounds_toArray,List.set_cons_zero,List.set_cons_succ,i64_w,i32_w]
  rfl
 refine pure_ (i:=6) (N:=some 2) (v:=?_) (a':=?_) #[true,true,true,true,true,true,true] rfl rfl (by kernel_rfl) (fun _ _ _ h=>h) (Or.inl ⟨by rfl,?_⟩) ?_ ?_
 rotate_left
 ·intro w'
  go_simp
  with_reducible rfl
 rotate_left
 ·simp only [Act.put,List.setIfInBounds_toArray,List.set_cons_zero,List.set_cons_succ,i64_w,i32_w]
  rfl
 refine done_ (by kernel_rfl) ?_
 try go_wp2
 go_ret
 exact ⟨by first|rfl|(simp [errW_none,errW_some] <;> rfl)|(simp [*,errW_none,errW_some] <;> rfl),by repeat (first|(with_reducible first|exact HB.out|apply below_alloc|apply pw_below_drewN|apply below_drew1|refine below_set ?_ GE137.out)|exact HB.out)⟩

/-! ### plan_look_leastSlot: function 39 -/
def plan_look_leastSlot.f (Qn : Int) (Qo : Int) (Qk : Int) (Qi : Int) (Qh : Int) (Ql : Int) (Qp : Int) (Qm : Int) (Qq : Int) (Qj : Int) (Qa : Int) (Qe : Int) (Qb : Int) (Qd : Int) (Qc : Int) (Qf : Int) : Option (Int):=some (wrap64 ((wrap64 ((wrap64 ((wrap64 ((wrap64 (Qi + Qh)) + (wrap64 (2 * (wrap64 (Qm + Ql)))))) + Qa)) + Qj)) + 8))
set_option maxHeartbeats 8000000 in
set_option maxRecDepth 100000 in
theorem plan_look_leastSlot.calls (Qn : Int) (Qo : Int) (Qk : Int) (Qi : Int) (Qh : Int) (Ql : Int) (Qp : Int) (Qm : Int) (Qq : Int) (Qj : Int) (Qa : Int) (Qe : Int) (Qb : Int) (Qd : Int) (Qc : Int) (Qf : Int) (r : Int) (w : World) (h : plan_look_leastSlot.f Qn Qo Qk Qi Qh Ql Qp Qm Qq Qj Qa Qe Qb Qd Qc Qf = some r) :
  Calls Try.prog 39 #[.agg #[.int .i64 Qn,.int .i64 Qo,.int .i64 Qk,.int .i64 Qi,.int .i64 Qh,.int .i64 Ql,.int .i64 Qp,.int .i64 Qm,.int .i64 Qq,.int .i64 Qj,.int .i64 Qa,.int .i64 Qe,.int .i64 Qb,.int .i64 Qd,.int .i64 Qc,.int .i64 Qf]] w fun e w'=>e = .returned (.int .i64 r)∧Below w.heap.size w w':=by
 have hu72:=Try.underlying72
 have HB:=Aside0.mk (Below.refl w.heap.size w)
 have H : (some (wrap64 ((wrap64 ((wrap64 ((wrap64 ((wrap64 (Qi + Qh)) + (wrap64 (2 * (wrap64 (Qm + Ql)))))) + Qa)) + Qj)) + 8))) = some r:=h
 clear h
 obtain rfl:=Option.some.inj H
 go_enter Try.func39,Try.ntmps39
 go_wp2_with (first|((with_reducible refine gate_dst (N:=1) rfl ?_);refine box_event ?hg (N:=1) ?hd (cs:=#[.int .i64 Qn,.int .i64 Qo,.int .i64 Qk,.int .i64 Qi,.int .i64 Qh,.int .i64 Ql,.int .i64 Qp,.int .i64 Qm,.int .i64 Qq,.int .i64 Qj,.int .i64 Qa,.int .i64 Qe,.int .i64 Qb,.int .i64 Qd,.int .i64 Qc,.int .i64 Qf]) (t:=72) ?hr ?_;(case hd=>rfl);(case hg=>rfl);(case hr=>first|(go_simp;done)|(go_simp;rfl));intro gb140 hg w2 hbox hb;have n0_:=Aside0.mk (below_step (by repeat (first|(with_reducible first|exact HB.out|apply below_alloc|apply pw_below_drewN|apply below_drew1)|exact HB.out)) hb);have n1_:=Aside0.mk (hbox);have n2_:=Aside0.mk ((by rw [hg];exact (below_size (by repeat (first|(with_reducible first|exact HB.out|apply below_alloc|apply pw_below_drewN|apply below_drew1)|exact HB.out))) : w.heap.size ≤ gb140));have n3_:=Aside0.mk ((by rw [hg];exact (below_size (by repeat (first|(with_reducible first|exact HB.out|apply below_alloc|apply pw_below_drewN|apply below_drew1)|exact HB.out))) : w.heap.size ≤ gb140));clear HB;have HB:=n0_;have BK140:=n1_;have GW140:=n2_;have GE140:=n3_;clear n0_ n1_ n2_ n3_;clear hb hbox hg;obtain ⟨hcz3_0,hcz3_1,hcz3_2,hcz3_3,hcz3_4,hcz3_5,hcz3_6,hcz3_7,hcz3_8,hcz3_9,hcz3_10,hcz3_11,hcz3_12,hcz3_13,hcz3_14,hcz3_15⟩:=bc16_ (w:=w2) (g:=gb140) (.int .i64 Qn) (.int .i64 Qo) (.int .i64 Qk) (.int .i64 Qi) (.int .i64 Qh) (.int .i64 Ql) (.int .i64 Qp) (.int .i64 Qm) (.int .i64 Qq) (.int .i64 Qj) (.int .i64 Qa) (.int .i64 Qe) (.int .i64 Qb) (.int .i64 Qd) (.int .i64 Qc) (.int .i64 Qf) BK140.out;obtain ⟨hfz3_0,hfz3_1,hfz3_2,hfz3_3,hfz3_4,hfz3_5,hfz3_6,hfz3_7,hfz3_8,hfz3_9,hfz3_10,hfz3_11,hfz3_12,hfz3_13,hfz3_14,hfz3_15⟩:=bf16_ BK140.out))
 go_ret
 exact ⟨by first|rfl|(simp [errW_none,errW_some] <;> rfl)|(simp [*,errW_none,errW_some] <;> rfl),by repeat (first|(with_reducible first|exact HB.out|apply below_alloc|apply pw_below_drewN|apply below_drew1|refine below_set ?_ GE140.out)|exact HB.out)⟩

/-! ### plan_look_fits: function 52 -/
def plan_look_fits.f (Qn : Int) (Qo : Int) (Qk : Int) (Qi : Int) (Qh : Int) (Ql : Int) (Qp : Int) (Qm : Int) (Qq : Int) (Qj : Int) (Qa : Int) (Qe : Int) (Qb : Int) (Qd : Int) (Qc : Int) (Qf : Int) : Option (Bool):=(plan_look_leastSlot.f Qn Qo Qk Qi Qh Ql Qp Qm Qq Qj Qa Qe Qb Qd Qc Qf).bind fun t142=>(some (decide (Qk ≥ t142)))
set_option maxHeartbeats 8000000 in
set_option maxRecDepth 100000 in
theorem plan_look_fits.calls (Qn : Int) (Qo : Int) (Qk : Int) (Qi : Int) (Qh : Int) (Ql : Int) (Qp : Int) (Qm : Int) (Qq : Int) (Qj : Int) (Qa : Int) (Qe : Int) (Qb : Int) (Qd : Int) (Qc : Int) (Qf : Int) (r : Bool) (w : World) (h : plan_look_fits.f Qn Qo Qk Qi Qh Ql Qp Qm Qq Qj Qa Qe Qb Qd Qc Qf = some r) :
  Calls Try.prog 52 #[.agg #[.int .i64 Qn,.int .i64 Qo,.int .i64 Qk,.int .i64 Qi,.int .i64 Qh,.int .i64 Ql,.int .i64 Qp,.int .i64 Qm,.int .i64 Qq,.int .i64 Qj,.int .i64 Qa,.int .i64 Qe,.int .i64 Qb,.int .i64 Qd,.int .i64 Qc,.int .i64 Qf]] w fun e w'=>e = .returned (.bool r)∧Below w.heap.size w w':=by
 have hu72:=Try.underlying72
 have HB:=Aside0.mk (Below.refl w.heap.size w)
 have H : ((plan_look_leastSlot.f Qn Qo Qk Qi Qh Ql Qp Qm Qq Qj Qa Qe Qb Qd Qc Qf).bind fun t142=>(some (decide (Qk ≥ t142)))) = some r:=h
 clear h
 replace H:=Option.bind_eq_some_iff.mp H
 obtain ⟨t142,A20,H⟩:=H
 replace H : (some (decide (Qk ≥ t142))) = some r:=H
 have A2:=Aside0.mk A20
 clear A20
 obtain rfl:=Option.some.inj H
 go_enter Try.func52,Try.ntmps52
 try go_wp2_with (first|((with_reducible refine gate_dst (N:=1) rfl ?_);refine box_event ?hg (N:=1) ?hd (cs:=#[.int .i64 Qn,.int .i64 Qo,.int .i64 Qk,.int .i64 Qi,.int .i64 Qh,.int .i64 Ql,.int .i64 Qp,.int .i64 Qm,.int .i64 Qq,.int .i64 Qj,.int .i64 Qa,.int .i64 Qe,.int .i64 Qb,.int .i64 Qd,.int .i64 Qc,.int .i64 Qf]) (t:=72) ?hr ?_;(case hd=>rfl);(case hg=>rfl);(case hr=>first|(go_simp;done)|(go_simp;rfl));intro Qz hg w3 hbox hb;have n0_:=Aside0.mk (below_step (by repeat (first|(with_reducible first|exact HB.out|apply below_alloc|apply pw_below_drewN|apply below_drew1)|exact HB.out)) hb);have n1_:=Aside0.mk (hbox);have n2_:=Aside0.mk ((by rw [hg];exact (below_size (by repeat (first|(with_reducible first|exact HB.out|apply below_alloc|apply pw_below_drewN|apply below_drew1)|exact HB.out))) : w.heap.size ≤ Qz));have n3_:=Aside0.mk ((by rw [hg];exact (below_size (by repeat (first|(with_reducible first|exact HB.out|apply below_alloc|apply pw_below_drewN|apply below_drew1)|exact HB.out))) : w.heap.size ≤ Qz));clear HB;have HB:=n0_;have Qu:=n1_;have GW141:=n2_;have GE141:=n3_;clear n0_ n1_ n2_ n3_;clear hb hbox hg))
 have n0_:=Aside0.mk (blk_drew Qu.out)
 have n1_:=Aside0.mk (below_drew1 HB.out)
 clear Qu
 clear HB
 have Qu:=n0_
 have HB:=n1_
 clear n0_ n1_
 refine start_ (n:=7) (S:=fun w'=>w'.cell? ⟨Qz,0,none⟩ = some (.int .i64 Qn)∧w'.cell? ⟨Qz,1,none⟩ = some (.int .i64 Qo)∧w'.cell? ⟨Qz,2,none⟩ = some (.int .i64 Qk)∧w'.cell? ⟨Qz,3,none⟩ = some (.int .i64 Qi)∧w'.cell? ⟨Qz,4,none⟩ = some (.int .i64 Qh)∧w'.cell? ⟨Qz,5,none⟩ = some (.int .i64 Ql)∧w'.cell? ⟨Qz,6,none⟩ = some (.int .i64 Qp)∧w'.cell? ⟨Qz,7,none⟩ = some (.int .i64 Qm)∧w'.cell? ⟨Qz,8,none⟩ = some (.int .i64 Qq)∧w'.cell? ⟨Qz,9,none⟩ = some (.int .i64 Qj)∧w'.cell? ⟨Qz,10,none⟩ = some (.int .i64 Qa)∧w'.cell? ⟨Qz,11,none⟩ = some (.int .i64 Qe)∧w'.cell? ⟨Qz,12,none⟩ = some (.int .i64 Qb)∧w'.cell? ⟨Qz,13,none⟩ = some (.int .i64 Qd)∧w'.cell? ⟨Qz,14,none⟩ = some (.int .i64 Qc)∧w'.cell? ⟨Qz,15,none⟩ = some (.int .i64 Qf)) (ds:=[]) #[false,false,false,false,false,false,false] (by kernel_rfl) rfl rfl ⟨(blk_cell Qu.out 0).trans rfl,(blk_cell Qu.out 1).trans rfl,(blk_cell Qu.out 2).trans rfl,(blk_cell Qu.out 3).trans rfl,(blk_cell Qu.out 4).trans rfl,(blk_cell Qu.out 5).trans rfl,(blk_cell Qu.out 6).trans rfl,(blk_cell Qu.out 7).trans rfl,(blk_cell Qu.out 8).trans rfl,(blk_cell Qu.out 9).trans rfl,(blk_cell Qu.out 10).trans rfl,(blk_cell Qu.out 11).trans rfl,(blk_cell Qu.out 12).trans rfl,(blk_cell Qu.out 13).trans rfl,(blk_cell Qu.out 14).trans rfl,(blk_cell Qu.out 15).trans rfl⟩ (fun hHeld=>?_)
 generalize w3.drew = w4 at Qu HB hHeld ⊢
 refine pure_ (i:=0) (N:=some 3) (v:=?_) (a':=?_) #[true,false,false,false,false,false,false] rfl rfl (by kernel_rfl) (fun _ _ _ h=>h) (Or.inl ⟨by rfl,?_⟩) ?_ ?_
 rotate_left
 ·intro w'
  go_simp
  with_reducible rfl
 rotate_left
 ·simp only [Act.put,List.setIfInBounds_toArray,List.set_cons_zero,List.set_cons_succ,i64_w,i32_w]
  rfl
 refine pure_ (i:=1) (N:=some 4) (v:=?_) (a':=?_) #[true,true,false,false,false,false,false] rfl rfl (by kernel_rfl) (fun _ _ _ h=>h) (Or.inl ⟨by rfl,?_⟩) ?_ ?_
 rotate_left
 ·intro w'
  go_simp
  with_reducible rfl
 rotate_left
 ·simp only [Act.put,List.setIfInBounds_toArray,List.set_cons_zero,List.set_cons_succ,i64_w,i32_w]
  rfl
 refine take_ (i:=2) (N:=some 5) (v:=?_) (a':=?_) #[true,true,true,false,false,false,false] rfl rfl (by kernel_rfl) (fun _ _ _ h=>h) (Or.inl ⟨by rfl,?_⟩) hHeld ?_ ?_
 rotate_left
 ·rintro w' ⟨s0,s1,s2,s3,s4,s5,s6,s7,s8,s9,s10,s11,s12,s13,s14,s15⟩
  go_simp
  with_reducible rfl
 rotate_left
 ·simp only [Act.put,List.setIfInBounds_toArray,List.set_cons_zero,List.set_cons_succ,i64_w,i32_w]
  rfl
 refine take_ (i:=3) (N:=some 6) (v:=?_) (a':=?_) #[true,true,true,true,false,false,false] rfl rfl (by kernel_rfl) (fun _ _ _ h=>h) (Or.inl ⟨by rfl,?_⟩) hHeld ?_ ?_
 rotate_left
 ·rintro w' ⟨s0,s1,s2,s3,s4,s5,s6,s7,s8,s9,s10,s11,s12,s13,s14,s15⟩
  go_simp
  with_reducible rfl
 rotate_left
 ·simp only [Act.put,List.setIfInBounds_toArray,List.set_cons_zero,List.set_cons_succ,i64_w,i32_w]
  rfl
 refine one_ (i:=4) (N:=some 7) #[true,true,true,true,true,false,false] rfl rfl (by kernel_rfl) (by decide) (fun K hK=>?_)
 refine goes_ Try.func39 (by kernel_rfl) rfl #[.agg #[.int .i64 Qn,.int .i64 Qo,.int .i64 Qk,.int .i64 Qi,.int .i64 Qh,.int .i64 Ql,.int .i64 Qp,.int .i64 Qm,.int .i64 Qq,.int .i64 Qj,.int .i64 Qa,.int .i64 Qe,.int .i64 Qb,.int .i64 Qd,.int .i64 Qc,.int .i64 Qf]] (by rfl) rfl rfl (by (try simp only [List.map_toArray,List.map_cons,List.map_nil]);first|done|rfl|(simp only [List.length_drop,List.length_take];rfl)) ?_
 with_reducible refine (plan_look_leastSlot.calls Qn Qo Qk Qi Qh Ql Qp Qm Qq Qj Qa Qe Qb Qd Qc Qf t142 _ A2.out).mono ?_
 rintro e w5 ⟨rfl,hb⟩
 refine ⟨_,rfl,?_⟩
 have n0_:=Aside0.mk (blk_below (g:=Qz) (o:=.cells #[.int .i64 Qn,.int .i64 Qo,.int .i64 Qk,.int .i64 Qi,.int .i64 Qh,.int .i64 Ql,.int .i64 Qp,.int .i64 Qm,.int .i64 Qq,.int .i64 Qj,.int .i64 Qa,.int .i64 Qe,.int .i64 Qb,.int .i64 Qd,.int .i64 Qc,.int .i64 Qf] 72 (0,0)) (by (with_reducible repeat (first|refine blk_drewN ?_ _|refine blk_drew ?_|refine blk_alloc ?_ _));exact Qu.out) hb)
 have n1_:=Aside0.mk (below_step (by repeat (first|(with_reducible first|exact HB.out|apply below_alloc|apply pw_below_drewN|apply below_drew1|refine below_set ?_ GE141.out)|exact HB.out)) hb)
 clear Qu
 clear HB
 have Qu:=n0_
 have HB:=n1_
 clear n0_ n1_
 (try clear hb)
 (try clear hb2)
 (try clear hk)
 (try clear hi)
 refine hK.out _ _ ⟨(blk_cell Qu.out 0).trans rfl,(blk_cell Qu.out 1).trans rfl,(blk_cell Qu.out 2).trans rfl,(blk_cell Qu.out 3).trans rfl,(blk_cell Qu.out 4).trans rfl,(blk_cell Qu.out 5).trans rfl,(blk_cell Qu.out 6).trans rfl,(blk_cell Qu.out 7).trans rfl,(blk_cell Qu.out 8).trans rfl,(blk_cell Qu.out 9).trans rfl,(blk_cell Qu.out 10).trans rfl,(blk_cell Qu.out 11).trans rfl,(blk_cell Qu.out 12).trans rfl,(blk_cell Qu.out 13).trans rfl,(blk_cell Qu.out 14).trans rfl,(blk_cell Qu.out 15).trans rfl⟩ (fun hHeld=>?_)
 clear hK K
 refine norm_ (a':=?_) ?_ ?_
 rotate_left
 ·show Act.put _ (some 7) _ = _
  simp only [Act.put,List.setIfInBounds_toArray,List.set_cons_zero,List.set_cons_succ,i64_w,i32_w]
  rfl
 refine pure_ (i:=5) (N:=some 8) (v:=?_) (a':=?_) #[true,true,true,true,true,true,false] rfl rfl (by kernel_rfl) (fun _ _ _ h=>h) (Or.inl ⟨by rfl,?_⟩) ?_ ?_
 rotate_left
 ·intro w'
  go_simp
  with_reducible rfl
 rotate_left
 ·simp only [Act.put,List.setIfInBounds_toArray,List.set_cons_zero,List.set_cons_succ,i64_w,i32_w]
  rfl
 refine pure_ (i:=6) (N:=some 2) (v:=?_) (a':=?_) #[true,true,true,true,true,true,true] rfl rfl (by kernel_rfl) (fun _ _ _ h=>h) (Or.inl ⟨by rfl,?_⟩) ?_ ?_
 rotate_left
 ·intro w'
  go_simp
  with_reducible rfl
 rotate_left
 ·simp only [Act.put,List.setIfInBounds_toArray,List.set_cons_zero,List.set_cons_succ,i64_w,i32_w]
  rfl
 refine done_ (by kernel_rfl) ?_
 try go_wp2
 go_ret
 exact ⟨by first|rfl|(simp [errW_none,errW_some] <;> rfl)|(simp [*,errW_none,errW_some] <;> rfl),by repeat (first|(with_reducible first|exact HB.out|apply below_alloc|apply pw_below_drewN|apply below_drew1|refine below_set ?_ GE141.out)|exact HB.out)⟩

/-! ### plan_look_queue: function 37 -/
def plan_look_queue.f (Qn : Int) (Qo : Int) (Qk : Int) (Qi : Int) (Qh : Int) (Ql : Int) (Qp : Int) (Qm : Int) (Qq : Int) (Qj : Int) (Qa : Int) (Qe : Int) (Qb : Int) (Qd : Int) (Qc : Int) (Qf : Int) : Option (Bool):=(plan_in.f Qb 1 64).bind fun t144=>(if t144 = true then ((plan_in.f Qd 1 8).bind fun QE=>(if QE = true then ((plan_in.f Qc 1 32).bind fun QB=>(some QB)) else (some false))) else (some false))
set_option maxHeartbeats 8000000 in
set_option maxRecDepth 100000 in
theorem plan_look_queue.calls (Qn : Int) (Qo : Int) (Qk : Int) (Qi : Int) (Qh : Int) (Ql : Int) (Qp : Int) (Qm : Int) (Qq : Int) (Qj : Int) (Qa : Int) (Qe : Int) (Qb : Int) (Qd : Int) (Qc : Int) (Qf : Int) (r : Bool) (w : World) (h : plan_look_queue.f Qn Qo Qk Qi Qh Ql Qp Qm Qq Qj Qa Qe Qb Qd Qc Qf = some r) :
  Calls Try.prog 37 #[.agg #[.int .i64 Qn,.int .i64 Qo,.int .i64 Qk,.int .i64 Qi,.int .i64 Qh,.int .i64 Ql,.int .i64 Qp,.int .i64 Qm,.int .i64 Qq,.int .i64 Qj,.int .i64 Qa,.int .i64 Qe,.int .i64 Qb,.int .i64 Qd,.int .i64 Qc,.int .i64 Qf]] w fun e w'=>e = .returned (.bool r)∧Below w.heap.size w w':=by
 have hu72:=Try.underlying72
 have HB:=Aside0.mk (Below.refl w.heap.size w)
 have H : ((plan_in.f Qb 1 64).bind fun t144=>(if t144 = true then ((plan_in.f Qd 1 8).bind fun QE=>(if QE = true then ((plan_in.f Qc 1 32).bind fun QB=>(some QB)) else (some false))) else (some false))) = some r:=h
 clear h
 replace H:=Option.bind_eq_some_iff.mp H
 obtain ⟨t144,A20,H⟩:=H
 replace H : (if t144 = true then ((plan_in.f Qd 1 8).bind fun QE=>(if QE = true then ((plan_in.f Qc 1 32).bind fun QB=>(some QB)) else (some false))) else (some false)) = some r:=H
 have A2:=Aside0.mk A20
 clear A20
 by_cases c3 : t144 = true
 ·subst c3
  have H1 : ((plan_in.f Qd 1 8).bind fun QE=>(if QE = true then ((plan_in.f Qc 1 32).bind fun QB=>(some QB)) else (some false))) = some r:=by rw [if_pos rfl] at H;exact H
  clear H
  have H:=H1
  clear H1
  replace H:=Option.bind_eq_some_iff.mp H
  obtain ⟨QE,A40,H⟩:=H
  replace H : (if QE = true then ((plan_in.f Qc 1 32).bind fun QB=>(some QB)) else (some false)) = some r:=H
  have A4:=Aside0.mk A40
  clear A40
  by_cases c5 : QE = true
  ·subst c5
   have H1 : ((plan_in.f Qc 1 32).bind fun QB=>(some QB)) = some r:=by rw [if_pos rfl] at H;exact H
   clear H
   have H:=H1
   clear H1
   replace H:=Option.bind_eq_some_iff.mp H
   obtain ⟨QB,A60,H⟩:=H
   replace H : (some QB) = some r:=H
   have A6:=Aside0.mk A60
   clear A60
   obtain rfl:=Option.some.inj H
   go_enter Try.func37,Try.ntmps37
   go_wp2_with (first|((with_reducible refine gate_dst (N:=1) rfl ?_);refine box_event ?hg (N:=1) ?hd (cs:=#[.int .i64 Qn,.int .i64 Qo,.int .i64 Qk,.int .i64 Qi,.int .i64 Qh,.int .i64 Ql,.int .i64 Qp,.int .i64 Qm,.int .i64 Qq,.int .i64 Qj,.int .i64 Qa,.int .i64 Qe,.int .i64 Qb,.int .i64 Qd,.int .i64 Qc,.int .i64 Qf]) (t:=72) ?hr ?_;(case hd=>rfl);(case hg=>rfl);(case hr=>first|(go_simp;done)|(go_simp;rfl));intro QA hg w7 hbox hb;have n0_:=Aside0.mk (below_step (by repeat (first|(with_reducible first|exact HB.out|apply below_alloc|apply pw_below_drewN|apply below_drew1)|exact HB.out)) hb);have n1_:=Aside0.mk (hbox);have n2_:=Aside0.mk ((by rw [hg];exact (below_size (by repeat (first|(with_reducible first|exact HB.out|apply below_alloc|apply pw_below_drewN|apply below_drew1)|exact HB.out))) : w.heap.size ≤ QA));have n3_:=Aside0.mk ((by rw [hg];exact (below_size (by repeat (first|(with_reducible first|exact HB.out|apply below_alloc|apply pw_below_drewN|apply below_drew1)|exact HB.out))) : w.heap.size ≤ QA));clear HB;have HB:=n0_;have QC:=n1_;have GW143:=n2_;have GE143:=n3_;clear n0_ n1_ n2_ n3_;clear hb hbox hg;obtain ⟨hcz8_0,hcz8_1,hcz8_2,hcz8_3,hcz8_4,hcz8_5,hcz8_6,hcz8_7,hcz8_8,hcz8_9,hcz8_10,hcz8_11,hcz8_12,hcz8_13,hcz8_14,hcz8_15⟩:=bc16_ (w:=w7) (g:=QA) (.int .i64 Qn) (.int .i64 Qo) (.int .i64 Qk) (.int .i64 Qi) (.int .i64 Qh) (.int .i64 Ql) (.int .i64 Qp) (.int .i64 Qm) (.int .i64 Qq) (.int .i64 Qj) (.int .i64 Qa) (.int .i64 Qe) (.int .i64 Qb) (.int .i64 Qd) (.int .i64 Qc) (.int .i64 Qf) QC.out;obtain ⟨hfz8_0,hfz8_1,hfz8_2,hfz8_3,hfz8_4,hfz8_5,hfz8_6,hfz8_7,hfz8_8,hfz8_9,hfz8_10,hfz8_11,hfz8_12,hfz8_13,hfz8_14,hfz8_15⟩:=bf16_ QC.out)|((with_reducible refine gate_callee (f:=55) rfl ?_);refine goesL_ (some 6) rfl rfl Try.func55 (by kernel_rfl) rfl #[.int .i64 Qb,.int .i64 1,.int .i64 64] rfl (by (try simp only [List.map_toArray,List.map_cons,List.map_nil]);first|done|rfl|(simp only [List.length_drop,List.length_take];rfl)) ?_;(with_reducible refine (plan_in.calls Qb 1 64 true _ A2.out).mono ?_);rintro e w' ⟨rfl,⟨nd,rfl⟩⟩;refine ⟨_,rfl,?_⟩)|(go_at_call 55;(with_reducible refine (plan_in.calls Qd 1 8 true _ A4.out).mono ?_);rintro e w' ⟨rfl,⟨nd,rfl⟩⟩)|(go_at_call 55;(with_reducible refine (plan_in.calls Qc 1 32 QB _ A6.out).mono ?_);rintro e w' ⟨rfl,⟨nd,rfl⟩⟩))
   go_ret
   exact ⟨by first|rfl|(simp [errW_none,errW_some] <;> rfl)|(simp [*,errW_none,errW_some] <;> rfl),by repeat (first|(with_reducible first|exact HB.out|apply below_alloc|apply pw_below_drewN|apply below_drew1|refine below_set ?_ GE143.out)|exact HB.out)⟩
  ·replace c5:=Bool.eq_false_iff.mpr c5
   subst c5
   have H1 : (some false) = some r:=by rw [if_neg (show ¬ (false = true) by decide)] at H;exact H
   clear H
   have H:=H1
   clear H1
   obtain rfl:=Option.some.inj H
   go_enter Try.func37,Try.ntmps37
   go_wp2_with (first|((with_reducible refine gate_dst (N:=1) rfl ?_);refine box_event ?hg (N:=1) ?hd (cs:=#[.int .i64 Qn,.int .i64 Qo,.int .i64 Qk,.int .i64 Qi,.int .i64 Qh,.int .i64 Ql,.int .i64 Qp,.int .i64 Qm,.int .i64 Qq,.int .i64 Qj,.int .i64 Qa,.int .i64 Qe,.int .i64 Qb,.int .i64 Qd,.int .i64 Qc,.int .i64 Qf]) (t:=72) ?hr ?_;(case hd=>rfl);(case hg=>rfl);(case hr=>first|(go_simp;done)|(go_simp;rfl));intro QA hg w9 hbox hb;have n0_:=Aside0.mk (below_step (by repeat (first|(with_reducible first|exact HB.out|apply below_alloc|apply pw_below_drewN|apply below_drew1)|exact HB.out)) hb);have n1_:=Aside0.mk (hbox);have n2_:=Aside0.mk ((by rw [hg];exact (below_size (by repeat (first|(with_reducible first|exact HB.out|apply below_alloc|apply pw_below_drewN|apply below_drew1)|exact HB.out))) : w.heap.size ≤ QA));have n3_:=Aside0.mk ((by rw [hg];exact (below_size (by repeat (first|(with_reducible first|exact HB.out|apply below_alloc|apply pw_below_drewN|apply below_drew1)|exact HB.out))) : w.heap.size ≤ QA));clear HB;have HB:=n0_;have QC:=n1_;have GW143:=n2_;have GE143:=n3_;clear n0_ n1_ n2_ n3_;clear hb hbox hg;obtain ⟨hcz10_0,hcz10_1,hcz10_2,hcz10_3,hcz10_4,hcz10_5,hcz10_6,hcz10_7,hcz10_8,hcz10_9,hcz10_10,hcz10_11,hcz10_12,hcz10_13,hcz10_14,hcz10_15⟩:=bc16_ (w:=w9) (g:=QA) (.int .i64 Qn) (.int .i64 Qo) (.int .i64 Qk) (.int .i64 Qi) (.int .i64 Qh) (.int .i64 Ql) (.int .i64 Qp) (.int .i64 Qm) (.int .i64 Qq) (.int .i64 Qj) (.int .i64 Qa) (.int .i64 Qe) (.int .i64 Qb) (.int .i64 Qd) (.int .i64 Qc) (.int .i64 Qf) QC.out;obtain ⟨hfz10_0,hfz10_1,hfz10_2,hfz10_3,hfz10_4,hfz10_5,hfz10_6,hfz10_7,hfz10_8,hfz10_9,hfz10_10,hfz10_11,hfz10_12,hfz10_13,hfz10_14,hfz10_15⟩:=bf16_ QC.out)|((with_reducible refine gate_callee (f:=55) rfl ?_);refine goesL_ (some 6) rfl rfl Try.func55 (by kernel_rfl) rfl #[.int .i64 Qb,.int .i64 1,.int .i64 64] rfl (by (try simp only [List.map_toArray,List.map_cons,List.map_nil]);first|done|rfl|(simp only [List.length_drop,List.length_take];rfl)) ?_;(with_reducible refine (plan_in.calls Qb 1 64 true _ A2.out).mono ?_);rintro e w' ⟨rfl,⟨nd,rfl⟩⟩;refine ⟨_,rfl,?_⟩)|(go_at_call 55;(with_reducible refine (plan_in.calls Qd 1 8 false _ A4.out).mono ?_);rintro e w' ⟨rfl,⟨nd,rfl⟩⟩))
   go_ret
   exact ⟨by first|rfl|(simp [errW_none,errW_some] <;> rfl)|(simp [*,errW_none,errW_some] <;> rfl),by repeat (first|(with_reducible first|exact HB.out|apply below_alloc|apply pw_below_drewN|apply below_drew1|refine below_set ?_ GE143.out)|exact HB.out)⟩
 ·replace c3:=Bool.eq_false_iff.mpr c3
  subst c3
  have H1 : (some false) = some r:=by rw [if_neg (show ¬ (false = true) by decide)] at H;exact H
  clear H
  have H:=H1
  clear H1
  obtain rfl:=Option.some.inj H
  go_enter Try.func37,Try.ntmps37
  go_wp2_with (first|((with_reducible refine gate_dst (N:=1) rfl ?_);refine box_event ?hg (N:=1) ?hd (cs:=#[.int .i64 Qn,.int .i64 Qo,.int .i64 Qk,.int .i64 Qi,.int .i64 Qh,.int .i64 Ql,.int .i64 Qp,.int .i64 Qm,.int .i64 Qq,.int .i64 Qj,.int .i64 Qa,.int .i64 Qe,.int .i64 Qb,.int .i64 Qd,.int .i64 Qc,.int .i64 Qf]) (t:=72) ?hr ?_;(case hd=>rfl);(case hg=>rfl);(case hr=>first|(go_simp;done)|(go_simp;rfl));intro QA hg w11 hbox hb;have n0_:=Aside0.mk (below_step (by repeat (first|(with_reducible first|exact HB.out|apply below_alloc|apply pw_below_drewN|apply below_drew1)|exact HB.out)) hb);have n1_:=Aside0.mk (hbox);have n2_:=Aside0.mk ((by rw [hg];exact (below_size (by repeat (first|(with_reducible first|exact HB.out|apply below_alloc|apply pw_below_drewN|apply below_drew1)|exact HB.out))) : w.heap.size ≤ QA));have n3_:=Aside0.mk ((by rw [hg];exact (below_size (by repeat (first|(with_reducible first|exact HB.out|apply below_alloc|apply pw_below_drewN|apply below_drew1)|exact HB.out))) : w.heap.size ≤ QA));clear HB;have HB:=n0_;have QC:=n1_;have GW143:=n2_;have GE143:=n3_;clear n0_ n1_ n2_ n3_;clear hb hbox hg;obtain ⟨hcz12_0,hcz12_1,hcz12_2,hcz12_3,hcz12_4,hcz12_5,hcz12_6,hcz12_7,hcz12_8,hcz12_9,hcz12_10,hcz12_11,hcz12_12,hcz12_13,hcz12_14,hcz12_15⟩:=bc16_ (w:=w11) (g:=QA) (.int .i64 Qn) (.int .i64 Qo) (.int .i64 Qk) (.int .i64 Qi) (.int .i64 Qh) (.int .i64 Ql) (.int .i64 Qp) (.int .i64 Qm) (.int .i64 Qq) (.int .i64 Qj) (.int .i64 Qa) (.int .i64 Qe) (.int .i64 Qb) (.int .i64 Qd) (.int .i64 Qc) (.int .i64 Qf) QC.out;obtain ⟨hfz12_0,hfz12_1,hfz12_2,hfz12_3,hfz12_4,hfz12_5,hfz12_6,hfz12_7,hfz12_8,hfz12_9,hfz12_10,hfz12_11,hfz12_12,hfz12_13,hfz12_14,hfz12_15⟩:=bf16_ QC.out)|((with_reducible refine gate_callee (f:=55) rfl ?_);refine goesL_ (some 6) rfl rfl Try.func55 (by kernel_rfl) rfl #[.int .i64 Qb,.int .i64 1,.int .i64 64] rfl (by (try simp only [List.map_toArray,List.map_cons,List.map_nil]);first|done|rfl|(simp only [List.length_drop,List.length_take];rfl)) ?_;(with_reducible refine (plan_in.calls Qb 1 64 false _ A2.out).mono ?_);rintro e w' ⟨rfl,⟨nd,rfl⟩⟩;refine ⟨_,rfl,?_⟩))
  go_ret
  exact ⟨by first|rfl|(simp [errW_none,errW_some] <;> rfl)|(simp [*,errW_none,errW_some] <;> rfl),by repeat (first|(with_reducible first|exact HB.out|apply below_alloc|apply pw_below_drewN|apply below_drew1|refine below_set ?_ GE143.out)|exact HB.out)⟩

end Go.Proofs.Ytnmephdamgofnaa.PA
