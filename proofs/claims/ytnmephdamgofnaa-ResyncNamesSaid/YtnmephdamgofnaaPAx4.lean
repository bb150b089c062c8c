/- Written by a program of this session (wip/jprint.py, over the printer of the kit): functions that a law comes to, as plain Lean functions, and walks; Lean checks it. -/
import Derived.Test.YtnmephdamgofnaaPAx0
import Derived.Test.YtnmephdamgofnaaPAx2
import Derived.Test.YtnmephdamgofnaaPAx3
namespace Go.Proofs.Ytnmephdamgofnaa.PA
open Go.RowKit Go.Proofs.YtnmephdamgofnaaW.PrintWords Go.Proofs.YtnmephdamgofnaaW.PrintLast Go.Proofs.YtnmephdamgofnaaW.PrintMore
attribute [local go_sem] max2_int min2_int max_two min_two max_three min_three max_four min_four   -- for this text's walks alone
set_option linter.unusedVariables false
set_option linter.unusedSimpArgs false

/-! ### plan_look_leastDelta: function 60 -/
def plan_look_leastDelta.f (Qk : Int) (Ql : Int) (Qm : Int) (Qn : Int) (Qo : Int) (Qp : Int) (Qq : Int) (Qr : Int) (Qs : Int) (Qj : Int) (Qh : Int) (Qd : Int) (Qf : Int) (Qc : Int) (Qi : Int) (Qe : Int) : Option (Int):=if Qc = 0 then (none) else ((plan_look_round.f Qk Ql Qm Qn Qo Qp Qq Qr Qs Qj Qh Qd Qf Qc Qi Qe).bind fun t148=>(some (wrap64 ((wrap64 ((wrap64 ((wrap64 (Int.tdiv (wrap64 ((wrap64 (Qf + Qc)) - 1)) Qc)) + 3)) * t148)) + (wrap64 (2 * Qj))))))
def plan_look_leastDelta.T1 : Bool × List (List Nat × List Nat):=(true,[([],[]),([0],[0]),([1],[1]),([],[]),([3],[3]),([4],[4]),([2,5],[2,5]),([6],[6]),([],[]),([8],[8]),([9],[9]),([7,10],[7,10]),([11],[11]),([],[]),([13],[13]),([12,14],[12,14]),([],[]),([16],[16]),([17],[17]),([18],[18]),([15,19],[15,19]),([20,14,0,1,2,3,4,5,6,7,8,9,10,11,12,13,14,15,16,17,18,19,20],[20])])
def plan_look_leastDelta.B1 : List Nat:=[0,1,3,0,8,24,63,127,0,256,768,2047,4095,0,8192,32767,0,65536,196608,458752,1048575,2097151]
theorem plan_look_leastDelta.tab1 : rtab .any (opsOf Try.f60 1) = plan_look_leastDelta.T1:=by kernel_rfl
theorem plan_look_leastDelta.bits1 : waitsOk plan_look_leastDelta.T1.2 plan_look_leastDelta.B1 = true:=by kernel_rfl
set_option maxHeartbeats 8000000 in
set_option maxRecDepth 100000 in
theorem plan_look_leastDelta.calls (Qk : Int) (Ql : Int) (Qm : Int) (Qn : Int) (Qo : Int) (Qp : Int) (Qq : Int) (Qr : Int) (Qs : Int) (Qj : Int) (Qh : Int) (Qd : Int) (Qf : Int) (Qc : Int) (Qi : Int) (Qe : Int) (r : Int) (w : World) (h : plan_look_leastDelta.f Qk Ql Qm Qn Qo Qp Qq Qr Qs Qj Qh Qd Qf Qc Qi Qe = some r) :
  Calls Try.prog 60 #[.agg #[.int .i64 Qk,.int .i64 Ql,.int .i64 Qm,.int .i64 Qn,.int .i64 Qo,.int .i64 Qp,.int .i64 Qq,.int .i64 Qr,.int .i64 Qs,.int .i64 Qj,.int .i64 Qh,.int .i64 Qd,.int .i64 Qf,.int .i64 Qc,.int .i64 Qi,.int .i64 Qe]] w fun e w'=>e = .returned (.int .i64 r)∧Below w.heap.size w w':=by
 have hu72:=Try.underlying72
 have HB:=Aside0.mk (Below.refl w.heap.size w)
 have H : (if Qc = 0 then (none) else ((plan_look_round.f Qk Ql Qm Qn Qo Qp Qq Qr Qs Qj Qh Qd Qf Qc Qi Qe).bind fun t148=>(some (wrap64 ((wrap64 ((wrap64 ((wrap64 (Int.tdiv (wrap64 ((wrap64 (Qf + Qc)) - 1)) Qc)) + 3)) * t148)) + (wrap64 (2 * Qj))))))) = some r:=h
 clear h
 by_cases c2 : Qc = 0
 ·rw [if_pos c2] at H
  exact absurd H (by simp)
 ·rw [if_neg c2] at H
  have c2b0 : (Qc == 0) = false:=beq_eq_false_iff_ne.mpr c2
  have c2b1 : (Qc != 0) = true:=bne_iff_ne.mpr c2
  replace H:=Option.bind_eq_some_iff.mp H
  obtain ⟨t148,A30,H⟩:=H
  replace H : (some (wrap64 ((wrap64 ((wrap64 ((wrap64 (Int.tdiv (wrap64 ((wrap64 (Qf + Qc)) - 1)) Qc)) + 3)) * t148)) + (wrap64 (2 * Qj))))) = some r:=H
  have A3:=Aside0.mk A30
  clear A30
  obtain rfl:=Option.some.inj H
  go_enter Try.func60,Try.ntmps60
  try go_wp2_with (first|((with_reducible refine gate_dst (N:=1) rfl ?_);refine box_event ?hg (N:=1) ?hd (cs:=#[.int .i64 Qk,.int .i64 Ql,.int .i64 Qm,.int .i64 Qn,.int .i64 Qo,.int .i64 Qp,.int .i64 Qq,.int .i64 Qr,.int .i64 Qs,.int .i64 Qj,.int .i64 Qh,.int .i64 Qd,.int .i64 Qf,.int .i64 Qc,.int .i64 Qi,.int .i64 Qe]) (t:=72) ?hr ?_;(case hd=>rfl);(case hg=>rfl);(case hr=>first|(go_simp;done)|(go_simp;rfl));intro Qu hg w4 hbox hb;have n0_:=Aside0.mk (below_step (by repeat (first|(with_reducible first|exact HB.out|apply below_alloc|apply pw_below_drewN|apply below_drew1)|exact HB.out)) hb);have n1_:=Aside0.mk (hbox);have n2_:=Aside0.mk ((by rw [hg];exact (below_size (by repeat (first|(with_reducible first|exact HB.out|apply below_alloc|apply pw_below_drewN|apply below_drew1)|exact HB.out))) : w.heap.size ≤ Qu));have n3_:=Aside0.mk ((by rw [hg];exact (below_size (by repeat (first|(with_reducible first|exact HB.out|apply below_alloc|apply pw_below_drewN|apply below_drew1)|exact HB.out))) : w.heap.size ≤ Qu));clear HB;have HB:=n0_;have Qg:=n1_;have GW147:=n2_;have GE147:=n3_;clear n0_ n1_ n2_ n3_;clear hb hbox hg))
  have n0_:=Aside0.mk (blk_drew Qg.out)
  have n1_:=Aside0.mk (below_drew1 HB.out)
  clear Qg
  clear HB
  have Qg:=n0_
  have HB:=n1_
  clear n0_ n1_
  refine start_ (n:=22) (S:=fun w'=>w'.cell? ⟨Qu,0,none⟩ = some (.int .i64 Qk)∧w'.cell? ⟨Qu,1,none⟩ = some (.int .i64 Ql)∧w'.cell? ⟨Qu,2,none⟩ = some (.int .i64 Qm)∧w'.cell? ⟨Qu,3,none⟩ = some (.int .i64 Qn)∧w'.cell? ⟨Qu,4,none⟩ = some (.int .i64 Qo)∧w'.cell? ⟨Qu,5,none⟩ = some (.int .i64 Qp)∧w'.cell? ⟨Qu,6,none⟩ = some (.int .i64 Qq)∧w'.cell? ⟨Qu,7,none⟩ = some (.int .i64 Qr)∧w'.cell? ⟨Qu,8,none⟩ = some (.int .i64 Qs)∧w'.cell? ⟨Qu,9,none⟩ = some (.int .i64 Qj)∧w'.cell? ⟨Qu,10,none⟩ = some (.int .i64 Qh)∧w'.cell? ⟨Qu,11,none⟩ = some (.int .i64 Qd)∧w'.cell? ⟨Qu,12,none⟩ = some (.int .i64 Qf)∧w'.cell? ⟨Qu,13,none⟩ = some (.int .i64 Qc)∧w'.cell? ⟨Qu,14,none⟩ = some (.int .i64 Qi)∧w'.cell? ⟨Qu,15,none⟩ = some (.int .i64 Qe)) (ds:=[]) #[false,false,false,false,false,false,false,false,false,false,false,false,false,false,false,false,false,false,false,false,false,false] (by kernel_rfl) rfl rfl ⟨(blk_cell Qg.out 0).trans rfl,(blk_cell Qg.out 1).trans rfl,(blk_cell Qg.out 2).trans rfl,(blk_cell Qg.out 3).trans rfl,(blk_cell Qg.out 4).trans rfl,(blk_cell Qg.out 5).trans rfl,(blk_cell Qg.out 6).trans rfl,(blk_cell Qg.out 7).trans rfl,(blk_cell Qg.out 8).trans rfl,(blk_cell Qg.out 9).trans rfl,(blk_cell Qg.out 10).trans rfl,(blk_cell Qg.out 11).trans rfl,(blk_cell Qg.out 12).trans rfl,(blk_cell Qg.out 13).trans rfl,(blk_cell Qg.out 14).trans rfl,(blk_cell Qg.out 15).trans rfl⟩ (fun hHeld=>?_);refine with_tabW plan_look_leastDelta.tab1 plan_look_leastDelta.bits1 (fun HT_ HW_=>?_)
  generalize w4.drew = w5 at Qg HB hHeld ⊢
  refine pure_ (i:=0) (N:=some 3) (v:=?_) (a':=?_) #[true,false,false,false,false,false,false,false,false,false,false,false,false,false,false,false,false,false,false,false,false,false] rfl rfl (any_of HT_.out (by kernel_rfl)) (fun _ _ _ h=>h) (Or.inl ⟨by rfl,?_⟩) ?_ ?_
  rotate_left
  ·intro w'
   go_simp
   with_reducible rfl
  rotate_left
  ·simp only [Act.put,List.setIfInBounds_toArray,List.set_cons_zero,List.set_cons_succ,i64_w,i32_w]
   rfl
  refine pure_ (i:=1) (N:=some 4) (v:=?_) (a':=?_) #[true,true,false,false,false,false,false,false,false,false,false,false,false,false,false,false,false,false,false,false,false,false] rfl rfl (any_of HT_.out (by kernel_rfl)) (fun _ _ _ h=>h) (Or.inl ⟨by rfl,?_⟩) ?_ ?_
  rotate_left
  ·intro w'
   go_simp
   with_reducible rfl
  rotate_left
  ·simp only [Act.put,List.setIfInBounds_toArray,List.set_cons_zero,List.set_cons_succ,i64_w,i32_w]
   rfl
  refine pure_ (i:=3) (N:=some 6) (v:=?_) (a':=?_) #[true,true,false,true,false,false,false,false,false,false,false,false,false,false,false,false,false,false,false,false,false,false] rfl rfl (any_of HT_.out (by kernel_rfl)) (fun _ _ _ h=>h) (Or.inl ⟨by rfl,?_⟩) ?_ ?_
  rotate_left
  ·intro w'
   go_simp
   with_reducible rfl
  rotate_left
  ·simp only [Act.put,List.setIfInBounds_toArray,List.set_cons_zero,List.set_cons_succ,i64_w,i32_w]
   rfl
  refine pure_ (i:=4) (N:=some 7) (v:=?_) (a':=?_) #[true,true,false,true,true,false,false,false,false,false,false,false,false,false,false,false,false,false,false,false,false,false] rfl rfl (any_of HT_.out (by kernel_rfl)) (fun _ _ _ h=>h) (Or.inl ⟨by rfl,?_⟩) ?_ ?_
  rotate_left
  ·intro w'
   go_simp
   with_reducible rfl
  rotate_left
  ·simp only [Act.put,List.setIfInBounds_toArray,List.set_cons_zero,List.set_cons_succ,i64_w,i32_w]
   rfl
  refine pure_ (i:=8) (N:=some 11) (v:=?_) (a':=?_) #[true,true,false,true,true,false,false,false,true,false,false,false,false,false,false,false,false,false,false,false,false,false] rfl rfl (any_of HT_.out (by kernel_rfl)) (fun _ _ _ h=>h) (Or.inl ⟨by rfl,?_⟩) ?_ ?_
  rotate_left
  ·intro w'
   go_simp
   with_reducible rfl
  rotate_left
  ·simp only [Act.put,List.setIfInBounds_toArray,List.set_cons_zero,List.set_cons_succ,i64_w,i32_w]
   rfl
  refine pure_ (i:=9) (N:=some 12) (v:=?_) (a':=?_) #[true,true,false,true,true,false,false,false,true,true,false,false,false,false,false,false,false,false,false,false,false,false] rfl rfl (any_of HT_.out (by kernel_rfl)) (fun _ _ _ h=>h) (Or.inl ⟨by rfl,?_⟩) ?_ ?_
  rotate_left
  ·intro w'
   go_simp
   with_reducible rfl
  rotate_left
  ·simp only [Act.put,List.setIfInBounds_toArray,List.set_cons_zero,List.set_cons_succ,i64_w,i32_w]
   rfl
  refine pure_ (i:=16) (N:=some 19) (v:=?_) (a':=?_) #[true,true,false,true,true,false,false,false,true,true,false,false,false,false,false,false,true,false,false,false,false,false] rfl rfl (any_of HT_.out (by kernel_rfl)) (fun _ _ _ h=>h) (Or.inl ⟨by rfl,?_⟩) ?_ ?_
  rotate_left
  ·intro w'
   go_simp
   with_reducible rfl
  rotate_left
  ·simp only [Act.put,List.setIfInBounds_toArray,List.set_cons_zero,List.set_cons_succ,i64_w,i32_w]
   rfl
  refine pure_ (i:=17) (N:=some 20) (v:=?_) (a':=?_) #[true,true,false,true,true,false,false,false,true,true,false,false,false,false,false,false,true,true,false,false,false,false] rfl rfl (any_of HT_.out (by kernel_rfl)) (fun _ _ _ h=>h) (Or.inl ⟨by rfl,?_⟩) ?_ ?_
  rotate_left
  ·intro w'
   go_simp
   with_reducible rfl
  rotate_left
  ·simp only [Act.put,List.setIfInBounds_toArray,List.set_cons_zero,List.set_cons_succ,i64_w,i32_w]
   rfl
  refine take_ (i:=2) (N:=some 5) (v:=?_) (a':=?_) #[true,true,true,true,true,false,false,false,true,true,false,false,false,false,false,false,true,true,false,false,false,false] rfl rfl (take_ofW HT_.out HW_.out (by kernel_rfl)) (fun _ _ _ h=>h) (Or.inl ⟨by rfl,?_⟩) hHeld ?_ ?_
  rotate_left
  ·rintro w' ⟨s0,s1,s2,s3,s4,s5,s6,s7,s8,s9,s10,s11,s12,s13,s14,s15⟩
   go_simp
   with_reducible rfl
  rotate_left
  ·simp only [Act.put,List.setIfInBounds_toArray,List.set_cons_zero,List.set_cons_succ,i64_w,i32_w]
   rfl
  refine take_ (i:=5) (N:=some 8) (v:=?_) (a':=?_) #[true,true,true,true,true,true,false,false,true,true,false,false,false,false,false,false,true,true,false,false,false,false] rfl rfl (take_ofW HT_.out HW_.out (by kernel_rfl)) (fun _ _ _ h=>h) (Or.inl ⟨by rfl,?_⟩) hHeld ?_ ?_
  rotate_left
  ·rintro w' ⟨s0,s1,s2,s3,s4,s5,s6,s7,s8,s9,s10,s11,s12,s13,s14,s15⟩
   go_simp
   with_reducible rfl
  rotate_left
  ·simp only [Act.put,List.setIfInBounds_toArray,List.set_cons_zero,List.set_cons_succ,i64_w,i32_w]
   rfl
  refine pure_ (i:=6) (N:=some 9) (v:=?_) (a':=?_) #[true,true,true,true,true,true,true,false,true,true,false,false,false,false,false,false,true,true,false,false,false,false] rfl rfl (any_of HT_.out (by kernel_rfl)) (fun _ _ _ h=>h) (Or.inl ⟨by rfl,?_⟩) ?_ ?_
  rotate_left
  ·intro w'
   go_simp
   with_reducible rfl
  rotate_left
  ·simp only [Act.put,List.setIfInBounds_toArray,List.set_cons_zero,List.set_cons_succ,i64_w,i32_w]
   rfl
  refine pure_ (i:=7) (N:=some 10) (v:=?_) (a':=?_) #[true,true,true,true,true,true,true,true,true,true,false,false,false,false,false,false,true,true,false,false,false,false] rfl rfl (any_of HT_.out (by kernel_rfl)) (fun _ _ _ h=>h) (Or.inl ⟨by rfl,?_⟩) ?_ ?_
  rotate_left
  ·intro w'
   go_simp
   with_reducible rfl
  rotate_left
  ·simp only [Act.put,List.setIfInBounds_toArray,List.set_cons_zero,List.set_cons_succ,i64_w,i32_w]
   rfl
  refine take_ (i:=10) (N:=some 13) (v:=?_) (a':=?_) #[true,true,true,true,true,true,true,true,true,true,true,false,false,false,false,false,true,true,false,false,false,false] rfl rfl (take_ofW HT_.out HW_.out (by kernel_rfl)) (fun _ _ _ h=>h) (Or.inl ⟨by rfl,?_⟩) hHeld ?_ ?_
  rotate_left
  ·rintro w' ⟨s0,s1,s2,s3,s4,s5,s6,s7,s8,s9,s10,s11,s12,s13,s14,s15⟩
   go_simp
   with_reducible rfl
  rotate_left
  ·simp only [Act.put,List.setIfInBounds_toArray,List.set_cons_zero,List.set_cons_succ,i64_w,i32_w]
   rfl
  refine pure_ (i:=11) (N:=some 14) (v:=?_) (a':=?_) #[true,true,true,true,true,true,true,true,true,true,true,true,false,false,false,false,true,true,false,false,false,false] rfl rfl (any_of HT_.out (by kernel_rfl)) (fun _ _ _ h=>h) (Or.inl ⟨by rfl,?_⟩) ?_ ?_
  rotate_left
  ·intro w'
   go_simp
   with_reducible rfl
  rotate_left
  ·simp only [Act.put,List.setIfInBounds_toArray,List.set_cons_zero,List.set_cons_succ,i64_w,i32_w]
   rfl
  refine pure_ (i:=12) (N:=some 15) (v:=?_) (a':=?_) #[true,true,true,true,true,true,true,true,true,true,true,true,true,false,false,false,true,true,false,false,false,false] rfl rfl (any_of HT_.out (by kernel_rfl)) (fun _ _ _ h=>h) (Or.inl ⟨by rfl,?_⟩) ?_ ?_
  rotate_left
  ·intro w'
   go_simp
   with_reducible rfl
  rotate_left
  ·simp only [Act.put,List.setIfInBounds_toArray,List.set_cons_zero,List.set_cons_succ,i64_w,i32_w]
   rfl
  refine take_ (i:=13) (N:=some 16) (v:=?_) (a':=?_) #[true,true,true,true,true,true,true,true,true,true,true,true,true,true,false,false,true,true,false,false,false,false] rfl rfl (take_ofW HT_.out HW_.out (by kernel_rfl)) (fun _ _ _ h=>h) (Or.inl ⟨by rfl,?_⟩) hHeld ?_ ?_
  rotate_left
  ·rintro w' ⟨s0,s1,s2,s3,s4,s5,s6,s7,s8,s9,s10,s11,s12,s13,s14,s15⟩
   go_simp
   with_reducible rfl
  rotate_left
  ·simp only [Act.put,List.setIfInBounds_toArray,List.set_cons_zero,List.set_cons_succ,i64_w,i32_w]
   rfl
  refine take_ (i:=18) (N:=some 21) (v:=?_) (a':=?_) #[true,true,true,true,true,true,true,true,true,true,true,true,true,true,false,false,true,true,true,false,false,false] rfl rfl (take_ofW HT_.out HW_.out (by kernel_rfl)) (fun _ _ _ h=>h) (Or.inl ⟨by rfl,?_⟩) hHeld ?_ ?_
  rotate_left
  ·rintro w' ⟨s0,s1,s2,s3,s4,s5,s6,s7,s8,s9,s10,s11,s12,s13,s14,s15⟩
   go_simp
   with_reducible rfl
  rotate_left
  ·simp only [Act.put,List.setIfInBounds_toArray,List.set_cons_zero,List.set_cons_succ,i64_w,i32_w]
   rfl
  refine pure_ (i:=19) (N:=some 22) (v:=?_) (a':=?_) #[true,true,true,true,true,true,true,true,true,true,true,true,true,true,false,false,true,true,true,true,false,false] rfl rfl (any_of HT_.out (by kernel_rfl)) (fun _ _ _ h=>h) (Or.inl ⟨by rfl,?_⟩) ?_ ?_
  rotate_left
  ·intro w'
   go_simp
   with_reducible rfl
  rotate_left
  ·simp only [Act.put,List.setIfInBounds_toArray,List.set_cons_zero,List.set_cons_succ,i64_w,i32_w]
   rfl
  refine one_ (i:=14) (N:=some 17) #[true,true,true,true,true,true,true,true,true,true,true,true,true,true,true,false,true,true,true,true,false,false] rfl rfl (one_of HT_.out (by kernel_rfl)) (by decide) (fun K hK=>?_)
  refine goes_ Try.func61 (by kernel_rfl) rfl #[.agg #[.int .i64 Qk,.int .i64 Ql,.int .i64 Qm,.int .i64 Qn,.int .i64 Qo,.int .i64 Qp,.int .i64 Qq,.int .i64 Qr,.int .i64 Qs,.int .i64 Qj,.int .i64 Qh,.int .i64 Qd,.int .i64 Qf,.int .i64 Qc,.int .i64 Qi,.int .i64 Qe]] (by rfl) rfl rfl (by (try simp only [List.map_toArray,List.map_cons,List.map_nil]);first|done|rfl|(simp only [List.length_drop,List.length_take];rfl)) ?_
  with_reducible refine (plan_look_round.calls Qk Ql Qm Qn Qo Qp Qq Qr Qs Qj Qh Qd Qf Qc Qi Qe t148 _ A3.out).mono ?_
  rintro e w6 ⟨rfl,hb⟩
  refine ⟨_,rfl,?_⟩
  have n0_:=Aside0.mk (blk_below (g:=Qu) (o:=.cells #[.int .i64 Qk,.int .i64 Ql,.int .i64 Qm,.int .i64 Qn,.int .i64 Qo,.int .i64 Qp,.int .i64 Qq,.int .i64 Qr,.int .i64 Qs,.int .i64 Qj,.int .i64 Qh,.int .i64 Qd,.int .i64 Qf,.int .i64 Qc,.int .i64 Qi,.int .i64 Qe] 72 (0,0)) (by (with_reducible repeat (first|refine blk_drewN ?_ _|refine blk_drew ?_|refine blk_alloc ?_ _));exact Qg.out) hb)
  have n1_:=Aside0.mk (below_step (by repeat (first|(with_reducible first|exact HB.out|apply below_alloc|apply pw_below_drewN|apply below_drew1|refine below_set ?_ GE147.out)|exact HB.out)) hb)
  clear Qg
  clear HB
  have Qg:=n0_
  have HB:=n1_
  clear n0_ n1_
  (try clear hb)
  (try clear hb2)
  (try clear hk)
  (try clear hi)
  refine hK.out _ _ ⟨(blk_cell Qg.out 0).trans rfl,(blk_cell Qg.out 1).trans rfl,(blk_cell Qg.out 2).trans rfl,(blk_cell Qg.out 3).trans rfl,(blk_cell Qg.out 4).trans rfl,(blk_cell Qg.out 5).trans rfl,(blk_cell Qg.out 6).trans rfl,(blk_cell Qg.out 7).trans rfl,(blk_cell Qg.out 8).trans rfl,(blk_cell Qg.out 9).trans rfl,(blk_cell Qg.out 10).trans rfl,(blk_cell Qg.out 11).trans rfl,(blk_cell Qg.out 12).trans rfl,(blk_cell Qg.out 13).trans rfl,(blk_cell Qg.out 14).trans rfl,(blk_cell Qg.out 15).trans rfl⟩ (fun hHeld=>?_)
  clear hK K
  refine norm_ (a':=?_) ?_ ?_
  rotate_left
  ·show Act.put _ (some 17) _ = _
   simp only [Act.put,List.setIfInBounds_toArray,List.set_cons_zero,List.set_cons_succ,i64_w,i32_w]
   rfl
  refine pure_ (i:=15) (N:=some 18) (v:=?_) (a':=?_) #[true,true,true,true,true,true,true,true,true,true,true,true,true,true,true,true,true,true,true,true,false,false] rfl rfl (any_of HT_.out (by kernel_rfl)) (fun _ _ _ h=>h) (Or.inl ⟨by rfl,?_⟩) ?_ ?_
  rotate_left
  ·intro w'
   go_simp
   with_reducible rfl
  rotate_left
  ·simp only [Act.put,List.setIfInBounds_toArray,List.set_cons_zero,List.set_cons_succ,i64_w,i32_w]
   rfl
  refine pure_ (i:=20) (N:=some 23) (v:=?_) (a':=?_) #[true,true,true,true,true,true,true,true,true,true,true,true,true,true,true,true,true,true,true,true,true,false] rfl rfl (any_of HT_.out (by kernel_rfl)) (fun _ _ _ h=>h) (Or.inl ⟨by rfl,?_⟩) ?_ ?_
  rotate_left
  ·intro w'
   go_simp
   with_reducible rfl
  rotate_left
  ·simp only [Act.put,List.setIfInBounds_toArray,List.set_cons_zero,List.set_cons_succ,i64_w,i32_w]
   rfl
  refine pure_ (i:=21) (N:=some 2) (v:=?_) (a':=?_) #[true,true,true,true,true,true,true,true,true,true,true,true,true,true,true,true,true,true,true,true,true,true] rfl rfl (any_of HT_.out (by kernel_rfl)) (fun _ _ _ h=>h) (Or.inl ⟨by rfl,?_⟩) ?_ ?_
  rotate_left
  ·intro w'
   go_simp
   with_reducible rfl
  rotate_left
  ·simp only [Act.put,List.setIfInBounds_toArray,List.set_cons_zero,List.set_cons_succ,i64_w,i32_w]
   rfl
  refine done_ (done_of HT_.out (by kernel_rfl)) ?_
  try go_wp2
  go_ret
  exact ⟨by first|rfl|(simp [errW_none,errW_some] <;> rfl)|(simp [*,errW_none,errW_some] <;> rfl),by repeat (first|(with_reducible first|exact HB.out|apply below_alloc|apply pw_below_drewN|apply below_drew1|refine below_set ?_ GE147.out)|exact HB.out)⟩

/-! ### plan_look_delta: function 53 -/
def plan_look_delta.f (Qk : Int) (Ql : Int) (Qm : Int) (Qn : Int) (Qo : Int) (Qp : Int) (Qq : Int) (Qr : Int) (Qs : Int) (Qj : Int) (Qh : Int) (Qd : Int) (Qf : Int) (Qc : Int) (Qi : Int) (Qe : Int) : Option (Bool):=(plan_look_leastDelta.f Qk Ql Qm Qn Qo Qp Qq Qr Qs Qj Qh Qd Qf Qc Qi Qe).bind fun Qy=>((plan_look_round.f Qk Ql Qm Qn Qo Qp Qq Qr Qs Qj Qh Qd Qf Qc Qi Qe).bind fun Qw=>((plan_in.f Qd Qy (wrap64 (64 * Qw))).bind fun Qx=>(some Qx)))
def plan_look_delta.T1 : Bool × List (List Nat × List Nat):=(true,[([],[]),([0],[0]),([1],[1]),([],[]),([3],[3]),([],[]),([5,4],[5]),([6],[6]),([2,4,7,6],[2,4,7]),([8,8,0,1,2,3,4,5,6,7,8],[8])])
def plan_look_delta.B1 : List Nat:=[0,1,3,0,8,0,56,120,255,511]
theorem plan_look_delta.tab1 : rtab .any (opsOf Try.f53 1) = plan_look_delta.T1:=by kernel_rfl
theorem plan_look_delta.bits1 : waitsOk plan_look_delta.T1.2 plan_look_delta.B1 = true:=by kernel_rfl
set_option maxHeartbeats 8000000 in
set_option maxRecDepth 100000 in
theorem plan_look_delta.calls (Qk : Int) (Ql : Int) (Qm : Int) (Qn : Int) (Qo : Int) (Qp : Int) (Qq : Int) (Qr : Int) (Qs : Int) (Qj : Int) (Qh : Int) (Qd : Int) (Qf : Int) (Qc : Int) (Qi : Int) (Qe : Int) (r : Bool) (w : World) (h : plan_look_delta.f Qk Ql Qm Qn Qo Qp Qq Qr Qs Qj Qh Qd Qf Qc Qi Qe = some r) :
  Calls Try.prog 53 #[.agg #[.int .i64 Qk,.int .i64 Ql,.int .i64 Qm,.int .i64 Qn,.int .i64 Qo,.int .i64 Qp,.int .i64 Qq,.int .i64 Qr,.int .i64 Qs,.int .i64 Qj,.int .i64 Qh,.int .i64 Qd,.int .i64 Qf,.int .i64 Qc,.int .i64 Qi,.int .i64 Qe]] w fun e w'=>e = .returned (.bool r)∧Below w.heap.size w w':=by
 have hu72:=Try.underlying72
 have HB:=Aside0.mk (Below.refl w.heap.size w)
 have H : ((plan_look_leastDelta.f Qk Ql Qm Qn Qo Qp Qq Qr Qs Qj Qh Qd Qf Qc Qi Qe).bind fun Qy=>((plan_look_round.f Qk Ql Qm Qn Qo Qp Qq Qr Qs Qj Qh Qd Qf Qc Qi Qe).bind fun Qw=>((plan_in.f Qd Qy (wrap64 (64 * Qw))).bind fun Qx=>(some Qx)))) = some r:=h
 clear h
 replace H:=Option.bind_eq_some_iff.mp H
 obtain ⟨Qy,A20,H⟩:=H
 replace H : ((plan_look_round.f Qk Ql Qm Qn Qo Qp Qq Qr Qs Qj Qh Qd Qf Qc Qi Qe).bind fun Qw=>((plan_in.f Qd Qy (wrap64 (64 * Qw))).bind fun Qx=>(some Qx))) = some r:=H
 have A2:=Aside0.mk A20
 clear A20
 replace H:=Option.bind_eq_some_iff.mp H
 obtain ⟨Qw,A30,H⟩:=H
 replace H : ((plan_in.f Qd Qy (wrap64 (64 * Qw))).bind fun Qx=>(some Qx)) = some r:=H
 have A3:=Aside0.mk A30
 clear A30
 replace H:=Option.bind_eq_some_iff.mp H
 obtain ⟨Qx,A40,H⟩:=H
 replace H : (some Qx) = some r:=H
 have A4:=Aside0.mk A40
 clear A40
 obtain rfl:=Option.some.inj H
 go_enter Try.func53,Try.ntmps53
 try go_wp2_with (first|((with_reducible refine gate_dst (N:=1) rfl ?_);refine box_event ?hg (N:=1) ?hd (cs:=#[.int .i64 Qk,.int .i64 Ql,.int .i64 Qm,.int .i64 Qn,.int .i64 Qo,.int .i64 Qp,.int .i64 Qq,.int .i64 Qr,.int .i64 Qs,.int .i64 Qj,.int .i64 Qh,.int .i64 Qd,.int .i64 Qf,.int .i64 Qc,.int .i64 Qi,.int .i64 Qe]) (t:=72) ?hr ?_;(case hd=>rfl);(case hg=>rfl);(case hr=>first|(go_simp;done)|(go_simp;rfl));intro Qt hg w5 hbox hb;have n0_:=Aside0.mk (below_step (by repeat (first|(with_reducible first|exact HB.out|apply below_alloc|apply pw_below_drewN|apply below_drew1)|exact HB.out)) hb);have n1_:=Aside0.mk (hbox);have n2_:=Aside0.mk ((by rw [hg];exact (below_size (by repeat (first|(with_reducible first|exact HB.out|apply below_alloc|apply pw_below_drewN|apply below_drew1)|exact HB.out))) : w.heap.size ≤ Qt));have n3_:=Aside0.mk ((by rw [hg];exact (below_size (by repeat (first|(with_reducible first|exact HB.out|apply below_alloc|apply pw_below_drewN|apply below_drew1)|exact HB.out))) : w.heap.size ≤ Qt));clear HB;have HB:=n0_;have Qa:=n1_;have GW149:=n2_;have GE149:=n3_;clear n0_ n1_ n2_ n3_;clear hb hbox hg))
 have n0_:=Aside0.mk (blk_drew Qa.out)
 have n1_:=Aside0.mk (below_drew1 HB.out)
 clear Qa
 clear HB
 have Qa:=n0_
 have HB:=n1_
 clear n0_ n1_
 refine start_ (n:=10) (S:=fun w'=>w'.cell? ⟨Qt,0,none⟩ = some (.int .i64 Qk)∧w'.cell? ⟨Qt,1,none⟩ = some (.int .i64 Ql)∧w'.cell? ⟨Qt,2,none⟩ = some (.int .i64 Qm)∧w'.cell? ⟨Qt,3,none⟩ = some (.int .i64 Qn)∧w'.cell? ⟨Qt,4,none⟩ = some (.int .i64 Qo)∧w'.cell? ⟨Qt,5,none⟩ = some (.int .i64 Qp)∧w'.cell? ⟨Qt,6,none⟩ = some (.int .i64 Qq)∧w'.cell? ⟨Qt,7,none⟩ = some (.int .i64 Qr)∧w'.cell? ⟨Qt,8,none⟩ = some (.int .i64 Qs)∧w'.cell? ⟨Qt,9,none⟩ = some (.int .i64 Qj)∧w'.cell? ⟨Qt,10,none⟩ = some (.int .i64 Qh)∧w'.cell? ⟨Qt,11,none⟩ = some (.int .i64 Qd)∧w'.cell? ⟨Qt,12,none⟩ = some (.int .i64 Qf)∧w'.cell? ⟨Qt,13,none⟩ = some (.int .i64 Qc)∧w'.cell? ⟨Qt,14,none⟩ = some (.int .i64 Qi)∧w'.cell? ⟨Qt,15,none⟩ = some (.int .i64 Qe)) (ds:=[]) #[false,false,false,false,false,false,false,false,false,false] (by kernel_rfl) rfl rfl ⟨(blk_cell Qa.out 0).trans rfl,(blk_cell Qa.out 1).trans rfl,(blk_cell Qa.out 2).trans rfl,(blk_cell Qa.out 3).trans rfl,(blk_cell Qa.out 4).trans rfl,(blk_cell Qa.out 5).trans rfl,(blk_cell Qa.out 6).trans rfl,(blk_cell Qa.out 7).trans rfl,(blk_cell Qa.out 8).trans rfl,(blk_cell Qa.out 9).trans rfl,(blk_cell Qa.out 10).trans rfl,(blk_cell Qa.out 11).trans rfl,(blk_cell Qa.out 12).trans rfl,(blk_cell Qa.out 13).trans rfl,(blk_cell Qa.out 14).trans rfl,(blk_cell Qa.out 15).trans rfl⟩ (fun hHeld=>?_);refine with_tabW plan_look_delta.tab1 plan_look_delta.bits1 (fun HT_ HW_=>?_)
 generalize w5.drew = w6 at Qa HB hHeld ⊢
 refine pure_ (i:=0) (N:=some 3) (v:=?_) (a':=?_) #[true,false,false,false,false,false,false,false,false,false] rfl rfl (any_of HT_.out (by kernel_rfl)) (fun _ _ _ h=>h) (Or.inl ⟨by rfl,?_⟩) ?_ ?_
 rotate_left
 ·intro w'
  go_simp
  with_reducible rfl
 rotate_left
 ·simp only [Act.put,List.setIfInBounds_toArray,List.set_cons_zero,List.set_cons_succ,i64_w,i32_w]
  rfl
 refine pure_ (i:=1) (N:=some 4) (v:=?_) (a':=?_) #[true,true,false,false,false,false,false,false,false,false] rfl rfl (any_of HT_.out (by kernel_rfl)) (fun _ _ _ h=>h) (Or.inl ⟨by rfl,?_⟩) ?_ ?_
 rotate_left
 ·intro w'
  go_simp
  with_reducible rfl
 rotate_left
 ·simp only [Act.put,List.setIfInBounds_toArray,List.set_cons_zero,List.set_cons_succ,i64_w,i32_w]
  rfl
 refine take_ (i:=2) (N:=some 5) (v:=?_) (a':=?_) #[true,true,true,false,false,false,false,false,false,false] rfl rfl (take_ofW HT_.out HW_.out (by kernel_rfl)) (fun _ _ _ h=>h) (Or.inl ⟨by rfl,?_⟩) hHeld ?_ ?_
 rotate_left
 ·rintro w' ⟨s0,s1,s2,s3,s4,s5,s6,s7,s8,s9,s10,s11,s12,s13,s14,s15⟩
  go_simp
  with_reducible rfl
 rotate_left
 ·simp only [Act.put,List.setIfInBounds_toArray,List.set_cons_zero,List.set_cons_succ,i64_w,i32_w]
  rfl
 refine take_ (i:=3) (N:=some 6) (v:=?_) (a':=?_) #[true,true,true,true,false,false,false,false,false,false] rfl rfl (take_ofW HT_.out HW_.out (by kernel_rfl)) (fun _ _ _ h=>h) (Or.inl ⟨by rfl,?_⟩) hHeld ?_ ?_
 rotate_left
 ·rintro w' ⟨s0,s1,s2,s3,s4,s5,s6,s7,s8,s9,s10,s11,s12,s13,s14,s15⟩
  go_simp
  with_reducible rfl
 rotate_left
 ·simp only [Act.put,List.setIfInBounds_toArray,List.set_cons_zero,List.set_cons_succ,i64_w,i32_w]
  rfl
 refine take_ (i:=5) (N:=some 8) (v:=?_) (a':=?_) #[true,true,true,true,false,true,false,false,false,false] rfl rfl (take_ofW HT_.out HW_.out (by kernel_rfl)) (fun _ _ _ h=>h) (Or.inl ⟨by rfl,?_⟩) hHeld ?_ ?_
 rotate_left
 ·rintro w' ⟨s0,s1,s2,s3,s4,s5,s6,s7,s8,s9,s10,s11,s12,s13,s14,s15⟩
  go_simp
  with_reducible rfl
 rotate_left
 ·simp only [Act.put,List.setIfInBounds_toArray,List.set_cons_zero,List.set_cons_succ,i64_w,i32_w]
  rfl
 refine one_ (i:=4) (N:=some 7) #[true,true,true,true,true,true,false,false,false,false] rfl rfl (one_of HT_.out (by kernel_rfl)) (by decide) (fun K hK=>?_)
 refine goes_ Try.func60 (by kernel_rfl) rfl #[.agg #[.int .i64 Qk,.int .i64 Ql,.int .i64 Qm,.int .i64 Qn,.int .i64 Qo,.int .i64 Qp,.int .i64 Qq,.int .i64 Qr,.int .i64 Qs,.int .i64 Qj,.int .i64 Qh,.int .i64 Qd,.int .i64 Qf,.int .i64 Qc,.int .i64 Qi,.int .i64 Qe]] (by rfl) rfl rfl (by (try simp only [List.map_toArray,List.map_cons,List.map_nil]);first|done|rfl|(simp only [List.length_drop,List.length_take];rfl)) ?_
 with_reducible refine (plan_look_leastDelta.calls Qk Ql Qm Qn Qo Qp Qq Qr Qs Qj Qh Qd Qf Qc Qi Qe Qy _ A2.out).mono ?_
 rintro e w7 ⟨rfl,hb⟩
 refine ⟨_,rfl,?_⟩
 have n0_:=Aside0.mk (blk_below (g:=Qt) (o:=.cells #[.int .i64 Qk,.int .i64 Ql,.int .i64 Qm,.int .i64 Qn,.int .i64 Qo,.int .i64 Qp,.int .i64 Qq,.int .i64 Qr,.int .i64 Qs,.int .i64 Qj,.int .i64 Qh,.int .i64 Qd,.int .i64 Qf,.int .i64 Qc,.int .i64 Qi,.int .i64 Qe] 72 (0,0)) (by (with_reducible repeat (first|refine blk_drewN ?_ _|refine blk_drew ?_|refine blk_alloc ?_ _));exact Qa.out) hb)
 have n1_:=Aside0.mk (below_step (by repeat (first|(with_reducible first|exact HB.out|apply below_alloc|apply pw_below_drewN|apply below_drew1|refine below_set ?_ GE149.out)|exact HB.out)) hb)
 clear Qa
 clear HB
 have Qa:=n0_
 have HB:=n1_
 clear n0_ n1_
 (try clear hb)
 (try clear hb2)
 (try clear hk)
 (try clear hi)
 refine hK.out _ _ ⟨(blk_cell Qa.out 0).trans rfl,(blk_cell Qa.out 1).trans rfl,(blk_cell Qa.out 2).trans rfl,(blk_cell Qa.out 3).trans rfl,(blk_cell Qa.out 4).trans rfl,(blk_cell Qa.out 5).trans rfl,(blk_cell Qa.out 6).trans rfl,(blk_cell Qa.out 7).trans rfl,(blk_cell Qa.out 8).trans rfl,(blk_cell Qa.out 9).trans rfl,(blk_cell Qa.out 10).trans rfl,(blk_cell Qa.out 11).trans rfl,(blk_cell Qa.out 12).trans rfl,(blk_cell Qa.out 13).trans rfl,(blk_cell Qa.out 14).trans rfl,(blk_cell Qa.out 15).trans rfl⟩ (fun hHeld=>?_)
 clear hK K
 refine norm_ (a':=?_) ?_ ?_
 rotate_left
 ·show Act.put _ (some 7) _ = _
  simp only [Act.put,List.setIfInBounds_toArray,List.set_cons_zero,List.set_cons_succ,i64_w,i32_w]
  rfl
 refine one_ (i:=6) (N:=some 9) #[true,true,true,true,true,true,true,false,false,false] rfl rfl (one_of HT_.out (by kernel_rfl)) (by decide) (fun K hK=>?_)
 refine goes_ Try.func61 (by kernel_rfl) rfl #[.agg #[.int .i64 Qk,.int .i64 Ql,.int .i64 Qm,.int .i64 Qn,.int .i64 Qo,.int .i64 Qp,.int .i64 Qq,.int .i64 Qr,.int .i64 Qs,.int .i64 Qj,.int .i64 Qh,.int .i64 Qd,.int .i64 Qf,.int .i64 Qc,.int .i64 Qi,.int .i64 Qe]] (by rfl) rfl rfl (by (try simp only [List.map_toArray,List.map_cons,List.map_nil]);first|done|rfl|(simp only [List.length_drop,List.length_take];rfl)) ?_
 with_reducible refine (plan_look_round.calls Qk Ql Qm Qn Qo Qp Qq Qr Qs Qj Qh Qd Qf Qc Qi Qe Qw _ A3.out).mono ?_
 rintro e w8 ⟨rfl,hb⟩
 refine ⟨_,rfl,?_⟩
 have n0_:=Aside0.mk (blk_below (g:=Qt) (o:=.cells #[.int .i64 Qk,.int .i64 Ql,.int .i64 Qm,.int .i64 Qn,.int .i64 Qo,.int .i64 Qp,.int .i64 Qq,.int .i64 Qr,.int .i64 Qs,.int .i64 Qj,.int .i64 Qh,.int .i64 Qd,.int .i64 Qf,.int .i64 Qc,.int .i64 Qi,.int .i64 Qe] 72 (0,0)) (by (with_reducible repeat (first|refine blk_drewN ?_ _|refine blk_drew ?_|refine blk_alloc ?_ _));exact Qa.out) hb)
 have n1_:=Aside0.mk (below_step (by repeat (first|(with_reducible first|exact HB.out|apply below_alloc|apply pw_below_drewN|apply below_drew1|refine below_set ?_ GE149.out)|exact HB.out)) hb)
 clear Qa
 clear HB
 have Qa:=n0_
 have HB:=n1_
 clear n0_ n1_
 (try clear hb)
 (try clear hb2)
 (try clear hk)
 (try clear hi)
 refine hK.out _ _ ⟨(blk_cell Qa.out 0).trans rfl,(blk_cell Qa.out 1).trans rfl,(blk_cell Qa.out 2).trans rfl,(blk_cell Qa.out 3).trans rfl,(blk_cell Qa.out 4).trans rfl,(blk_cell Qa.out 5).trans rfl,(blk_cell Qa.out 6).trans rfl,(blk_cell Qa.out 7).trans rfl,(blk_cell Qa.out 8).trans rfl,(blk_cell Qa.out 9).trans rfl,(blk_cell Qa.out 10).trans rfl,(blk_cell Qa.out 11).trans rfl,(blk_cell Qa.out 12).trans rfl,(blk_cell Qa.out 13).trans rfl,(blk_cell Qa.out 14).trans rfl,(blk_cell Qa.out 15).trans rfl⟩ (fun hHeld=>?_)
 clear hK K
 refine norm_ (a':=?_) ?_ ?_
 rotate_left
 ·show Act.put _ (some 9) _ = _
  simp only [Act.put,List.setIfInBounds_toArray,List.set_cons_zero,List.set_cons_succ,i64_w,i32_w]
  rfl
 refine pure_ (i:=7) (N:=some 10) (v:=?_) (a':=?_) #[true,true,true,true,true,true,true,true,false,false] rfl rfl (any_of HT_.out (by kernel_rfl)) (fun _ _ _ h=>h) (Or.inl ⟨by rfl,?_⟩) ?_ ?_
 rotate_left
 ·intro w'
  go_simp
  with_reducible rfl
 rotate_left
 ·simp only [Act.put,List.setIfInBounds_toArray,List.set_cons_zero,List.set_cons_succ,i64_w,i32_w]
  rfl
 refine one_ (i:=8) (N:=some 11) #[true,true,true,true,true,true,true,true,true,false] rfl rfl (one_of HT_.out (by kernel_rfl)) (by decide) (fun K hK=>?_)
 refine goes_ Try.func55 (by kernel_rfl) rfl #[.int .i64 Qd,.int .i64 Qy,.int .i64 (wrap64 (64 * Qw))] (by rfl) rfl rfl (by (try simp only [List.map_toArray,List.map_cons,List.map_nil]);first|done|rfl|(simp only [List.length_drop,List.length_take];rfl)) ?_
 with_reducible refine (plan_in.calls Qd Qy (wrap64 (64 * Qw)) Qx _ A4.out).mono ?_
 rintro e w' ⟨rfl,⟨nd,rfl⟩⟩
 refine ⟨_,rfl,?_⟩
 refine hK.out _ _ ⟨(blk_cell Qa.out 0).trans rfl,(blk_cell Qa.out 1).trans rfl,(blk_cell Qa.out 2).trans rfl,(blk_cell Qa.out 3).trans rfl,(blk_cell Qa.out 4).trans rfl,(blk_cell Qa.out 5).trans rfl,(blk_cell Qa.out 6).trans rfl,(blk_cell Qa.out 7).trans rfl,(blk_cell Qa.out 8).trans rfl,(blk_cell Qa.out 9).trans rfl,(blk_cell Qa.out 10).trans rfl,(blk_cell Qa.out 11).trans rfl,(blk_cell Qa.out 12).trans rfl,(blk_cell Qa.out 13).trans rfl,(blk_cell Qa.out 14).trans rfl,(blk_cell Qa.out 15).trans rfl⟩ (fun hHeld=>?_)
 clear hK K
 refine norm_ (a':=?_) ?_ ?_
 rotate_left
 ·show Act.put _ (some 11) _ = _
  simp only [Act.put,List.setIfInBounds_toArray,List.set_cons_zero,List.set_cons_succ,i64_w,i32_w]
  rfl
 refine pure_ (i:=9) (N:=some 2) (v:=?_) (a':=?_) #[true,true,true,true,true,true,true,true,true,true] rfl rfl (any_of HT_.out (by kernel_rfl)) (fun _ _ _ h=>h) (Or.inl ⟨by rfl,?_⟩) ?_ ?_
 rotate_left
 ·intro w'
  go_simp
  with_reducible rfl
 rotate_left
 ·simp only [Act.put,List.setIfInBounds_toArray,List.set_cons_zero,List.set_cons_succ,i64_w,i32_w]
  rfl
 refine done_ (done_of HT_.out (by kernel_rfl)) ?_
 try go_wp2
 go_ret
 exact ⟨by first|rfl|(simp [errW_none,errW_some] <;> rfl)|(simp [*,errW_none,errW_some] <;> rfl),by repeat (first|(with_reducible first|exact HB.out|apply below_alloc|apply pw_below_drewN|apply below_drew1|refine below_set ?_ GE149.out)|exact HB.out)⟩

/-! ### plan_look_horizon: function 54 -/
def plan_look_horizon.f (Qk : Int) (Ql : Int) (Qm : Int) (Qn : Int) (Qo : Int) (Qp : Int) (Qq : Int) (Qr : Int) (Qs : Int) (Qj : Int) (Qh : Int) (Qd : Int) (Qf : Int) (Qc : Int) (Qi : Int) (Qe : Int) : Option (Bool):=(plan_look_round.f Qk Ql Qm Qn Qo Qp Qq Qr Qs Qj Qh Qd Qf Qc Qi Qe).bind fun t154=>((plan_in.f Qe (wrap64 (40 * t154)) 2147483648).bind fun t155=>(some t155))
def plan_look_horizon.T1 : Bool × List (List Nat × List Nat):=(true,[([],[]),([0],[0]),([1],[1]),([],[]),([3],[3]),([4],[4]),([2,5,4],[2,5]),([6,6,0,1,2,3,4,5,6],[6])])
def plan_look_horizon.B1 : List Nat:=[0,1,3,0,8,24,63,127]
theorem plan_look_horizon.tab1 : rtab .any (opsOf Try.f54 1) = plan_look_horizon.T1:=by kernel_rfl
theorem plan_look_horizon.bits1 : waitsOk plan_look_horizon.T1.2 plan_look_horizon.B1 = true:=by kernel_rfl
set_option maxHeartbeats 8000000 in
set_option maxRecDepth 100000 in
theorem plan_look_horizon.calls (Qk : Int) (Ql : Int) (Qm : Int) (Qn : Int) (Qo : Int) (Qp : Int) (Qq : Int) (Qr : Int) (Qs : Int) (Qj : Int) (Qh : Int) (Qd : Int) (Qf : Int) (Qc : Int) (Qi : Int) (Qe : Int) (r : Bool) (w : World) (h : plan_look_horizon.f Qk Ql Qm Qn Qo Qp Qq Qr Qs Qj Qh Qd Qf Qc Qi Qe = some r) :
  Calls Try.prog 54 #[.agg #[.int .i64 Qk,.int .i64 Ql,.int .i64 Qm,.int .i64 Qn,.int .i64 Qo,.int .i64 Qp,.int .i64 Qq,.int .i64 Qr,.int .i64 Qs,.int .i64 Qj,.int .i64 Qh,.int .i64 Qd,.int .i64 Qf,.int .i64 Qc,.int .i64 Qi,.int .i64 Qe]] w fun e w'=>e = .returned (.bool r)∧Below w.heap.size w w':=by
 have hu72:=Try.underlying72
 have HB:=Aside0.mk (Below.refl w.heap.size w)
 have H : ((plan_look_round.f Qk Ql Qm Qn Qo Qp Qq Qr Qs Qj Qh Qd Qf Qc Qi Qe).bind fun t154=>((plan_in.f Qe (wrap64 (40 * t154)) 2147483648).bind fun t155=>(some t155))) = some r:=h
 clear h
 replace H:=Option.bind_eq_some_iff.mp H
 obtain ⟨t154,A20,H⟩:=H
 replace H : ((plan_in.f Qe (wrap64 (40 * t154)) 2147483648).bind fun t155=>(some t155)) = some r:=H
 have A2:=Aside0.mk A20
 clear A20
 replace H:=Option.bind_eq_some_iff.mp H
 obtain ⟨t155,A30,H⟩:=H
 replace H : (some t155) = some r:=H
 have A3:=Aside0.mk A30
 clear A30
 obtain rfl:=Option.some.inj H
 go_enter Try.func54,Try.ntmps54
 try go_wp2_with (first|((with_reducible refine gate_dst (N:=1) rfl ?_);refine box_event ?hg (N:=1) ?hd (cs:=#[.int .i64 Qk,.int .i64 Ql,.int .i64 Qm,.int .i64 Qn,.int .i64 Qo,.int .i64 Qp,.int .i64 Qq,.int .i64 Qr,.int .i64 Qs,.int .i64 Qj,.int .i64 Qh,.int .i64 Qd,.int .i64 Qf,.int .i64 Qc,.int .i64 Qi,.int .i64 Qe]) (t:=72) ?hr ?_;(case hd=>rfl);(case hg=>rfl);(case hr=>first|(go_simp;done)|(go_simp;rfl));intro Qv hg w4 hbox hb;have n0_:=Aside0.mk (below_step (by repeat (first|(with_reducible first|exact HB.out|apply below_alloc|apply pw_below_drewN|apply below_drew1)|exact HB.out)) hb);have n1_:=Aside0.mk (hbox);have n2_:=Aside0.mk ((by rw [hg];exact (below_size (by repeat (first|(with_reducible first|exact HB.out|apply below_alloc|apply pw_below_drewN|apply below_drew1)|exact HB.out))) : w.heap.size ≤ Qv));have n3_:=Aside0.mk ((by rw [hg];exact (below_size (by repeat (first|(with_reducible first|exact HB.out|apply below_alloc|apply pw_below_drewN|apply below_drew1)|exact HB.out))) : w.heap.size ≤ Qv));clear HB;have HB:=n0_;have Qb:=n1_;have GW153:=n2_;have GE153:=n3_;clear n0_ n1_ n2_ n3_;clear hb hbox hg))
 have n0_:=Aside0.mk (blk_drew Qb.out)
 have n1_:=Aside0.mk (below_drew1 HB.out)
 clear Qb
 clear HB
 have Qb:=n0_
 have HB:=n1_
 clear n0_ n1_
 refine start_ (n:=8) (S:=fun w'=>w'.cell? ⟨Qv,0,none⟩ = some (.int .i64 Qk)∧w'.cell? ⟨Qv,1,none⟩ = some (.int .i64 Ql)∧w'.cell? ⟨Qv,2,none⟩ = some (.int .i64 Qm)∧w'.cell? ⟨Qv,3,none⟩ = some (.int .i64 Qn)∧w'.cell? ⟨Qv,4,none⟩ = some (.int .i64 Qo)∧w'.cell? ⟨Qv,5,none⟩ = some (.int .i64 Qp)∧w'.cell? ⟨Qv,6,none⟩ = some (.int .i64 Qq)∧w'.cell? ⟨Qv,7,none⟩ = some (.int .i64 Qr)∧w'.cell? ⟨Qv,8,none⟩ = some (.int .i64 Qs)∧w'.cell? ⟨Qv,9,none⟩ = some (.int .i64 Qj)∧w'.cell? ⟨Qv,10,none⟩ = some (.int .i64 Qh)∧w'.cell? ⟨Qv,11,none⟩ = some (.int .i64 Qd)∧w'.cell? ⟨Qv,12,none⟩ = some (.int .i64 Qf)∧w'.cell? ⟨Qv,13,none⟩ = some (.int .i64 Qc)∧w'.cell? ⟨Qv,14,none⟩ = some (.int .i64 Qi)∧w'.cell? ⟨Qv,15,none⟩ = some (.int .i64 Qe)) (ds:=[]) #[false,false,false,false,false,false,false,false] (by kernel_rfl) rfl rfl ⟨(blk_cell Qb.out 0).trans rfl,(blk_cell Qb.out 1).trans rfl,(blk_cell Qb.out 2).trans rfl,(blk_cell Qb.out 3).trans rfl,(blk_cell Qb.out 4).trans rfl,(blk_cell Qb.out 5).trans rfl,(blk_cell Qb.out 6).trans rfl,(blk_cell Qb.out 7).trans rfl,(blk_cell Qb.out 8).trans rfl,(blk_cell Qb.out 9).trans rfl,(blk_cell Qb.out 10).trans rfl,(blk_cell Qb.out 11).trans rfl,(blk_cell Qb.out 12).trans rfl,(blk_cell Qb.out 13).trans rfl,(blk_cell Qb.out 14).trans rfl,(blk_cell Qb.out 15).trans rfl⟩ (fun hHeld=>?_);refine with_tabW plan_look_horizon.tab1 plan_look_horizon.bits1 (fun HT_ HW_=>?_)
 generalize w4.drew = w5 at Qb HB hHeld ⊢
 refine pure_ (i:=0) (N:=some 3) (v:=?_) (a':=?_) #[true,false,false,false,false,false,false,false] rfl rfl (any_of HT_.out (by kernel_rfl)) (fun _ _ _ h=>h) (Or.inl ⟨by rfl,?_⟩) ?_ ?_
 rotate_left
 ·intro w'
  go_simp
  with_reducible rfl
 rotate_left
 ·simp only [Act.put,List.setIfInBounds_toArray,List.set_cons_zero,List.set_cons_succ,i64_w,i32_w]
  rfl
 refine pure_ (i:=1) (N:=some 4) (v:=?_) (a':=?_) #[true,true,false,false,false,false,false,false] rfl rfl (any_of HT_.out (by kernel_rfl)) (fun _ _ _ h=>h) (Or.inl ⟨by rfl,?_⟩) ?_ ?_
 rotate_left
 ·intro w'
  go_simp
  with_reducible rfl
 rotate_left
 ·simp only [Act.put,List.setIfInBounds_toArray,List.set_cons_zero,List.set_cons_succ,i64_w,i32_w]
  rfl
 refine take_ (i:=2) (N:=some 5) (v:=?_) (a':=?_) #[true,true,true,false,false,false,false,false] rfl rfl (take_ofW HT_.out HW_.out (by kernel_rfl)) (fun _ _ _ h=>h) (Or.inl ⟨by rfl,?_⟩) hHeld ?_ ?_
 rotate_left
 ·rintro w' ⟨s0,s1,s2,s3,s4,s5,s6,s7,s8,s9,s10,s11,s12,s13,s14,s15⟩
  go_simp
  with_reducible rfl
 rotate_left
 ·simp only [Act.put,List.setIfInBounds_toArray,List.set_cons_zero,List.set_cons_succ,i64_w,i32_w]
  rfl
 refine take_ (i:=3) (N:=some 6) (v:=?_) (a':=?_) #[true,true,true,true,false,false,false,false] rfl rfl (take_ofW HT_.out HW_.out (by kernel_rfl)) (fun _ _ _ h=>h) (Or.inl ⟨by rfl,?_⟩) hHeld ?_ ?_
 rotate_left
 ·rintro w' ⟨s0,s1,s2,s3,s4,s5,s6,s7,s8,s9,s10,s11,s12,s13,s14,s15⟩
  go_simp
  with_reducible rfl
 rotate_left
 ·simp only [Act.put,List.setIfInBounds_toArray,List.set_cons_zero,List.set_cons_succ,i64_w,i32_w]
  rfl
 refine one_ (i:=4) (N:=some 7) #[true,true,true,true,true,false,false,false] rfl rfl (one_of HT_.out (by kernel_rfl)) (by decide) (fun K hK=>?_)
 refine goes_ Try.func61 (by kernel_rfl) rfl #[.agg #[.int .i64 Qk,.int .i64 Ql,.int .i64 Qm,.int .i64 Qn,.int .i64 Qo,.int .i64 Qp,.int .i64 Qq,.int .i64 Qr,.int .i64 Qs,.int .i64 Qj,.int .i64 Qh,.int .i64 Qd,.int .i64 Qf,.int .i64 Qc,.int .i64 Qi,.int .i64 Qe]] (by rfl) rfl rfl (by (try simp only [List.map_toArray,List.map_cons,List.map_nil]);first|done|rfl|(simp only [List.length_drop,List.length_take];rfl)) ?_
 with_reducible refine (plan_look_round.calls Qk Ql Qm Qn Qo Qp Qq Qr Qs Qj Qh Qd Qf Qc Qi Qe t154 _ A2.out).mono ?_
 rintro e w6 ⟨rfl,hb⟩
 refine ⟨_,rfl,?_⟩
 have n0_:=Aside0.mk (blk_below (g:=Qv) (o:=.cells #[.int .i64 Qk,.int .i64 Ql,.int .i64 Qm,.int .i64 Qn,.int .i64 Qo,.int .i64 Qp,.int .i64 Qq,.int .i64 Qr,.int .i64 Qs,.int .i64 Qj,.int .i64 Qh,.int .i64 Qd,.int .i64 Qf,.int .i64 Qc,.int .i64 Qi,.int .i64 Qe] 72 (0,0)) (by (with_reducible repeat (first|refine blk_drewN ?_ _|refine blk_drew ?_|refine blk_alloc ?_ _));exact Qb.out) hb)
 have n1_:=Aside0.mk (below_step (by repeat (first|(with_reducible first|exact HB.out|apply below_alloc|apply pw_below_drewN|apply below_drew1|refine below_set ?_ GE153.out)|exact HB.out)) hb)
 clear Qb
 clear HB
 have Qb:=n0_
 have HB:=n1_
 clear n0_ n1_
 (try clear hb)
 (try clear hb2)
 (try clear hk)
 (try clear hi)
 refine hK.out _ _ ⟨(blk_cell Qb.out 0).trans rfl,(blk_cell Qb.out 1).trans rfl,(blk_cell Qb.out 2).trans rfl,(blk_cell Qb.out 3).trans rfl,(blk_cell Qb.out 4).trans rfl,(blk_cell Qb.out 5).trans rfl,(blk_cell Qb.out 6).trans rfl,(blk_cell Qb.out 7).trans rfl,(blk_cell Qb.out 8).trans rfl,(blk_cell Qb.out 9).trans rfl,(blk_cell Qb.out 10).trans rfl,(blk_cell Qb.out 11).trans rfl,(blk_cell Qb.out 12).trans rfl,(blk_cell Qb.out 13).trans rfl,(blk_cell Qb.out 14).trans rfl,(blk_cell Qb.out 15).trans rfl⟩ (fun hHeld=>?_)
 clear hK K
 refine norm_ (a':=?_) ?_ ?_
 rotate_left
 ·show Act.put _ (some 7) _ = _
  simp only [Act.put,List.setIfInBounds_toArray,List.set_cons_zero,List.set_cons_succ,i64_w,i32_w]
  rfl
 refine pure_ (i:=5) (N:=some 8) (v:=?_) (a':=?_) #[true,true,true,true,true,true,false,false] rfl rfl (any_of HT_.out (by kernel_rfl)) (fun _ _ _ h=>h) (Or.inl ⟨by rfl,?_⟩) ?_ ?_
 rotate_left
 ·intro w'
  go_simp
  with_reducible rfl
 rotate_left
 ·simp only [Act.put,List.setIfInBounds_toArray,List.set_cons_zero,List.set_cons_succ,i64_w,i32_w]
  rfl
 refine one_ (i:=6) (N:=some 9) #[true,true,true,true,true,true,true,false] rfl rfl (one_of HT_.out (by kernel_rfl)) (by decide) (fun K hK=>?_)
 refine goes_ Try.func55 (by kernel_rfl) rfl #[.int .i64 Qe,.int .i64 (wrap64 (40 * t154)),.int .i64 2147483648] (by rfl) rfl rfl (by (try simp only [List.map_toArray,List.map_cons,List.map_nil]);first|done|rfl|(simp only [List.length_drop,List.length_take];rfl)) ?_
 with_reducible refine (plan_in.calls Qe (wrap64 (40 * t154)) 2147483648 t155 _ A3.out).mono ?_
 rintro e w' ⟨rfl,⟨nd,rfl⟩⟩
 refine ⟨_,rfl,?_⟩
 refine hK.out _ _ ⟨(blk_cell Qb.out 0).trans rfl,(blk_cell Qb.out 1).trans rfl,(blk_cell Qb.out 2).trans rfl,(blk_cell Qb.out 3).trans rfl,(blk_cell Qb.out 4).trans rfl,(blk_cell Qb.out 5).trans rfl,(blk_cell Qb.out 6).trans rfl,(blk_cell Qb.out 7).trans rfl,(blk_cell Qb.out 8).trans rfl,(blk_cell Qb.out 9).trans rfl,(blk_cell Qb.out 10).trans rfl,(blk_cell Qb.out 11).trans rfl,(blk_cell Qb.out 12).trans rfl,(blk_cell Qb.out 13).trans rfl,(blk_cell Qb.out 14).trans rfl,(blk_cell Qb.out 15).trans rfl⟩ (fun hHeld=>?_)
 clear hK K
 refine norm_ (a':=?_) ?_ ?_
 rotate_left
 ·show Act.put _ (some 9) _ = _
  simp only [Act.put,List.setIfInBounds_toArray,List.set_cons_zero,List.set_cons_succ,i64_w,i32_w]
  rfl
 refine pure_ (i:=7) (N:=some 2) (v:=?_) (a':=?_) #[true,true,true,true,true,true,true,true] rfl rfl (any_of HT_.out (by kernel_rfl)) (fun _ _ _ h=>h) (Or.inl ⟨by rfl,?_⟩) ?_ ?_
 rotate_left
 ·intro w'
  go_simp
  with_reducible rfl
 rotate_left
 ·simp only [Act.put,List.setIfInBounds_toArray,List.set_cons_zero,List.set_cons_succ,i64_w,i32_w]
  rfl
 refine done_ (done_of HT_.out (by kernel_rfl)) ?_
 try go_wp2
 go_ret
 exact ⟨by first|rfl|(simp [errW_none,errW_some] <;> rfl)|(simp [*,errW_none,errW_some] <;> rfl),by repeat (first|(with_reducible first|exact HB.out|apply below_alloc|apply pw_below_drewN|apply below_drew1|refine below_set ?_ GE153.out)|exact HB.out)⟩

end Go.Proofs.Ytnmephdamgofnaa.PA
