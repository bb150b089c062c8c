/- Written by a program of this session (wip/jprint.py, over the printer of the kit): functions that a law comes to, as plain Lean functions, and walks; Lean checks it. -/
import Derived.Test.YtnmephdamgofnaaPAx0
import Derived.Test.YtnmephdamgofnaaPAx1
namespace Go.Proofs.Ytnmephdamgofnaa.PA
open Go.RowKit Go.Proofs.YtnmephdamgofnaaW.PrintWords Go.Proofs.YtnmephdamgofnaaW.PrintLast Go.Proofs.YtnmephdamgofnaaW.PrintMore
attribute [local go_sem] max2_int min2_int max_two min_two max_three min_three max_four min_four   -- for this text's walks alone
set_option linter.unusedVariables false
set_option linter.unusedSimpArgs false

attribute [local go_sem high] eqA25
theorem nl_ {wp w1 : World} {g g' : Nat} {o : Obj} (h : Aside0 (wp.heap[g]? = some o)) (hg : g' = w1.heap.size) (hs : wp.heap[g]? = some o→w1.heap[g]? = some o:=by (intro h_;repeat (first|(with_reducible exact h_)|(with_reducible refine blk_drewN ?_ _)|(with_reducible refine blk_drew ?_)|(with_reducible refine blk_alloc ?_ _)))) : Aside0 (g ≠ g'):=⟨by rw [hg];exact Nat.ne_of_lt (blk_lt (hs h.out))⟩
theorem ng_ {wp w1 : World} {g g' : Nat} {o : Obj} (h : Aside0 (wp.heap[g]? = some o)) (hg : g' = w1.heap.size) (hs : wp.heap[g]? = some o→w1.heap[g]? = some o:=by (intro h_;repeat (first|(with_reducible exact h_)|(with_reducible refine blk_drewN ?_ _)|(with_reducible refine blk_drew ?_)|(with_reducible refine blk_alloc ?_ _)))) : Aside0 (g' ≠ g):=⟨by rw [hg];exact Nat.ne_of_gt (blk_lt (hs h.out))⟩
theorem kb_ {wp w1 w' : World} {g : Nat} {o : Obj} (h : Aside0 (wp.heap[g]? = some o)) (hb : Below w1.heap.size w1 w') (hs : wp.heap[g]? = some o→w1.heap[g]? = some o:=by (intro h_;repeat (first|(with_reducible exact h_)|(with_reducible refine blk_drewN ?_ _)|(with_reducible refine blk_drew ?_)|(with_reducible refine blk_alloc ?_ _)|(refine blk_far ?_ (Aside0.out (by assumption)) _)))) : Aside0 (w'.heap[g]? = some o):=⟨blk_below (hs h.out) hb⟩
theorem kr_ {α : Type} {d : Kd α} {e : Nat} {wp w1 w' : World} {base : Nat} {ok : Nat→Prop} {v : Value} {xs : List α} (h : Aside0 (d.R e wp base ok v xs)) (hb : Below w1.heap.size w1 w') (hs : d.R e wp base ok v xs→d.R e w1 base ok v xs:=by (intro h_;with_reducible repeat (first|exact h_|apply Kd.R_alloc|apply Kd.R_drewN|apply Kd.R_drew))) : Aside0 (d.R e w' base ok v xs):=⟨Kd.R_below (hs h.out) hb⟩
theorem ks_ {w W0 W w2 : World} (h : Aside0 (Below w.heap.size w W0)) (hb : Below W.heap.size W w2) (hs : Below w.heap.size w W0→Below w.heap.size w W:=by (intro h_;repeat (first|(with_reducible first|exact h_|apply below_alloc|apply pw_below_drewN|apply below_drew1|refine below_set ?_ (Aside0.out (by assumption)))|exact h_))) : Aside0 (Below w.heap.size w w2):=⟨below_step (hs h.out) hb⟩
theorem kz_ {w W0 W : World} (h : Aside0 (Below w.heap.size w W0)) (hs : Below w.heap.size w W0→Below w.heap.size w W:=by (intro h_;repeat (first|(with_reducible first|exact h_|apply below_alloc|apply pw_below_drewN|apply below_drew1|refine below_set ?_ (Aside0.out (by assumption)))|exact h_))) : w.heap.size ≤ W.heap.size:=below_size (hs h.out)
theorem rf4_ {α : Type} {d : Kd α} {e : Nat} {w : World} {base g : Nat} {ok : Nat→Prop} {v : Value} {xs : List α} {a b c z : Value} (h : d.R e w base (fun k=>ok k∧k ≠ g) v xs) : d.R e ((((w.setCell ⟨g,0,none⟩ a).setCell ⟨g,1,none⟩ b).setCell ⟨g,2,none⟩ c).setCell ⟨g,3,none⟩ z) base ok v xs :=
 Kd.R_mono (Kd.R_far (p:=⟨g,3,none⟩) (Kd.R_far (p:=⟨g,2,none⟩) (Kd.R_far (p:=⟨g,1,none⟩) (Kd.R_far (p:=⟨g,0,none⟩) h (fun _ hk=>hk.2) a) (fun _ hk=>hk.2) b) (fun _ hk=>hk.2) c) (fun _ hk=>hk.2) z) (fun _ h_=>h_.1)
/-! ### midpoint_ends_int64: function 29 -/
def midpoint_ends_int64.l0 : Nat→Int→Int→List Int→Int→Int→Option (Int × Int)
 | 0,_,_,_,_,_=>none
 | k + 1,x4,x5,x10,x11,x12=>if x12 < x11 then (if 0 ≤ x12 then (if x12 < (x10.length : Int) then (midpoint_ends_int64.l0 k (mn x4 (rd x10 x12)) (mx x5 (rd x10 x12)) x10 x11 (wrap64 (x12 + 1))) else (none)) else (none)) else (some (x4,x5))
def midpoint_ends_int64.f (k : Nat) (a0 : Int) (l1 : List Int) : Option (Int × Int):=midpoint_ends_int64.l0 k a0 a0 l1 (l1.length : Int) 0
theorem midpoint_ends_int64.mono_l : ∀ k,(∀ y0 y1 y2 y3 y4,LeO (midpoint_ends_int64.l0 k y0 y1 y2 y3 y4) (midpoint_ends_int64.l0 (k + 1) y0 y1 y2 y3 y4))
 | 0=>fun _ _ _ _ _ r h=>by simp [midpoint_ends_int64.l0] at h
 | k + 1=>by
  have ih0:=midpoint_ends_int64.mono_l k
  ·intro y0 y1 y2 y3 y4
   unfold midpoint_ends_int64.l0
   repeat' first
   | (with_reducible exact ih0 _ _ _ _ _)
   | (with_reducible exact LeO.refl _)
   | (with_reducible exact LeO.none _)
   | (with_reducible refine LeO.ite ?_ ?_)
   | (with_reducible refine LeO.bind ?_ (fun _=>?_))
   | exact ih0 _ _ _ _ _
   | exact LeO.none _
   | refine LeO.ite ?_ ?_
   | refine LeO.bind ?_ (fun _=>?_)
theorem midpoint_ends_int64.mono : ∀ a0 a1 k,LeO (midpoint_ends_int64.f k a0 a1) (midpoint_ends_int64.f (k + 1) a0 a1):=by
 intro a0 a1 k
 have ih0:=midpoint_ends_int64.mono_l k
 unfold midpoint_ends_int64.f
 repeat' first
   | (with_reducible exact ih0 _ _ _ _ _)
   | (with_reducible exact LeO.refl _)
   | (with_reducible exact LeO.none _)
   | (with_reducible refine LeO.ite ?_ ?_)
   | (with_reducible refine LeO.bind ?_ (fun _=>?_))
   | exact ih0 _ _ _ _ _
   | exact LeO.none _
   | refine LeO.ite ?_ ?_
   | refine LeO.bind ?_ (fun _=>?_)
set_option maxHeartbeats 8000000 in
set_option maxRecDepth 100000 in
theorem midpoint_ends_int64.calls (k : Nat) (a0 : Int) (A1 : Option Addr) (c1 : Nat) (l1 : List Int) (r1 : Int) (r2 : Int) (w : World) (hr1 : Kd.C (Kd.int .i64) w A1 l1.length l1) (hc1 : l1.length ≤ c1) (h : midpoint_ends_int64.f k a0 l1 = some (r1,r2)) :
  Calls Try.prog 29 #[.int .i64 a0,.slice A1 l1.length c1] w fun e w'=>e = .returned (.tuple #[.int .i64 r1,.int .i64 r2])∧Below w.heap.size w w':=by
 have HR1:=Aside0.mk hr1
 have HC1:=Aside0.mk hc1
 clear hr1 hc1
 have HB:=Aside0.mk (Below.refl w.heap.size w)
 have H : (midpoint_ends_int64.l0 k a0 a0 l1 (l1.length : Int) 0) = some (r1,r2):=h
 clear h
 have H':=Aside0.mk H
 clear H
 go_enter Try.func29,Try.ntmps29
 go_wp2
 go_loopg [4,5,12] k (fun kq v4 v5 v12 w'=>∃ (x4_1 : Int) (x5_1 : Int) (Qe : Int),v4 = .int .i64 x4_1∧v5 = .int .i64 x5_1∧v12 = .int .i64 Qe∧Aside0 (midpoint_ends_int64.l0 kq x4_1 x5_1 l1 (l1.length : Int) Qe = some (r1,r2))∧Aside0 (kq ≤ k)∧Aside0 (Below w.heap.size w w'))
 case atStart=>exact ⟨(a0),(a0),(0),(by first|rfl|(simp;done)|(simp [*];done)),(by first|rfl|(simp;done)|(simp [*];done)),(by first|rfl|(simp;done)|(simp [*];done)),H',⟨Nat.le_refl _⟩,⟨by repeat (first|(with_reducible first|exact HB.out|apply below_alloc|apply pw_below_drewN|apply below_drew1)|exact HB.out)⟩⟩
 case round =>
  clear H'
  try clear c1
  try clear c2
  try clear p2
  obtain ⟨x4_1,x5_1,Qe,rfl,rfl,rfl,HA,HK1,HB⟩:=hrel
  cases gk with
  | zero=>exact absurd HA.out (by simp [midpoint_ends_int64.l0])
  | succ k1 =>
   have H:=HA.out
   clear HA
   simp only [midpoint_ends_int64.l0] at H
   by_cases c3 : Qe < (l1.length : Int)
   ·rw [if_pos c3] at H
    have c3b0 : decide (Qe < (l1.length : Int)) = true:=decide_eq_true c3
    clear c3
    by_cases c4 : 0 ≤ Qe
    ·rw [if_pos c4] at H
     have c4b0 : decide (0 ≤ Qe) = true:=decide_eq_true c4
     clear c4
     by_cases c5 : Qe < (l1.length : Int)
     ·rw [if_pos c5] at H
      have c5b0 : decide (Qe < (l1.length : Int)) = true:=decide_eq_true c5
      clear c5
      obtain ⟨ji6,hji6⟩ : ∃ j_ : Int,(mn x4_1 (rd l1 Qe)) = j_:=⟨_,rfl⟩
      replace H : (midpoint_ends_int64.l0 k1 ji6 (mx x5_1 (rd l1 Qe)) l1 (l1.length : Int) (wrap64 (Qe + 1))) = some (r1,r2):=by first|(rw [hji6] at H;exact H)|(simp only [hji6] at H ⊢;exact H)
      have hji6_ : (if (rd l1 Qe) < x4_1 then (rd l1 Qe) else x4_1) = ji6:=hji6
      obtain ⟨ji7,hji7⟩ : ∃ j_ : Int,(mx x5_1 (rd l1 Qe)) = j_:=⟨_,rfl⟩
      replace H : (midpoint_ends_int64.l0 k1 ji6 ji7 l1 (l1.length : Int) (wrap64 (Qe + 1))) = some (r1,r2):=by first|(rw [hji7] at H;exact H)|(simp only [hji7] at H ⊢;exact H)
      have hji7_ : (if x5_1 < (rd l1 Qe) then (rd l1 Qe) else x5_1) = ji7:=hji7
      have H':=Aside0.mk H
      clear H
      have p175 : 0 ≤ (Qe : Int):=of_decide_eq_true (by first|(with_reducible assumption)|assumption)
      have q175 : Qe < (l1.length : Int):=of_decide_eq_true (by first|(with_reducible assumption)|assumption)
      obtain ⟨ad175,e175,hx175_0⟩:=Kd.at_int HR1.out Qe p175 q175
      cases e175
      replace hx175_0:=(HB.out.cell (World.block_lt_of_cell? w _ hx175_0)).trans hx175_0
      replace p175:=eq_true p175
      replace q175:=eq_true q175
      go_wp2
      go_roundg k1
      case measure=>have:=HK1.out;omega
      case rel=>exact ⟨(ji6),(ji7),(wrap64 (Qe + 1)),(by first|rfl|(simp;done)|(simp only [← hji6] <;> (first|rfl|simp))|(simp [*];done)),(by first|rfl|(simp;done)|(simp only [← hji7] <;> (first|rfl|simp))|(simp [*];done)),(by first|rfl|(simp;done)|(simp [*];done)),H',⟨by have:=HK1.out;omega⟩,⟨by repeat (first|(with_reducible first|exact HB.out|apply below_alloc|apply pw_below_drewN|apply below_drew1)|exact HB.out)⟩⟩
     ·rw [if_neg c5] at H
      exact absurd H (by simp)
    ·rw [if_neg c4] at H
     exact absurd H (by simp)
   ·rw [if_neg c3] at H
    have c3b0 : decide (Qe < (l1.length : Int)) = false:=decide_eq_false c3
    clear c3
    simp only [Option.some.injEq,Prod.mk.injEq] at H
    obtain ⟨rfl,rfl⟩:=H
    go_wp2
    go_ret2
    exact ⟨by first|rfl|(simp [errW_none,errW_some] <;> rfl)|(simp [*,errW_none,errW_some] <;> rfl),by repeat (first|(with_reducible first|exact HB.out|apply below_alloc|apply pw_below_drewN|apply below_drew1)|exact HB.out)⟩
/-! ### resync_values: function 19 -/
def resync_values.l0 : Nat→List Int→Int→Int→Option (Bool)
 | 0,_,_,_=>none
 | k + 1,x5,x6,x7=>if x7 < x6 then (if 0 ≤ x7 then (if x7 < (x5.length : Int) then (if (rd x5 x7) < (-4294967296) then (some false) else (if (rd x5 x7) > 4294967296 then (some false) else (resync_values.l0 k x5 x6 (wrap64 (x7 + 1))))) else (none)) else (none)) else (some true)
def resync_values.f (k : Nat) (l0 : List Int) : Option (Bool):=resync_values.l0 k l0 (l0.length : Int) 0
theorem resync_values.mono_l : ∀ k,(∀ y0 y1 y2,LeO (resync_values.l0 k y0 y1 y2) (resync_values.l0 (k + 1) y0 y1 y2))
 | 0=>fun _ _ _ r h=>by simp [resync_values.l0] at h
 | k + 1=>by
  have ih0:=resync_values.mono_l k
  ·intro y0 y1 y2
   unfold resync_values.l0
   repeat' first
   | (with_reducible exact ih0 _ _ _)
   | (with_reducible exact LeO.refl _)
   | (with_reducible exact LeO.none _)
   | (with_reducible refine LeO.ite ?_ ?_)
   | (with_reducible refine LeO.bind ?_ (fun _=>?_))
   | exact ih0 _ _ _
   | exact LeO.none _
   | refine LeO.ite ?_ ?_
   | refine LeO.bind ?_ (fun _=>?_)
theorem resync_values.mono : ∀ a0 k,LeO (resync_values.f k a0) (resync_values.f (k + 1) a0):=by
 intro a0 k
 have ih0:=resync_values.mono_l k
 unfold resync_values.f
 repeat' first
   | (with_reducible exact ih0 _ _ _)
   | (with_reducible exact LeO.refl _)
   | (with_reducible exact LeO.none _)
   | (with_reducible refine LeO.ite ?_ ?_)
   | (with_reducible refine LeO.bind ?_ (fun _=>?_))
   | exact ih0 _ _ _
   | exact LeO.none _
   | refine LeO.ite ?_ ?_
   | refine LeO.bind ?_ (fun _=>?_)
set_option maxHeartbeats 8000000 in
set_option maxRecDepth 100000 in
theorem resync_values.calls (k : Nat) (A0 : Option Addr) (c0 : Nat) (l0 : List Int) (r : Bool) (w : World) (hr0 : Kd.C (Kd.int .i64) w A0 l0.length l0) (hc0 : l0.length ≤ c0) (h : resync_values.f k l0 = some r) :
  Calls Try.prog 19 #[.slice A0 l0.length c0] w fun e w'=>e = .returned (.bool r)∧Drawn0 w w':=by
 have HR0:=Aside0.mk hr0
 have HC0:=Aside0.mk hc0
 clear hr0 hc0
 have H : (resync_values.l0 k l0 (l0.length : Int) 0) = some r:=h
 clear h
 have H':=Aside0.mk H
 clear H
 go_enter Try.func19,Try.ntmps19
 go_wp2
 go_loopg [7] k (fun kq v7 w'=>∃ (Qh : Int),v7 = .int .i64 Qh∧Aside0 (resync_values.l0 kq l0 (l0.length : Int) Qh = some r)∧Aside0 (kq ≤ k)∧Drawn0 w w')
 case atStart=>exact ⟨(0),(by first|rfl|(simp;done)|(simp [*];done)),H',⟨Nat.le_refl _⟩,by repeat (first|exact Drawn0.refl _|apply Drawn0.step)⟩
 case round =>
  clear H'
  try clear c1
  obtain ⟨Qh,rfl,HA,HK1,⟨m1,rfl⟩⟩:=hrel
  cases gk with
  | zero=>exact absurd HA.out (by simp [resync_values.l0])
  | succ k1 =>
   have H:=HA.out
   clear HA
   simp only [resync_values.l0] at H
   by_cases c2 : Qh < (l0.length : Int)
   ·rw [if_pos c2] at H
    have c2b0 : decide (Qh < (l0.length : Int)) = true:=decide_eq_true c2
    clear c2
    by_cases c3 : 0 ≤ Qh
    ·rw [if_pos c3] at H
     have c3b0 : decide (0 ≤ Qh) = true:=decide_eq_true c3
     clear c3
     by_cases c4 : Qh < (l0.length : Int)
     ·rw [if_pos c4] at H
      have c4b0 : decide (Qh < (l0.length : Int)) = true:=decide_eq_true c4
      clear c4
      by_cases c5 : (rd l0 Qh) < (-4294967296)
      ·rw [if_pos c5] at H
       have c5b0 : decide ((rd l0 Qh) < (-4294967296)) = true:=decide_eq_true c5
       clear c5
       obtain rfl:=Option.some.inj H
       have p186 : 0 ≤ (Qh : Int):=of_decide_eq_true (by first|(with_reducible assumption)|assumption)
       have q186 : Qh < (l0.length : Int):=of_decide_eq_true (by first|(with_reducible assumption)|assumption)
       obtain ⟨ad186,e186,hx186_0⟩:=Kd.at_int HR0.out Qh p186 q186
       cases e186
       replace p186:=eq_true p186
       replace q186:=eq_true q186
       go_wp2
       go_ret
       exact ⟨by first|rfl|(simp;done)|(simp [*];done),by repeat (first|exact Drawn0.refl _|apply Drawn0.step)⟩
      ·rw [if_neg c5] at H
       have c5b0 : decide ((rd l0 Qh) < (-4294967296)) = false:=decide_eq_false c5
       clear c5
       by_cases c6 : (rd l0 Qh) > 4294967296
       ·rw [if_pos c6] at H
        have c6b0 : decide (4294967296 < (rd l0 Qh)) = true:=decide_eq_true c6
        clear c6
        obtain rfl:=Option.some.inj H
        have p186 : 0 ≤ (Qh : Int):=of_decide_eq_true (by first|(with_reducible assumption)|assumption)
        have q186 : Qh < (l0.length : Int):=of_decide_eq_true (by first|(with_reducible assumption)|assumption)
        obtain ⟨ad186,e186,hx186_0⟩:=Kd.at_int HR0.out Qh p186 q186
        cases e186
        replace p186:=eq_true p186
        replace q186:=eq_true q186
        go_wp2
        go_ret
        exact ⟨by first|rfl|(simp;done)|(simp [*];done),by repeat (first|exact Drawn0.refl _|apply Drawn0.step)⟩
       ·rw [if_neg c6] at H
        have c6b0 : decide (4294967296 < (rd l0 Qh)) = false:=decide_eq_false c6
        clear c6
        have H':=Aside0.mk H
        clear H
        have p186 : 0 ≤ (Qh : Int):=of_decide_eq_true (by first|(with_reducible assumption)|assumption)
        have q186 : Qh < (l0.length : Int):=of_decide_eq_true (by first|(with_reducible assumption)|assumption)
        obtain ⟨ad186,e186,hx186_0⟩:=Kd.at_int HR0.out Qh p186 q186
        cases e186
        replace p186:=eq_true p186
        replace q186:=eq_true q186
        go_wp2
        go_roundg k1
        case measure=>have:=HK1.out;omega
        case rel=>exact ⟨(wrap64 (Qh + 1)),(by first|rfl|(simp;done)|(simp [*];done)),H',⟨by have:=HK1.out;omega⟩,by repeat (first|exact Drawn0.refl _|apply Drawn0.step)⟩
     ·rw [if_neg c4] at H
      exact absurd H (by simp)
    ·rw [if_neg c3] at H
     exact absurd H (by simp)
   ·rw [if_neg c2] at H
    have c2b0 : decide (Qh < (l0.length : Int)) = false:=decide_eq_false c2
    clear c2
    obtain rfl:=Option.some.inj H
    go_wp2
    go_ret
    exact ⟨by first|rfl|(simp;done)|(simp [*];done),by repeat (first|exact Drawn0.refl _|apply Drawn0.step)⟩
/-! ### resync_may: function 22 -/
def resync_may.f (Qc : Int) (Qd : Int) (Qf : Int) (Qg : Bool) : Option (Bool):=if (Qc == 0 && (Qd == 0 && (Qf == 0 && (!Qg)))) = true then (some true) else (if Qc ≥ 0 then (if Qc ≤ 2147483647 then (if Qd ≥ 0 then (if Qd ≤ Qc then (if Qf ≥ (-4294967296) then (some (decide (Qf ≤ 4294967296))) else (some false)) else (some false)) else (some false)) else (some false)) else (some false))
set_option maxHeartbeats 8000000 in
set_option maxRecDepth 100000 in
theorem resync_may.calls (Qc : Int) (Qd : Int) (Qf : Int) (Qg : Bool) (r : Bool) (w : World) (h : resync_may.f Qc Qd Qf Qg = some r) :
  Calls Try.prog 22 #[.agg #[.int .i64 Qc,.int .i64 Qd,.int .i64 Qf,.bool Qg]] w fun e w'=>e = .returned (.bool r)∧Below w.heap.size w w':=by
 have hu25:=Try.underlying25
 have HB:=Aside0.mk (Below.refl w.heap.size w)
 have H : (if (Qc == 0 && (Qd == 0 && (Qf == 0 && (!Qg)))) = true then (some true) else (if Qc ≥ 0 then (if Qc ≤ 2147483647 then (if Qd ≥ 0 then (if Qd ≤ Qc then (if Qf ≥ (-4294967296) then (some (decide (Qf ≤ 4294967296))) else (some false)) else (some false)) else (some false)) else (some false)) else (some false))) = some r:=h
 clear h
 by_cases c2 : (Qc == 0 && (Qd == 0 && (Qf == 0 && (!Qg)))) = true
 ·rw [if_pos c2] at H
  have c2b0 : (Qc == 0 && (Qd == 0 && (Qf == 0 && (!Qg)))) = true:=c2
  (try (have c2b1 : decide (Qc = 0 && (Qd == 0 && (Qf == 0 && (!Qg)))) = true:=by simpa using c2))
  (try (have c2b2 : (Qc == 0 && (Qd == 0 && (Qf == 0 && (!Qg)))) = true:=by simpa using c2))
  clear c2
  obtain rfl:=Option.some.inj H
  go_enter Try.func22,Try.ntmps22
  go_wp2_with (first|((with_reducible refine gate_dst (N:=1) rfl ?_);refine box_event ?hg (N:=1) ?hd (cs:=#[.int .i64 Qc,.int .i64 Qd,.int .i64 Qf,.bool Qg]) (t:=25) ?hr ?_;(case hd=>rfl);(case hg=>rfl);(case hr=>first|(go_simp;done)|(go_simp;rfl));intro Qb hg w3 hbox hb;have n0_:=ks_ HB hb;have n1_:=Aside0.mk (hbox);have n2_:=Aside0.mk ((by rw [hg];exact (kz_ HB) : w.heap.size ≤ Qb));have n3_:=Aside0.mk ((by rw [hg];exact (kz_ HB) : w.heap.size ≤ Qb));clear HB;have HB:=n0_;have Qa:=n1_;have GW187:=n2_;have Qi:=n3_;clear n0_ n1_ n2_ n3_;clear hb hbox hg;have hcz4_0 : w3.cell? ⟨Qb,0,none⟩ = some (.int .i64 Qc):=(blk_cell Qa.out 0).trans rfl;have hcz4_1 : w3.cell? ⟨Qb,1,none⟩ = some (.int .i64 Qd):=(blk_cell Qa.out 1).trans rfl;have hcz4_2 : w3.cell? ⟨Qb,2,none⟩ = some (.int .i64 Qf):=(blk_cell Qa.out 2).trans rfl;have hcz4_3 : w3.cell? ⟨Qb,3,none⟩ = some (.bool Qg):=(blk_cell Qa.out 3).trans rfl;have hfz4_0:=blk_frozen Qa.out 0;have hfz4_1:=blk_frozen Qa.out 1;have hfz4_2:=blk_frozen Qa.out 2;have hfz4_3:=blk_frozen Qa.out 3))
  go_ret
  exact ⟨by first|rfl|(simp [errW_none,errW_some] <;> rfl)|(simp [*,errW_none,errW_some] <;> rfl),by repeat (first|(with_reducible first|exact HB.out|apply below_alloc|apply pw_below_drewN|apply below_drew1|refine below_set ?_ Qi.out)|exact HB.out)⟩
 ·rw [if_neg c2] at H
  have c2b0 : (Qc == 0 && (Qd == 0 && (Qf == 0 && (!Qg)))) = false:=by simpa using c2
  (try (have c2b1 : decide (Qc = 0 && (Qd == 0 && (Qf == 0 && (!Qg)))) = false:=by simpa using c2))
  (try (have c2b2 : (Qc == 0 && (Qd == 0 && (Qf == 0 && (!Qg)))) = false:=by simpa using c2))
  (try (have c2b3 : ¬ (Qc = 0 && (Qd == 0 && (Qf == 0 && (!Qg)))):=by simpa using c2))
  clear c2
  by_cases c5 : Qc ≥ 0
  ·rw [if_pos c5] at H
   have c5b0 : decide (0 ≤ Qc) = true:=decide_eq_true c5
   clear c5
   by_cases c6 : Qc ≤ 2147483647
   ·rw [if_pos c6] at H
    have c6b0 : decide (Qc ≤ 2147483647) = true:=decide_eq_true c6
    clear c6
    by_cases c7 : Qd ≥ 0
    ·rw [if_pos c7] at H
     have c7b0 : decide (0 ≤ Qd) = true:=decide_eq_true c7
     clear c7
     by_cases c8 : Qd ≤ Qc
     ·rw [if_pos c8] at H
      have c8b0 : decide (Qd ≤ Qc) = true:=decide_eq_true c8
      clear c8
      by_cases c9 : Qf ≥ (-4294967296)
      ·rw [if_pos c9] at H
       have c9b0 : decide ((-4294967296) ≤ Qf) = true:=decide_eq_true c9
       clear c9
       obtain rfl:=Option.some.inj H
       go_enter Try.func22,Try.ntmps22
       go_wp2_with (first|((with_reducible refine gate_dst (N:=1) rfl ?_);refine box_event ?hg (N:=1) ?hd (cs:=#[.int .i64 Qc,.int .i64 Qd,.int .i64 Qf,.bool Qg]) (t:=25) ?hr ?_;(case hd=>rfl);(case hg=>rfl);(case hr=>first|(go_simp;done)|(go_simp;rfl));intro Qb hg w10 hbox hb;have n0_:=ks_ HB hb;have n1_:=Aside0.mk (hbox);have n2_:=Aside0.mk ((by rw [hg];exact (kz_ HB) : w.heap.size ≤ Qb));have n3_:=Aside0.mk ((by rw [hg];exact (kz_ HB) : w.heap.size ≤ Qb));clear HB;have HB:=n0_;have Qa:=n1_;have GW187:=n2_;have Qi:=n3_;clear n0_ n1_ n2_ n3_;clear hb hbox hg;have hcz11_0 : w10.cell? ⟨Qb,0,none⟩ = some (.int .i64 Qc):=(blk_cell Qa.out 0).trans rfl;have hcz11_1 : w10.cell? ⟨Qb,1,none⟩ = some (.int .i64 Qd):=(blk_cell Qa.out 1).trans rfl;have hcz11_2 : w10.cell? ⟨Qb,2,none⟩ = some (.int .i64 Qf):=(blk_cell Qa.out 2).trans rfl;have hcz11_3 : w10.cell? ⟨Qb,3,none⟩ = some (.bool Qg):=(blk_cell Qa.out 3).trans rfl;have hfz11_0:=blk_frozen Qa.out 0;have hfz11_1:=blk_frozen Qa.out 1;have hfz11_2:=blk_frozen Qa.out 2;have hfz11_3:=blk_frozen Qa.out 3))
       go_ret
       exact ⟨by first|rfl|(simp [errW_none,errW_some] <;> rfl)|(simp [*,errW_none,errW_some] <;> rfl),by repeat (first|(with_reducible first|exact HB.out|apply below_alloc|apply pw_below_drewN|apply below_drew1|refine below_set ?_ Qi.out)|exact HB.out)⟩
      ·rw [if_neg c9] at H
       have c9b0 : decide ((-4294967296) ≤ Qf) = false:=decide_eq_false c9
       clear c9
       obtain rfl:=Option.some.inj H
       go_enter Try.func22,Try.ntmps22
       go_wp2_with (first|((with_reducible refine gate_dst (N:=1) rfl ?_);refine box_event ?hg (N:=1) ?hd (cs:=#[.int .i64 Qc,.int .i64 Qd,.int .i64 Qf,.bool Qg]) (t:=25) ?hr ?_;(case hd=>rfl);(case hg=>rfl);(case hr=>first|(go_simp;done)|(go_simp;rfl));intro Qb hg w12 hbox hb;have n0_:=ks_ HB hb;have n1_:=Aside0.mk (hbox);have n2_:=Aside0.mk ((by rw [hg];exact (kz_ HB) : w.heap.size ≤ Qb));have n3_:=Aside0.mk ((by rw [hg];exact (kz_ HB) : w.heap.size ≤ Qb));clear HB;have HB:=n0_;have Qa:=n1_;have GW187:=n2_;have Qi:=n3_;clear n0_ n1_ n2_ n3_;clear hb hbox hg;have hcz13_0 : w12.cell? ⟨Qb,0,none⟩ = some (.int .i64 Qc):=(blk_cell Qa.out 0).trans rfl;have hcz13_1 : w12.cell? ⟨Qb,1,none⟩ = some (.int .i64 Qd):=(blk_cell Qa.out 1).trans rfl;have hcz13_2 : w12.cell? ⟨Qb,2,none⟩ = some (.int .i64 Qf):=(blk_cell Qa.out 2).trans rfl;have hcz13_3 : w12.cell? ⟨Qb,3,none⟩ = some (.bool Qg):=(blk_cell Qa.out 3).trans rfl;have hfz13_0:=blk_frozen Qa.out 0;have hfz13_1:=blk_frozen Qa.out 1;have hfz13_2:=blk_frozen Qa.out 2;have hfz13_3:=blk_frozen Qa.out 3))
       go_ret
       exact ⟨by first|rfl|(simp [errW_none,errW_some] <;> rfl)|(simp [*,errW_none,errW_some] <;> rfl),by repeat (first|(with_reducible first|exact HB.out|apply below_alloc|apply pw_below_drewN|apply below_drew1|refine below_set ?_ Qi.out)|exact HB.out)⟩
     ·rw [if_neg c8] at H
      have c8b0 : decide (Qd ≤ Qc) = false:=decide_eq_false c8
      clear c8
      obtain rfl:=Option.some.inj H
      go_enter Try.func22,Try.ntmps22
      go_wp2_with (first|((with_reducible refine gate_dst (N:=1) rfl ?_);refine box_event ?hg (N:=1) ?hd (cs:=#[.int .i64 Qc,.int .i64 Qd,.int .i64 Qf,.bool Qg]) (t:=25) ?hr ?_;(case hd=>rfl);(case hg=>rfl);(case hr=>first|(go_simp;done)|(go_simp;rfl));intro Qb hg w14 hbox hb;have n0_:=ks_ HB hb;have n1_:=Aside0.mk (hbox);have n2_:=Aside0.mk ((by rw [hg];exact (kz_ HB) : w.heap.size ≤ Qb));have n3_:=Aside0.mk ((by rw [hg];exact (kz_ HB) : w.heap.size ≤ Qb));clear HB;have HB:=n0_;have Qa:=n1_;have GW187:=n2_;have Qi:=n3_;clear n0_ n1_ n2_ n3_;clear hb hbox hg;have hcz15_0 : w14.cell? ⟨Qb,0,none⟩ = some (.int .i64 Qc):=(blk_cell Qa.out 0).trans rfl;have hcz15_1 : w14.cell? ⟨Qb,1,none⟩ = some (.int .i64 Qd):=(blk_cell Qa.out 1).trans rfl;have hcz15_2 : w14.cell? ⟨Qb,2,none⟩ = some (.int .i64 Qf):=(blk_cell Qa.out 2).trans rfl;have hcz15_3 : w14.cell? ⟨Qb,3,none⟩ = some (.bool Qg):=(blk_cell Qa.out 3).trans rfl;have hfz15_0:=blk_frozen Qa.out 0;have hfz15_1:=blk_frozen Qa.out 1;have hfz15_2:=blk_frozen Qa.out 2;have hfz15_3:=blk_frozen Qa.out 3))
      go_ret
      exact ⟨by first|rfl|(simp [errW_none,errW_some] <;> rfl)|(simp [*,errW_none,errW_some] <;> rfl),by repeat (first|(with_reducible first|exact HB.out|apply below_alloc|apply pw_below_drewN|apply below_drew1|refine below_set ?_ Qi.out)|exact HB.out)⟩
    ·rw [if_neg c7] at H
     have c7b0 : decide (0 ≤ Qd) = false:=decide_eq_false c7
     clear c7
     obtain rfl:=Option.some.inj H
     go_enter Try.func22,Try.ntmps22
     go_wp2_with (first|((with_reducible refine gate_dst (N:=1) rfl ?_);refine box_event ?hg (N:=1) ?hd (cs:=#[.int .i64 Qc,.int .i64 Qd,.int .i64 Qf,.bool Qg]) (t:=25) ?hr ?_;(case hd=>rfl);(case hg=>rfl);(case hr=>first|(go_simp;done)|(go_simp;rfl));intro Qb hg w16 hbox hb;have n0_:=ks_ HB hb;have n1_:=Aside0.mk (hbox);have n2_:=Aside0.mk ((by rw [hg];exact (kz_ HB) : w.heap.size ≤ Qb));have n3_:=Aside0.mk ((by rw [hg];exact (kz_ HB) : w.heap.size ≤ Qb));clear HB;have HB:=n0_;have Qa:=n1_;have GW187:=n2_;have Qi:=n3_;clear n0_ n1_ n2_ n3_;clear hb hbox hg;have hcz17_0 : w16.cell? ⟨Qb,0,none⟩ = some (.int .i64 Qc):=(blk_cell Qa.out 0).trans rfl;have hcz17_1 : w16.cell? ⟨Qb,1,none⟩ = some (.int .i64 Qd):=(blk_cell Qa.out 1).trans rfl;have hcz17_2 : w16.cell? ⟨Qb,2,none⟩ = some (.int .i64 Qf):=(blk_cell Qa.out 2).trans rfl;have hcz17_3 : w16.cell? ⟨Qb,3,none⟩ = some (.bool Qg):=(blk_cell Qa.out 3).trans rfl;have hfz17_0:=blk_frozen Qa.out 0;have hfz17_1:=blk_frozen Qa.out 1;have hfz17_2:=blk_frozen Qa.out 2;have hfz17_3:=blk_frozen Qa.out 3))
     go_ret
     exact ⟨by first|rfl|(simp [errW_none,errW_some] <;> rfl)|(simp [*,errW_none,errW_some] <;> rfl),by repeat (first|(with_reducible first|exact HB.out|apply below_alloc|apply pw_below_drewN|apply below_drew1|refine below_set ?_ Qi.out)|exact HB.out)⟩
   ·rw [if_neg c6] at H
    have c6b0 : decide (Qc ≤ 2147483647) = false:=decide_eq_false c6
    clear c6
    obtain rfl:=Option.some.inj H
    go_enter Try.func22,Try.ntmps22
    go_wp2_with (first|((with_reducible refine gate_dst (N:=1) rfl ?_);refine box_event ?hg (N:=1) ?hd (cs:=#[.int .i64 Qc,.int .i64 Qd,.int .i64 Qf,.bool Qg]) (t:=25) ?hr ?_;(case hd=>rfl);(case hg=>rfl);(case hr=>first|(go_simp;done)|(go_simp;rfl));intro Qb hg w18 hbox hb;have n0_:=ks_ HB hb;have n1_:=Aside0.mk (hbox);have n2_:=Aside0.mk ((by rw [hg];exact (kz_ HB) : w.heap.size ≤ Qb));have n3_:=Aside0.mk ((by rw [hg];exact (kz_ HB) : w.heap.size ≤ Qb));clear HB;have HB:=n0_;have Qa:=n1_;have GW187:=n2_;have Qi:=n3_;clear n0_ n1_ n2_ n3_;clear hb hbox hg;have hcz19_0 : w18.cell? ⟨Qb,0,none⟩ = some (.int .i64 Qc):=(blk_cell Qa.out 0).trans rfl;have hcz19_1 : w18.cell? ⟨Qb,1,none⟩ = some (.int .i64 Qd):=(blk_cell Qa.out 1).trans rfl;have hcz19_2 : w18.cell? ⟨Qb,2,none⟩ = some (.int .i64 Qf):=(blk_cell Qa.out 2).trans rfl;have hcz19_3 : w18.cell? ⟨Qb,3,none⟩ = some (.bool Qg):=(blk_cell Qa.out 3).trans rfl;have hfz19_0:=blk_frozen Qa.out 0;have hfz19_1:=blk_frozen Qa.out 1;have hfz19_2:=blk_frozen Qa.out 2;have hfz19_3:=blk_frozen Qa.out 3))
    go_ret
    exact ⟨by first|rfl|(simp [errW_none,errW_some] <;> rfl)|(simp [*,errW_none,errW_some] <;> rfl),by repeat (first|(with_reducible first|exact HB.out|apply below_alloc|apply pw_below_drewN|apply below_drew1|refine below_set ?_ Qi.out)|exact HB.out)⟩
  ·rw [if_neg c5] at H
   have c5b0 : decide (0 ≤ Qc) = false:=decide_eq_false c5
   clear c5
   obtain rfl:=Option.some.inj H
   go_enter Try.func22,Try.ntmps22
   go_wp2_with (first|((with_reducible refine gate_dst (N:=1) rfl ?_);refine box_event ?hg (N:=1) ?hd (cs:=#[.int .i64 Qc,.int .i64 Qd,.int .i64 Qf,.bool Qg]) (t:=25) ?hr ?_;(case hd=>rfl);(case hg=>rfl);(case hr=>first|(go_simp;done)|(go_simp;rfl));intro Qb hg w20 hbox hb;have n0_:=ks_ HB hb;have n1_:=Aside0.mk (hbox);have n2_:=Aside0.mk ((by rw [hg];exact (kz_ HB) : w.heap.size ≤ Qb));have n3_:=Aside0.mk ((by rw [hg];exact (kz_ HB) : w.heap.size ≤ Qb));clear HB;have HB:=n0_;have Qa:=n1_;have GW187:=n2_;have Qi:=n3_;clear n0_ n1_ n2_ n3_;clear hb hbox hg;have hcz21_0 : w20.cell? ⟨Qb,0,none⟩ = some (.int .i64 Qc):=(blk_cell Qa.out 0).trans rfl;have hcz21_1 : w20.cell? ⟨Qb,1,none⟩ = some (.int .i64 Qd):=(blk_cell Qa.out 1).trans rfl;have hcz21_2 : w20.cell? ⟨Qb,2,none⟩ = some (.int .i64 Qf):=(blk_cell Qa.out 2).trans rfl;have hcz21_3 : w20.cell? ⟨Qb,3,none⟩ = some (.bool Qg):=(blk_cell Qa.out 3).trans rfl;have hfz21_0:=blk_frozen Qa.out 0;have hfz21_1:=blk_frozen Qa.out 1;have hfz21_2:=blk_frozen Qa.out 2;have hfz21_3:=blk_frozen Qa.out 3))
   go_ret
   exact ⟨by first|rfl|(simp [errW_none,errW_some] <;> rfl)|(simp [*,errW_none,errW_some] <;> rfl),by repeat (first|(with_reducible first|exact HB.out|apply below_alloc|apply pw_below_drewN|apply below_drew1|refine below_set ?_ Qi.out)|exact HB.out)⟩
end Go.Proofs.Ytnmephdamgofnaa.PA
