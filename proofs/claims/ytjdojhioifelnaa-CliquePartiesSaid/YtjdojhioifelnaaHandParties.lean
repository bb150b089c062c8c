/- What 'vesperslaw19.CliqueParties' computes, by hand. -/
import Derived.Test.YtjdojhioifelnaaPCx2
import Derived.Test.YtjdojhioifelnaaParties1
set_option linter.unusedVariables false
set_option linter.unusedSimpArgs false
namespace Go.Proofs.Ytjdojhioifelnaa.Hand
open Go.RowKit Go.Shelf Go.Proofs.Ytjdojhioifelnaa.Grp Go.Proofs.Ytjdojhioifelnaa.Par Go.Proofs.Ytjdojhioifelnaa.PA Go.Proofs.Ytjdojhioifelnaa.PC Go.Proofs.YtjdojhioifelnaaW.PrintWords Go.Proofs.YtjdojhioifelnaaW.PrintLast Go.Proofs.YtjdojhioifelnaaW.PrintMore
attribute [local go_sem] Oper.semAt_some

theorem nl_ {wp w1 : World} {g g' : Nat} {o : Obj} (h : Aside0 (wp.heap[g]? = some o)) (hg : g' = w1.heap.size) (hs : wp.heap[g]? = some o→w1.heap[g]? = some o:=by (intro h_;repeat (first|(with_reducible exact h_)|(with_reducible refine blk_drewN ?_ _)|(with_reducible refine blk_drew ?_)|(with_reducible refine blk_alloc ?_ _)))) : Aside0 (g ≠ g'):=⟨by rw [hg];exact Nat.ne_of_lt (blk_lt (hs h.out))⟩
theorem ng_ {wp w1 : World} {g g' : Nat} {o : Obj} (h : Aside0 (wp.heap[g]? = some o)) (hg : g' = w1.heap.size) (hs : wp.heap[g]? = some o→w1.heap[g]? = some o:=by (intro h_;repeat (first|(with_reducible exact h_)|(with_reducible refine blk_drewN ?_ _)|(with_reducible refine blk_drew ?_)|(with_reducible refine blk_alloc ?_ _)))) : Aside0 (g' ≠ g):=⟨by rw [hg];exact Nat.ne_of_gt (blk_lt (hs h.out))⟩
theorem kb_ {wp w1 w' : World} {g : Nat} {o : Obj} (h : Aside0 (wp.heap[g]? = some o)) (hb : Below w1.heap.size w1 w') (hs : wp.heap[g]? = some o→w1.heap[g]? = some o:=by (intro h_;repeat (first|(with_reducible exact h_)|(with_reducible refine blk_drewN ?_ _)|(with_reducible refine blk_drew ?_)|(with_reducible refine blk_alloc ?_ _)|(refine blk_far ?_ (Aside0.out (by assumption)) _)))) : Aside0 (w'.heap[g]? = some o):=⟨blk_below (hs h.out) hb⟩
theorem ks_ {w W0 W w2 : World} (h : Aside0 (Below w.heap.size w W0)) (hb : Below W.heap.size W w2) (hs : Below w.heap.size w W0→Below w.heap.size w W:=by (intro h_;repeat (first|(with_reducible first|exact h_|apply below_alloc|apply pw_below_drewN|apply below_drew1|refine below_set ?_ (Aside0.out (by assumption)))|exact h_))) : Aside0 (Below w.heap.size w w2):=⟨below_step (hs h.out) hb⟩
theorem kz_ {w W0 W : World} (h : Aside0 (Below w.heap.size w W0)) (hs : Below w.heap.size w W0→Below w.heap.size w W:=by (intro h_;repeat (first|(with_reducible first|exact h_|apply below_alloc|apply pw_below_drewN|apply below_drew1|refine below_set ?_ (Aside0.out (by assumption)))|exact h_))) : w.heap.size ≤ W.heap.size:=below_size (hs h.out)

theorem rst_ {α : Type} {d : Kd α} {e : Nat} {w : World} {base g t : Nat} {cells : Array Value} {v : Value} {xs : List α} (h : d.R e w base (fun _=>True) v xs) (hb : w.heap[g]? = some (.cells cells t (0,0))) (ht : ∀ q,q ∈ e::d.E→q ≠ t) (j : Nat) (u : Value) : d.R e (w.setCell ⟨g,j,none⟩ u) base (fun _=>True) v xs:=Kd.R_mono (Kd.R_far (Kd.R_types h hb ht) (fun _ hk=>hk.2) u) (fun _ _=>trivial)
theorem bp4_ {w : World} {g t : Nat} (h : w.heap[g]? = some (.cells #[.int .i64 0,.int .u16 0,.int .i64 0,.int .i64 0] t (0,0))) (a b c d : Int) : ((((w.setCell ⟨g,0,none⟩ (.int .i64 a)).setCell ⟨g,1,none⟩ (.int .u16 b)).setCell ⟨g,2,none⟩ (.int .i64 c)).setCell ⟨g,3,none⟩ (.int .i64 d)).heap[g]? = some (.cells #[.int .i64 a,.int .u16 b,.int .i64 c,.int .i64 d] t (0,0)):=by
 refine blk_put (cs:=#[.int .i64 a,.int .u16 b,.int .i64 c,.int .i64 0]) ?_ 3 _ rfl
 refine blk_put (cs:=#[.int .i64 a,.int .u16 b,.int .i64 0,.int .i64 0]) ?_ 2 _ rfl
 refine blk_put (cs:=#[.int .i64 a,.int .u16 0,.int .i64 0,.int .i64 0]) ?_ 1 _ rfl
 exact blk_put (cs:=#[.int .i64 0,.int .u16 0,.int .i64 0,.int .i64 0]) h 0 _ rfl
theorem bf4_ {w : World} {g g' t : Nat} {cs : Array Value} (h : w.heap[g]? = some (.cells cs t (0,0))) (hn : g ≠ g') (a b c d : Value) : ((((w.setCell ⟨g',0,none⟩ a).setCell ⟨g',1,none⟩ b).setCell ⟨g',2,none⟩ c).setCell ⟨g',3,none⟩ d).heap[g]? = some (.cells cs t (0,0)):=blk_far (blk_far (blk_far (blk_far h hn _) hn _) hn _) hn _
theorem rf4_ {α : Type} {d : Kd α} {e : Nat} {w : World} {base g t : Nat} {cells : Array Value} {v : Value} {xs : List α} (h : d.R e w base (fun _=>True) v xs) (hb : w.heap[g]? = some (.cells cells t (0,0))) (ht : ∀ q,q ∈ e::d.E→q ≠ t) (a b c z : Value) : d.R e ((((w.setCell ⟨g,0,none⟩ a).setCell ⟨g,1,none⟩ b).setCell ⟨g,2,none⟩ c).setCell ⟨g,3,none⟩ z) base (fun _=>True) v xs :=
 Kd.R_mono (Kd.R_far (p:=⟨g,3,none⟩) (Kd.R_far (p:=⟨g,2,none⟩) (Kd.R_far (p:=⟨g,1,none⟩) (Kd.R_far (p:=⟨g,0,none⟩) (Kd.R_types h hb ht) (fun _ hk=>hk.2) a) (fun _ hk=>hk.2) b) (fun _ hk=>hk.2) c) (fun _ hk=>hk.2) z) (fun _ _=>trivial)
theorem bit01 {mixed : Int} (hm : 0 ≤ mixed∧mixed ≤ 65535) (i : Nat) : Go.bits .and .i64 (wrap64 (mixed / 2 ^ i)) 1 = 0 ∨ Go.bits .and .i64 (wrap64 (mixed / 2 ^ i)) 1 = 1:=by
 have h0 : 0 ≤ mixed / 2 ^ i:=Int.ediv_nonneg hm.1 (Int.pow_nonneg (by decide))
 have h1 : mixed / 2 ^ i ≤ mixed:=Int.ediv_le_self _ hm.1
 obtain ⟨m,hm2⟩ : ∃ m : Nat,mixed / 2 ^ i = (m : Int):=⟨(mixed / 2 ^ i).toNat,by omega⟩
 rw [hm2] at h0 h1 ⊢
 have hw : wrap64 (m : Int) = (m : Int):=by unfold wrap64;omega
 have hk : ∀ n : Int,0 ≤ n→n < 2 ^ 16→IntKind.i64.wrap n = n:=by
  intro n a b
  simp [IntKind.wrap,IntKind.bits,IntKind.signed]
  omega
 have:=(bits_nat .i64 16 (by decide) hk m 1 (by omega) (by decide)).1
 rw [hw,show (1 : Int) = ((1 : Nat) : Int) from rfl,this,Nat.and_one_is_mod]
 omega
theorem u48 : Try.prog.underlying 48 = some (.array 2 3):=by kernel_rfl
theorem idx48_0 (x y : Int) (w : World) : Sem.run Try.prog (Instr.index 48 (.agg #[.int .i64 x,.int .i64 y]) (.int .i64 0)) w = .ok (.int .i64 x) w:=by
 simp [Instr.index,run_underlying u48,asIntOf,go_sem]
theorem idx48_1 (x y : Int) (w : World) : Sem.run Try.prog (Instr.index 48 (.agg #[.int .i64 x,.int .i64 y]) (.int .i64 1)) w = .ok (.int .i64 y) w:=by
 simp [Instr.index,run_underlying u48,asIntOf,go_sem]
attribute [local go_sem] idx48_0 idx48_1
theorem bq4_ {w : World} {g t : Nat} {p q r s : Value} (h : w.heap[g]? = some (.cells #[p,q,r,s] t (0,0))) (a b c d : Value) : ((((w.setCell ⟨g,0,none⟩ a).setCell ⟨g,1,none⟩ b).setCell ⟨g,2,none⟩ c).setCell ⟨g,3,none⟩ d).heap[g]? = some (.cells #[a,b,c,d] t (0,0)):=by
 refine blk_put (cs:=#[a,b,c,s]) ?_ 3 _ rfl
 refine blk_put (cs:=#[a,b,r,s]) ?_ 2 _ rfl
 refine blk_put (cs:=#[a,q,r,s]) ?_ 1 _ rfl
 exact blk_put (cs:=#[p,q,r,s]) h 0 _ rfl
theorem ne_cells {w : World} {g g' t t' : Nat} {cs cs' : Array Value} (h : w.heap[g]? = some (.cells cs t (0,0))) (h' : w.heap[g']? = some (.cells cs' t' (0,0))) (hn : t ≠ t') : g ≠ g':=by
 rintro rfl
 rw [h] at h'
 injection h' with h'
 injection h' with h1 h2
 exact hn h2
def cliqueParties.T28 : Bool × List (List Nat × List Nat):=(true,[([],[]),([],[]),([],[]),([],[]),([],[]),([3,4],[3,4]),([0,1,2,5,5],[0,1,2,5]),([6],[6]),([7],[7]),([7],[7]),([7],[7]),([7],[7]),([],[]),([],[]),([12,8,6,0,1,2,3,4,5,6,7,8,12,13],[8,12]),([13,9,14,0,1,2,3,4,5,6,7,8,9,12,13,14],[9,13]),([10,15,0,1,2,3,4,5,6,7,8,9,10,12,13,14,15],[10]),([11,16,0,1,2,3,4,5,6,7,8,9,10,11,12,13,14,15,16],[11])])
def cliqueParties.B28 : List Nat:=[0,0,0,0,0,24,63,127,255,255,255,255,0,0,12799,29695,63487,131071]
theorem cliqueParties.tab28 : rtab .any (opsOf Try.f7 28) = cliqueParties.T28:=by kernel_rfl
theorem cliqueParties.bits28 : waitsOk cliqueParties.T28.2 cliqueParties.B28 = true:=by kernel_rfl
def cliqueParties.T31 : Bool × List (List Nat × List Nat):=(true,[([],[]),([],[]),([0,0],[0]),([1,2,0,1,2],[1])])
def cliqueParties.B31 : List Nat:=[0,0,1,7]
theorem cliqueParties.tab31 : rtab .any (opsOf Try.f7 31) = cliqueParties.T31:=by kernel_rfl
theorem cliqueParties.bits31 : waitsOk cliqueParties.T31.2 cliqueParties.B31 = true:=by kernel_rfl
def cliqueParties.T36 : Bool × List (List Nat × List Nat):=(true,[([],[]),([],[]),([],[]),([],[]),([2,3],[2,3]),([1,4],[1,4]),([0,5],[0,5]),([6],[6]),([7],[7]),([8,7,7],[7,8]),([7],[7]),([9,10,7],[7,9,10]),([7,11],[7,11]),([12,9],[12]),([13],[13]),([14,13],[13,14]),([13],[13]),([13],[13]),([16,17,13],[13,16,17]),([18,13],[13,18]),([19,13],[13,19]),([20,13],[13,20]),([15,21,13],[13,15,21]),([13,22],[13,22])])
def cliqueParties.B36 : List Nat:=[0,0,0,0,12,30,63,127,255,511,255,2047,4095,8191,16383,32767,16383,16383,212991,475135,999423,2047999,4194303,8388607]
theorem cliqueParties.tab36 : rtab .any (opsOf Try.f7 36) = cliqueParties.T36:=by kernel_rfl
theorem cliqueParties.bits36 : waitsOk cliqueParties.T36.2 cliqueParties.B36 = true:=by kernel_rfl
set_option maxRecDepth 100000 in
set_option maxHeartbeats 4000000 in
theorem parties_core (one two mixed : Int) (h1 : 0 ≤ one∧one ≤ 255) (h2 : 0 ≤ two∧two ≤ 255) (hm : 0 ≤ mixed∧mixed ≤ 65535) (w : World) :
  Calls Try.prog 7 #[.int .u8 one,.int .u8 two,.int .u16 mixed] w fun e w'=>e = .returned (.bool true)∧Below w.heap.size w w':=by
 have HB:=Aside0.mk (Below.refl w.heap.size w)
 have A1 : vesperslaw19_alive.f = some true:=rfl
 go_enter Try.func7,Try.ntmps7
 go_upto_region 3 with (go_at_call 8;refine (vesperslaw19_alive.calls true _ A1).mono ?_;rintro e w1 ⟨rfl,hb⟩;have n0_:=ks_ HB hb;clear HB;have HB:=n0_;clear n0_ hb)
 generalize hA : 1 + one % 8 = a
 generalize hB_ : 1 + two % 8 = b
 have hab : 1 ≤ a∧a ≤ 8∧1 ≤ b∧b ≤ 8:=by omega
 go_wp2_with (first|((with_reducible refine gate_dst (N:=12) rfl ?_);refine box_event ?hg (N:=12) ?hd (cs:=#[.int .u16 0,.int .u16 0]) (t:=47) ?hr ?_;(case hd=>rfl);(case hg=>rfl);(case hr=>first|(go_simp;done)|(go_simp;rfl));intro g12 hg w2 hbox hb;have n0_:=ks_ HB hb;have n1_:=Aside0.mk hbox;have n2_:=Aside0.mk (by rw [hg];exact kz_ HB : w.heap.size ≤ g12);clear HB;have HB:=n0_;have Qb:=n1_;have GE12:=n2_;clear n0_ n1_ n2_ hb hbox hg)|((with_reducible refine gate_dst (N:=13) rfl ?_);refine box_event ?hg (N:=13) ?hd (cs:=#[.int .i64 0,.int .i64 0]) (t:=48) ?hr ?_;(case hd=>rfl);(case hg=>rfl);(case hr=>first|(go_simp;done)|(go_simp;rfl));intro g13 hg w3 hbox hb;have n0_:=ks_ HB hb;have n1_:=Aside0.mk hbox;have n2_:=Aside0.mk (by rw [hg];exact kz_ HB : w.heap.size ≤ g13);have n3_:=nl_ Qb hg;have n4_:=ng_ Qb hg;have n5_:=kb_ Qb hb;clear HB Qb;have HB:=n0_;have Qd:=n1_;have GE13:=n2_;have NB:=n3_;have NC:=n4_;have Qb:=n5_;clear n0_ n1_ n2_ n3_ n4_ n5_ hb hbox hg;have hcz_0 : w3.cell? ⟨g13,0,none⟩ = some (.int .i64 0):=(blk_cell Qd.out 0).trans rfl;have hcz_1 : w3.cell? ⟨g13,1,none⟩ = some (.int .i64 0):=(blk_cell Qd.out 1).trans rfl;have hfz_0:=blk_frozen Qd.out 0;have hfz_1:=blk_frozen Qd.out 1))
 have hst:=PI.start (a:=a) (b:=b) (by omega) (by omega)
 go_loopg [11,46] (17 : Nat) (fun kq v11 v46 w'=>∃ (i : Nat) (P : List Int) (v0 v1 l0 l1 : Int),v46 = .int .i64 (i : Int)∧Aside0 (PI a b i P v0 v1 l0 l1)∧Aside0 ((i : Int) ≤ a + b∧i + kq = 17)∧Aside0 (Kd.R (Kd.int .i64) 3 w' w.heap.size (fun _=>True) v11 P)∧Aside0 (w'.heap[g12]? = some (.cells #[.int .u16 v0,.int .u16 v1] 47 (0,0)))∧Aside0 (w'.heap[g13]? = some (.cells #[.int .i64 l0,.int .i64 l1] 48 (0,0)))∧Aside0 (Below w.heap.size w w'))
 case atStart=>exact ⟨0,[],0,0,a,b,rfl,⟨hst⟩,⟨by omega,rfl⟩,⟨Kd.R_nil _ _ _ _ _⟩,⟨blk_far (blk_far Qb.out NB.out _) NB.out _⟩,⟨by refine blk_put (cs:=#[.int .i64 a,.int .i64 0]) ?_ 1 _ rfl;refine blk_put (cs:=#[.int .i64 0,.int .i64 0]) ?_ 0 _ rfl;exact Qd.out⟩,⟨below_set (below_set HB.out GE13.out) GE13.out⟩⟩
 case round =>
  clear hcz_0 hcz_1 hfz_0 hfz_1
  obtain ⟨i,P,v0,v1,l0,l1,rfl,HP,HI,HO,Qb,Qd,HB⟩:=hrel
  obtain ⟨k1,rfl⟩ : ∃ k1,gk = k1 + 1:=⟨gk - 1,by have:=HI.out;omega⟩
  by_cases c : (i : Int) < a + b
  ·have cb : decide ((i : Int) < a + b) = true:=decide_eq_true c
   have hi16 : i < 16:=by omega
   go_upto_region 11 with (fail)
   have hsum:=HP.out.sum
   have hn0:=HP.out.n0
   have hn1:=HP.out.n1
   have hq01:=bit01 hm i
   generalize Go.bits .and .i64 (wrap64 (mixed / 2 ^ i)) 1 = q at hq01 ⊢
   have HQ:=Aside0.mk hq01
   clear hq01
   have HSU:=Aside0.mk hsum
   clear hsum
   go_cut [58] (fun v58 wc=>wc = wr∧((q = 0∧v58 = .bool (l0 == 0)) ∨ (q = 1∧v58 = .bool (l1 == 0))))
   case first =>
    have hcz_0 : wr.cell? ⟨g13,0,none⟩ = some (.int .i64 l0):=(blk_cell Qd.out 0).trans rfl
    have hcz_1 : wr.cell? ⟨g13,1,none⟩ = some (.int .i64 l1):=(blk_cell Qd.out 1).trans rfl
    rcases HQ.out with rfl|rfl
    ·go_wp2
     go_meet
     case rel=>exact ⟨by first|rfl|trivial,.inl ⟨by first|rfl|trivial,rfl⟩⟩
    ·go_wp2
     go_meet
     case rel=>exact ⟨by first|rfl|trivial,.inr ⟨by first|rfl|trivial,rfl⟩⟩
   case rest =>
   obtain ⟨rfl,hv58⟩:=hcut
   go_upto_if 58 with (fail)
   go_cut [15] (fun v15 wd=>wd = wc∧((v15 = .int .i64 0∧l0 ≠ 0) ∨ (v15 = .int .i64 1∧l1 ≠ 0)))
   case first =>
    rcases hv58 with ⟨rfl,rfl⟩|⟨rfl,rfl⟩
    ·by_cases hl : l0 = 0
     ·have hlb : (l0 == 0) = true:=beq_iff_eq.mpr hl
      rw [hlb]
      go_wp2
      go_meet
      case rel=>exact ⟨by first|rfl|trivial,.inr ⟨rfl,by have:=HSU.out;omega⟩⟩
     ·have hlb : (l0 == 0) = false:=beq_eq_false_iff_ne.mpr hl
      rw [hlb]
      go_wp2
      go_meet
      case rel=>exact ⟨by first|rfl|trivial,.inl ⟨rfl,hl⟩⟩
    ·by_cases hl : l1 = 0
     ·have hlb : (l1 == 0) = true:=beq_iff_eq.mpr hl
      rw [hlb]
      go_wp2
      go_meet
      case rel=>exact ⟨by first|rfl|trivial,.inl ⟨rfl,by have:=HSU.out;omega⟩⟩
     ·have hlb : (l1 == 0) = false:=beq_eq_false_iff_ne.mpr hl
      rw [hlb]
      go_wp2
      go_meet
      case rel=>exact ⟨by first|rfl|trivial,.inr ⟨rfl,hl⟩⟩
   case rest =>
    obtain ⟨rfl,hv15⟩:=hcut
    have HPo:=HP
    have hcz_0 : wc.cell? ⟨g13,0,none⟩ = some (.int .i64 l0):=(blk_cell Qd.out 0).trans rfl
    have hcz_1 : wc.cell? ⟨g13,1,none⟩ = some (.int .i64 l1):=(blk_cell Qd.out 1).trans rfl
    have hfz_0:=blk_frozen Qd.out 0
    have hfz_1:=blk_frozen Qd.out 1
    have hlen:=HP.out.len
    have hln0:=HP.out.n0
    have hln1:=HP.out.n1
    have hlc0:=HP.out.c0
    have hlc1:=HP.out.c1
    have hcn0:=cn_nonneg P 0
    have hcn1:=cn_nonneg P 1
    have hl16 : l0 ≤ 8∧l1 ≤ 8:=by omega
    have HLEN:=Aside0.mk hlen
    clear hlen hlc0 hlc1 hcn0 hcn1
    rcases hv15 with ⟨rfl,hne⟩|⟨rfl,hne⟩
    ·have h0 : (0 : Int) ≤ l0 - 1∧l0 - 1 ≤ 8:=by omega
     go_wp2_with (first|((with_reducible refine gate_builtin (b:=.append) (xs:=#[.tmp 66,.tmp 68]) rfl ?_);at_builtin;refine Kd.R_append (Kd.int .i64) (w0:=w) w.heap.size rfl (.tmp 66) (.tmp 68) 24 3 (.int .i64 0) 8 rfl Try.underlying24 Go.Proofs.Ytjdojhioifelnaa.PA.info3 rfl (by decide) (by omega) u11 P 0 [.int .i64 0] (fun _=>True) (fun _=>False) rfl ?aX ?aP (fun _ hk=>hk.elim) ?aF ?aO ?aB ?aS ?aL ?_;(case aX=>first|rfl|(go_simp;done)|(go_simp;rfl)|(simp;done));(case aP=>exact rfl);(case aB=>exact below_set HB.out GE13.out);(case aF=>exact (fun _ _=>trivial));(case aO=>exact rst_ HO.out Qd.out (by decide) _ _);(case aS=>exact kz_ HB);(case aL=>have:=HLEN.out;omega);intro v69 w69 ho hb hg hat;have n0_:=Aside0.mk hb;have n1_:=Aside0.mk ho;have n2_:=Aside0.mk (blk_grown (blk_far Qb.out NB.out _) hg (Kd.R_ne HO.out Qb.out (by decide)));have n3_:=Aside0.mk (blk_grown (blk_put (cs:=#[.int .i64 l0,.int .i64 l1]) Qd.out 0 _ rfl) hg (Kd.R_ne HO.out Qd.out (by decide)));clear HB HO Qb Qd ho hb hg hat hcz_0 hcz_1 hfz_0 hfz_1;have HB:=n0_;have HO:=n1_;have Qb:=n2_;have Qd:=n3_;clear n0_ n1_ n2_ n3_;have hcz_0 : w69.cell? ⟨g12,0,none⟩ = some (.int .u16 v0):=(blk_cell Qb.out 0).trans rfl;have hcz_1 : w69.cell? ⟨g12,1,none⟩ = some (.int .u16 v1):=(blk_cell Qb.out 1).trans rfl;have hfz_0:=blk_frozen Qb.out 0;have hfz_1:=blk_frozen Qb.out 1)|(go_at_call 18;refine (with_core v0 (i : Int) _).mono ?_;rintro e w' ⟨rfl,rfl⟩))
     go_roundg k1
     case measure=>omega
     case rel=>exact ⟨i + 1,P++[0],withG v0 (i : Int),v1,l0 - 1,l1,by first|rfl|(simp;done),⟨HP.out.step0 hi16 hne⟩,⟨by have:=HI.out;omega⟩,⟨rst_ HO.out Qb.out (by decide) _ _⟩,⟨blk_put (cs:=#[.int .u16 v0,.int .u16 v1]) Qb.out 0 _ rfl⟩,⟨blk_far Qd.out NC.out _⟩,⟨below_set HB.out GE12.out⟩⟩
    ·have h0 : (0 : Int) ≤ l1 - 1∧l1 - 1 ≤ 8:=by omega
     go_wp2_with (first|((with_reducible refine gate_builtin (b:=.append) (xs:=#[.tmp 66,.tmp 68]) rfl ?_);at_builtin;refine Kd.R_append (Kd.int .i64) (w0:=w) w.heap.size rfl (.tmp 66) (.tmp 68) 24 3 (.int .i64 0) 8 rfl Try.underlying24 Go.Proofs.Ytjdojhioifelnaa.PA.info3 rfl (by decide) (by omega) u11 P 1 [.int .i64 1] (fun _=>True) (fun _=>False) rfl ?aX ?aP (fun _ hk=>hk.elim) ?aF ?aO ?aB ?aS ?aL ?_;(case aX=>first|rfl|(go_simp;done)|(go_simp;rfl)|(simp;done));(case aP=>exact rfl);(case aB=>exact below_set HB.out GE13.out);(case aF=>exact (fun _ _=>trivial));(case aO=>exact rst_ HO.out Qd.out (by decide) _ _);(case aS=>exact kz_ HB);(case aL=>have:=HLEN.out;omega);intro v69 w69 ho hb hg hat;have n0_:=Aside0.mk hb;have n1_:=Aside0.mk ho;have n2_:=Aside0.mk (blk_grown (blk_far Qb.out NB.out _) hg (Kd.R_ne HO.out Qb.out (by decide)));have n3_:=Aside0.mk (blk_grown (blk_put (cs:=#[.int .i64 l0,.int .i64 l1]) Qd.out 1 _ rfl) hg (Kd.R_ne HO.out Qd.out (by decide)));clear HB HO Qb Qd ho hb hg hat hcz_0 hcz_1 hfz_0 hfz_1;have HB:=n0_;have HO:=n1_;have Qb:=n2_;have Qd:=n3_;clear n0_ n1_ n2_ n3_;have hcz_0 : w69.cell? ⟨g12,0,none⟩ = some (.int .u16 v0):=(blk_cell Qb.out 0).trans rfl;have hcz_1 : w69.cell? ⟨g12,1,none⟩ = some (.int .u16 v1):=(blk_cell Qb.out 1).trans rfl;have hfz_0:=blk_frozen Qb.out 0;have hfz_1:=blk_frozen Qb.out 1)|(go_at_call 18;refine (with_core v1 (i : Int) _).mono ?_;rintro e w' ⟨rfl,rfl⟩))
     go_roundg k1
     case measure=>omega
     case rel=>exact ⟨i + 1,P++[1],v0,withG v1 (i : Int),l0,l1 - 1,by first|rfl|(simp;done),⟨HP.out.step1 hi16 hne⟩,⟨by have:=HI.out;omega⟩,⟨rst_ HO.out Qb.out (by decide) _ _⟩,⟨blk_put (cs:=#[.int .u16 v0,.int .u16 v1]) Qb.out 1 _ rfl⟩,⟨blk_far Qd.out NC.out _⟩,⟨below_set HB.out GE12.out⟩⟩
  ·have cb : decide ((i : Int) < a + b) = false:=decide_eq_false c
   have hi : (i : Int) = a + b:=by have:=HI.out;omega
   have hP : P.length = i:=HP.out.len
   subst hP
   have hs : l0 + l1 = 0:=by have:=HP.out.sum;omega
   go_upto_region 18 with (fail)
   obtain ⟨Ao,co,eo⟩:=Kd.R_slice HO.out
   subst eo
   have HPI:=HP
   go_loopg [79] (17 : Nat) (fun kq v79 w'=>∃ (j : Nat),v79 = .int .i64 (j : Int)∧Aside0 ((j : Int) ≤ a + b∧j + kq = 17)∧Aside0 (Kd.R (Kd.int .i64) 3 w' w.heap.size (fun _=>True) (.slice Ao P.length co) P)∧Aside0 (w'.heap[g12]? = some (.cells #[.int .u16 v0,.int .u16 v1] 47 (0,0)))∧Aside0 (Below w.heap.size w w'))
   case atStart=>exact ⟨0,rfl,⟨by omega,rfl⟩,HO,Qb,HB⟩
   case round =>
    clear HO Qb Qd HB
    obtain ⟨j,rfl,HJ,HO,Qb,HB⟩:=hrel
    obtain ⟨k2,rfl⟩ : ∃ k2,gk = k2 + 1:=⟨gk - 1,by have:=HJ.out;omega⟩
    by_cases c2 : (j : Int) < a + b
    ·have cb2 : decide ((j : Int) < a + b) = true:=decide_eq_true c2
     have hjP : j < P.length:=by omega
     have p85 : 0 ≤ (j : Int):=by omega
     have q85 : (j : Int) < (P.length : Int):=by omega
     obtain ⟨ad85,e85,hx85_0⟩:=Kd.at_int (Kd.R_reads' HO.out).2.2 (j : Int) p85 q85
     cases e85
     rw [Int.toNat_natCast] at hx85_0
     replace p85:=eq_true p85
     replace q85:=eq_true q85
     have hcz_0 : wr.cell? ⟨g12,0,none⟩ = some (.int .u16 v0):=(blk_cell Qb.out 0).trans rfl
     have hcz_1 : wr.cell? ⟨g12,1,none⟩ = some (.int .u16 v1):=(blk_cell Qb.out 1).trans rfl
     have hx01 : rd P (j : Int) = 0 ∨ rd P (j : Int) = 1:=rd01 HPI.out hjP
     rcases hx01 with hx|hx
     ·rw [hx] at hx85_0
      go_wp2_with (first|((with_reducible refine gate_dst (N:=17) rfl ?_);refine box_event ?hg (N:=17) ?hd (cs:=#[.int .i64 0,.int .u16 0,.int .i64 0,.int .i64 0]) (t:=34) ?hr ?_;(case hd=>rfl);(case hg=>rfl);(case hr=>first|(go_simp;done)|(go_simp;rfl));intro g17 hg w17 hbox hb;have n0_:=ks_ HB hb;have n1_:=Aside0.mk hbox;have n2_:=Aside0.mk (by rw [hg];exact kz_ HB : w.heap.size ≤ g17);have n3_:=nl_ Qb hg;have n4_:=ng_ Qb hg;have n5_:=kb_ Qb hb;have n6_:=Aside0.mk (Kd.R_below HO.out hb);clear HB Qb HO hcz_0 hcz_1;have HB:=n0_;have Qa:=n1_;have Qe:=n2_;have NB17:=n3_;have NC17:=n4_;have Qb:=n5_;have HO:=n6_;clear n0_ n1_ n2_ n3_ n4_ n5_ n6_ hb hbox hg;have hcz_0 : w17.cell? ⟨g17,0,none⟩ = some (.int .i64 0):=(blk_cell Qa.out 0).trans rfl;have hcz_1 : w17.cell? ⟨g17,1,none⟩ = some (.int .u16 0):=(blk_cell Qa.out 1).trans rfl;have hcz_2 : w17.cell? ⟨g17,2,none⟩ = some (.int .i64 0):=(blk_cell Qa.out 2).trans rfl;have hcz_3 : w17.cell? ⟨g17,3,none⟩ = some (.int .i64 0):=(blk_cell Qa.out 3).trans rfl;have hfz_0:=blk_frozen Qa.out 0;have hfz_1:=blk_frozen Qa.out 1;have hfz_2:=blk_frozen Qa.out 2;have hfz_3:=blk_frozen Qa.out 3)|(go_at_call 15;(with_reducible refine (clique_Sent.calls 1 0 _ rfl).mono ?_);rintro e w21 ⟨rfl,hb⟩;have n0_:=ks_ HB hb;have n1_:=Aside0.mk (blk_below (bp4_ Qa.out (j : Int) v0 0 0) hb);have n2_:=Aside0.mk (blk_below (bf4_ Qb.out NB17.out (.int .i64 (j : Int)) (.int .u16 v0) (.int .i64 0) (.int .i64 0)) hb);have n3_:=Aside0.mk (Kd.R_below (rf4_ HO.out Qa.out (by decide) (.int .i64 (j : Int)) (.int .u16 v0) (.int .i64 0) (.int .i64 0)) hb);clear HB Qa Qb HO hcz_0 hcz_1 hcz_2 hcz_3 hfz_0 hfz_1 hfz_2 hfz_3;have HB:=n0_;have Qa:=n1_;have Qb:=n2_;have HO:=n3_;clear n0_ n1_ n2_ n3_ hb)|((with_reducible refine gate_dst (N:=18) rfl ?_);refine box_event ?hg (N:=18) ?hd (cs:=#[.int .i64 0,.int .i64 0]) (t:=23) ?hr ?_;(case hd=>rfl);(case hg=>rfl);(case hr=>first|(go_simp;done)|(go_simp;rfl));intro g18 hg w18 hbox hb;have n0_:=ks_ HB hb;have n1_:=Aside0.mk hbox;have n2_:=Aside0.mk (by rw [hg];exact kz_ HB : w.heap.size ≤ g18);have n3_:=nl_ Qb hg;have n4_:=ng_ Qb hg;have n5_:=kb_ Qb hb;have n6_:=Aside0.mk (Kd.R_below HO.out hb);have n7_:=nl_ Qa hg;have n8_:=ng_ Qa hg;have n9_:=kb_ Qa hb;clear HB Qb HO Qa;have HB:=n0_;have Qc:=n1_;have Qf:=n2_;have NB18:=n3_;have NC18:=n4_;have Qb:=n5_;have HO:=n6_;have ND:=n7_;have NE:=n8_;have Qa:=n9_;clear n0_ n1_ n2_ n3_ n4_ n5_ n6_ n7_ n8_ n9_ hb hbox hg;have hcz_0 : w18.cell? ⟨g18,0,none⟩ = some (.int .i64 0):=(blk_cell Qc.out 0).trans rfl;have hcz_1 : w18.cell? ⟨g18,1,none⟩ = some (.int .i64 0):=(blk_cell Qc.out 1).trans rfl;have hfz_0:=blk_frozen Qc.out 0;have hfz_1:=blk_frozen Qc.out 1))
      have hx9 : P.getD j 9 = 0:=by rw [getD_rd hjP];exact hx
      have hT1 : T P j 0 1 = 1:=T_one hjP hx9
      go_loopg [19] (17 : Nat) (fun kq v19 w'=>∃ (k : Nat),v19 = .int .i64 (k : Int)∧Aside0 (1 ≤ k∧(k : Int) ≤ a + b∧k + kq = 18)∧Aside0 (Kd.R (Kd.int .i64) 3 w' w.heap.size (fun _=>True) (.slice (some ad85) P.length co) P)∧Aside0 (w'.heap[g12]? = some (.cells #[.int .u16 v0,.int .u16 v1] 47 (0,0)))∧Aside0 (w'.heap[g17]? = some (.cells #[.int .i64 (j : Int),.int .u16 v0,.int .i64 0,.int .i64 0] 34 (0,0)))∧Aside0 (w'.heap[g18]? = some (.cells #[.int .i64 (T P j 0 k),.int .i64 ((k : Int) - T P j 0 k)] 23 (0,0)))∧Aside0 (Below w.heap.size w w'))
      case atStart=>exact ⟨1,rfl,⟨by omega⟩,⟨rst_ (rst_ HO.out Qc.out (by decide) 0 _) (blk_put (cs:=#[.int .i64 0,.int .i64 0]) Qc.out 0 _ rfl) (by decide) 1 _⟩,⟨blk_far (blk_far Qb.out NB18.out _) NB18.out _⟩,⟨blk_far (blk_far Qa.out ND.out _) ND.out _⟩,⟨by rw [hT1];refine blk_put (cs:=#[.int .i64 1,.int .i64 0]) ?_ 1 _ rfl;refine blk_put (cs:=#[.int .i64 0,.int .i64 0]) ?_ 0 _ rfl;exact Qc.out⟩,⟨below_set (below_set HB.out Qf.out) Qf.out⟩⟩
      case round =>
       clear HO Qb Qa Qc HB hcz_0 hcz_1 hfz_0 hfz_1
       obtain ⟨k,rfl,HK,HO,Qb,Qa,Qc,HB⟩:=hrel
       obtain ⟨k3,rfl⟩ : ∃ k3,gk = k3 + 1:=⟨gk - 1,by have:=HK.out;omega⟩
       by_cases c3 : (k : Int) < a + b
       ·have cb3 : decide ((k : Int) < a + b) = true:=decide_eq_true c3
        have hn0 : (a + b == 0) = false:=beq_eq_false_iff_ne.mpr (by omega)
        have hnz : ¬ (a + b = 0):=by omega
        go_upto_region 26 with (fail)
        have hk1 : 1 ≤ k:=by have:=HK.out;omega
        have hkP : k < P.length:=by omega
        have hPp : 0 < P.length:=by omega
        have hP16 : P.length ≤ 16:=by omega
        obtain ⟨m,hmn,hmj,hnode⟩ : ∃ m : Nat,m < P.length∧m ≠ j∧m = (j + k) % P.length:=⟨_,Nat.mod_lt _ hPp,rot_ne hjP hk1 hkP,rfl⟩
        rw [node_emod P.length j k (a + b) hi,← hnode]
        have HNODE:=Aside0.mk hnode
        clear hnode
        have hlk : vector_Looks.f (j : Int) v0 0 0 (m : Int) = some ([withG v0 (m : Int)],0):=look_eq v0 (by omega) (by omega) hmj
        have hcz_0 : wr.cell? ⟨g17,0,none⟩ = some (.int .i64 (j : Int)):=(blk_cell Qa.out 0).trans rfl
        have hcz_1 : wr.cell? ⟨g17,1,none⟩ = some (.int .u16 v0):=(blk_cell Qa.out 1).trans rfl
        have hcz_2 : wr.cell? ⟨g17,2,none⟩ = some (.int .i64 0):=(blk_cell Qa.out 2).trans rfl
        have hcz_3 : wr.cell? ⟨g17,3,none⟩ = some (.int .i64 0):=(blk_cell Qa.out 3).trans rfl
        go_upto_region 27 with (go_at_call 19;refine (vector_Looks.calls (j : Int) v0 0 0 (m : Int) _ _ _ hlk).mono ?_;rintro e w26 ⟨v26,rfl,ho26,hb⟩;have n0_:=Aside0.mk (Kd.R_lower ho26 (kz_ HB));have n1_:=kb_ Qb hb;have n2_:=kb_ Qa hb;have n3_:=kb_ Qc hb;have n4_:=Aside0.mk (Kd.R_below HO.out hb);have n5_:=ks_ HB hb;clear HB Qb Qa Qc HO hcz_0 hcz_1 hcz_2 hcz_3;have HL:=n0_;have Qb:=n1_;have Qa:=n2_;have Qc:=n3_;have HO:=n4_;have HB:=n5_;clear n0_ n1_ n2_ n3_ n4_ n5_ hb ho26)
        obtain ⟨Al,cl,el⟩:=Kd.R_slice HL.out
        subst el
        have p108 : 0 ≤ (m : Int):=by omega
        have q108 : (m : Int) < (P.length : Int):=by omega
        obtain ⟨ad108,e108,hx108_0⟩:=Kd.at_int (Kd.R_reads' HO.out).2.2 (m : Int) p108 q108
        cases e108
        rw [Int.toNat_natCast] at hx108_0
        replace p108:=eq_true p108
        replace q108:=eq_true q108
        have hcz_0 : w26.cell? ⟨g12,0,none⟩ = some (.int .u16 v0):=(blk_cell Qb.out 0).trans rfl
        have hcz_1 : w26.cell? ⟨g12,1,none⟩ = some (.int .u16 v1):=(blk_cell Qb.out 1).trans rfl
        rcases rd01 HPI.out hmn with hy|hy
        ·rw [hy] at hx108_0
         go_upto_region 28 with (fail)
         have hTb:=T_bounds P j 0 k
         have hA : 0 ≤ (T P j 0 k)∧(T P j 0 k) ≤ 100:=by omega
         have hF : 0 ≤ ((k : Int) - T P j 0 k)∧((k : Int) - T P j 0 k) ≤ 100:=by omega
         have hjb : tb v0 j = true:=own_bit HPI.out.b0 hjP hP16 hx
         have hwv : withG v0 (m : Int) = v0:=with_same HPI.out.g0 (by omega) (own_bit HPI.out.b0 hmn hP16 hy)
         have HRES : Aside0 (vector_Result.f [withG v0 (m : Int)] v0 = some 2):=⟨by rw [hwv];exact result_same v0⟩
         have HFOL:=Aside0.mk (follow_same (j:=j) (m:=m) (A:=(T P j 0 k)) (F:=((k : Int) - T P j 0 k)) (by omega) (by omega) hmj hwv hA hF)
         clear hcz_0 hcz_1
         try clear hcz_2 hcz_3
         have n0_:=Aside0.mk (blk_drew Qb.out);have n1_:=Aside0.mk (blk_drew Qa.out);have n2_:=Aside0.mk (blk_drew Qc.out);have n3_:=Aside0.mk (Kd.R_drew HO.out);have n4_:=Aside0.mk (Kd.R_drew HL.out);have n5_:=Aside0.mk (below_drew1 HB.out);clear Qb Qa Qc HO HL HB;have Qb:=n0_;have Qa:=n1_;have Qc:=n2_;have HO:=n3_;have HL:=n4_;have HB:=n5_;clear n0_ n1_ n2_ n3_ n4_ n5_
         as_aux_lemma =>
          refine start_ (n:=18) (S:=fun w'=>True) (ds:=[]) #[false,false,false,false,false,false,false,false,false,false,false,false,false,false,false,false,false,false] (by kernel_rfl) rfl rfl trivial (fun hHeld=>?_)
          refine with_tabW cliqueParties.tab28 cliqueParties.bits28 (fun HT_ HW_=>?_)
          generalize w26.drew = w27 at Qb Qa Qc HO HL HB ⊢
          refine pure_ (i:=2) (N:=some 116) (v:=?_) (a':=?_) #[false,false,true,false,false,false,false,false,false,false,false,false,false,false,false,false,false,false] rfl rfl (any_of HT_.out (by kernel_rfl)) (fun _ _ _ h=>h) (Or.inl ⟨by rfl,?_⟩) ?_ ?_
          rotate_left
          ·intro w'
           go_simp
           with_reducible rfl
          rotate_left
          ·simp only [Act.put,List.setIfInBounds_toArray,List.set_cons_zero,List.set_cons_succ,i64_w,i32_w]
           rfl
          refine pure_ (i:=3) (N:=some 117) (v:=?_) (a':=?_) #[false,false,true,true,false,false,false,false,false,false,false,false,false,false,false,false,false,false] rfl rfl (any_of HT_.out (by kernel_rfl)) (fun _ _ _ h=>h) (Or.inl ⟨by rfl,?_⟩) ?_ ?_
          rotate_left
          ·intro w'
           go_simp
           with_reducible rfl
          rotate_left
          ·simp only [Act.put,List.setIfInBounds_toArray,List.set_cons_zero,List.set_cons_succ,i64_w,i32_w]
           rfl
          refine pure_ (i:=4) (N:=some 118) (v:=?_) (a':=?_) #[false,false,true,true,true,false,false,false,false,false,false,false,false,false,false,false,false,false] rfl rfl (any_of HT_.out (by kernel_rfl)) (fun _ _ _ h=>h) (Or.inl ⟨by rfl,?_⟩) ?_ ?_
          rotate_left
          ·intro w'
           go_simp
           with_reducible rfl
          rotate_left
          ·simp only [Act.put,List.setIfInBounds_toArray,List.set_cons_zero,List.set_cons_succ,i64_w,i32_w]
           rfl
          refine inv_at [0,1,5,6,7,8,9,10,11,12,13,14,15,16,17] (fun a0_ b a w'=>∃ (g24_ : Nat) (g25_ : Nat) (m12_ : Value) (m13_ : Value),a = putSel a0_ b [(0,114,.agg #[.int .i64 (j : Int),.int .u16 v0,.int .i64 0,.int .i64 0]),(1,115,.agg #[.int .i64 (T P j 0 k),.int .i64 ((k : Int) - T P j 0 k)]),(5,119,.int .i64 2),(6,120,.tuple #[.agg #[.int .i64 (j : Int),.int .u16 v0,.int .i64 0,.int .i64 0],.agg #[.int .i64 ((T P j 0 k) + 1),.int .i64 ((k : Int) - T P j 0 k)],.int .i64 1,.int .i64 0]),(7,113,.tuple #[.agg #[.int .i64 (j : Int),.int .u16 v0,.int .i64 0,.int .i64 0],.agg #[.int .i64 ((T P j 0 k) + 1),.int .i64 ((k : Int) - T P j 0 k)],.int .i64 1,.int .i64 0]),(8,121,.agg #[.int .i64 (j : Int),.int .u16 v0,.int .i64 0,.int .i64 0]),(9,122,.agg #[.int .i64 ((T P j 0 k) + 1),.int .i64 ((k : Int) - T P j 0 k)]),(10,123,.int .i64 1),(11,124,.int .i64 0),(12,24,m12_),(13,25,m13_),(16,26,.int .i64 1),(17,27,.int .i64 0)]∧(w'.heap[g12]? = some (.cells #[.int .u16 v0,.int .u16 v1] 47 (0,0)))∧(w'.heap[g17]? = some (.cells #[.int .i64 (j : Int),.int .u16 v0,.int .i64 0,.int .i64 0] 34 (0,0)))∧(w'.heap[g18]? = some (.cells #[.int .i64 (T P j 0 k),.int .i64 ((k : Int) - T P j 0 k)] 23 (0,0)))∧(Kd.R (Kd.int .i64) 3 w' w.heap.size (fun _=>True) (.slice (some ad85) P.length co) P)∧(Kd.R (Kd.int .u16) 32 w' w.heap.size (fun _=>True) (.slice Al [withG v0 (m : Int)].length cl) [withG v0 (m : Int)])∧(Below w.heap.size w w')∧(b 12 = true→b 14 = false→w'.heap[g24_]? = some (.cells #[.int .i64 0,.int .u16 0,.int .i64 0,.int .i64 0] 34 (0,0)))∧(b 14 = true→w'.heap[g24_]? = some (.cells #[.int .i64 (j : Int),.int .u16 v0,.int .i64 0,.int .i64 0] 34 (0,0)))∧(b 13 = true→b 15 = false→w'.heap[g25_]? = some (.cells #[.int .i64 0,.int .i64 0] 23 (0,0)))∧(b 15 = true→w'.heap[g25_]? = some (.cells #[.int .i64 ((T P j 0 k) + 1),.int .i64 ((k : Int) - T P j 0 k)] 23 (0,0)))∧(b 12 = true→w.heap.size ≤ g24_)∧(b 13 = true→w.heap.size ≤ g25_)∧(b 12 = true→g12 ≠ g24_∧g17 ≠ g24_∧g18 ≠ g24_)∧(b 13 = true→g12 ≠ g25_∧g17 ≠ g25_∧g18 ≠ g25_)∧(b 12 = true→(m12_ : Value) = .pointer (some ⟨g24_,0,none⟩))∧(b 13 = true→(m13_ : Value) = .pointer (some ⟨g25_,0,none⟩))) HT_.out HW_.out (by kernel_rfl) (by kernel_rfl) ?_ ?_ ?_
          ·exact ⟨0,0,.bool false,.bool false,by simp only [putSel,Bool.false_eq_true,if_false],Qb.out,Qa.out,Qc.out,HO.out,HL.out,HB.out,fun h_=>absurd h_ (by decide),fun h_=>absurd h_ (by decide),fun h_=>absurd h_ (by decide),fun h_=>absurd h_ (by decide),fun h_=>absurd h_ (by decide),fun h_=>absurd h_ (by decide),fun h_=>absurd h_ (by decide),fun h_=>absurd h_ (by decide),fun h_=>absurd h_ (by decide),fun h_=>absurd h_ (by decide)⟩
          ·skip
           clear Qb Qa Qc HB HL HO
           refine steps_cons ?_ ?_
           ·rintro b a w' ⟨g24_,g25_,m12_,m13_,ha,Q_BK12,Q_BK17,Q_BK18,Q_HO,Q_HL,Q_HB,Q_B24,Q_C24,Q_B25,Q_C25,Q_E24,Q_E25,Q_N24,Q_N25,Q_X12_,Q_X13_⟩ hb_ hon hoff
            refine ⟨_,rfl,fun K hK=>?_⟩
            have e17 : a.tmps[17]? = some (.pointer (some ⟨g17,0,none⟩)):=by rw [ha];exact (putSel_off rfl).trans rfl
            replace ha:=Aside0.mk ha
            have Qb:=Aside0.mk Q_BK12
            have Qa:=Aside0.mk Q_BK17
            have Qc:=Aside0.mk Q_BK18
            have HO:=Aside0.mk Q_HO
            have HL:=Aside0.mk Q_HL
            have HB:=Aside0.mk Q_HB
            have hc0_ : w'.cell? ⟨g17,0,none⟩ = some (.int .i64 (j : Int)):=(blk_cell Qa.out 0).trans rfl
            have hc1_ : w'.cell? ⟨g17,1,none⟩ = some (.int .u16 v0):=(blk_cell Qa.out 1).trans rfl
            have hc2_ : w'.cell? ⟨g17,2,none⟩ = some (.int .i64 0):=(blk_cell Qa.out 2).trans rfl
            have hc3_ : w'.cell? ⟨g17,3,none⟩ = some (.int .i64 0):=(blk_cell Qa.out 3).trans rfl
            refine value_ (w1:=w') (v:=.agg #[.int .i64 (j : Int),.int .u16 v0,.int .i64 0,.int .i64 0]) (by rfl) rfl ?_ ?_
            ·go_simp
             (try simp only [i64_w])
             try rfl
            refine hK.out _ _ ⟨g24_,g25_,m12_,m13_,(by rw [ha.out];exact putSel_upk 0 hb_ rfl rfl rfl),Q_BK12,Q_BK17,Q_BK18,Q_HO,Q_HL,Q_HB,Q_B24,fun h0_=>absurd ((hoff 14 (by kernel_rfl)).symm.trans h0_) (by decide),Q_B25,fun h0_=>absurd ((hoff 15 (by kernel_rfl)).symm.trans h0_) (by decide),Q_E24,Q_E25,Q_N24,Q_N25,Q_X12_,Q_X13_⟩
           refine steps_cons ?_ ?_
           ·rintro b a w' ⟨g24_,g25_,m12_,m13_,ha,Q_BK12,Q_BK17,Q_BK18,Q_HO,Q_HL,Q_HB,Q_B24,Q_C24,Q_B25,Q_C25,Q_E24,Q_E25,Q_N24,Q_N25,Q_X12_,Q_X13_⟩ hb_ hon hoff
            refine ⟨_,rfl,fun K hK=>?_⟩
            have e18 : a.tmps[18]? = some (.pointer (some ⟨g18,0,none⟩)):=by rw [ha];exact (putSel_off rfl).trans rfl
            replace ha:=Aside0.mk ha
            have Qb:=Aside0.mk Q_BK12
            have Qa:=Aside0.mk Q_BK17
            have Qc:=Aside0.mk Q_BK18
            have HO:=Aside0.mk Q_HO
            have HL:=Aside0.mk Q_HL
            have HB:=Aside0.mk Q_HB
            have hc0_ : w'.cell? ⟨g18,0,none⟩ = some (.int .i64 (T P j 0 k)):=(blk_cell Qc.out 0).trans rfl
            have hc1_ : w'.cell? ⟨g18,1,none⟩ = some (.int .i64 ((k : Int) - T P j 0 k)):=(blk_cell Qc.out 1).trans rfl
            refine value_ (w1:=w') (v:=.agg #[.int .i64 (T P j 0 k),.int .i64 ((k : Int) - T P j 0 k)]) (by rfl) rfl ?_ ?_
            ·go_simp
             (try simp only [i64_w])
             try rfl
            refine hK.out _ _ ⟨g24_,g25_,m12_,m13_,(by rw [ha.out];exact putSel_upk 1 hb_ rfl rfl rfl),Q_BK12,Q_BK17,Q_BK18,Q_HO,Q_HL,Q_HB,Q_B24,fun h0_=>absurd ((hoff 14 (by kernel_rfl)).symm.trans h0_) (by decide),Q_B25,fun h0_=>absurd ((hoff 15 (by kernel_rfl)).symm.trans h0_) (by decide),Q_E24,Q_E25,Q_N24,Q_N25,Q_X12_,Q_X13_⟩
           refine steps_cons ?_ ?_
           ·rintro b a w' ⟨g24_,g25_,m12_,m13_,ha,Q_BK12,Q_BK17,Q_BK18,Q_HO,Q_HL,Q_HB,Q_B24,Q_C24,Q_B25,Q_C25,Q_E24,Q_E25,Q_N24,Q_N25,Q_X12_,Q_X13_⟩ hb_ hon hoff
            refine ⟨_,rfl,fun K hK=>?_⟩
            have e117 : a.tmps[117]? = some (.slice Al [withG v0 (m : Int)].length cl):=by rw [ha];exact (putSel_off rfl).trans rfl
            have e118 : a.tmps[118]? = some (.int .u16 v0):=by rw [ha];exact (putSel_off rfl).trans rfl
            replace ha:=Aside0.mk ha
            have Qb:=Aside0.mk Q_BK12
            have Qa:=Aside0.mk Q_BK17
            have Qc:=Aside0.mk Q_BK18
            have HO:=Aside0.mk Q_HO
            have HL:=Aside0.mk Q_HL
            have HB:=Aside0.mk Q_HB
            refine goes_ Try.func20 (by kernel_rfl) rfl #[.slice Al [withG v0 (m : Int)].length cl,.int .u16 v0] (by rfl) rfl rfl (by first|(simp only [List.map_toArray,List.map_cons,List.map_nil,Act.eval,Array.getD_eq_getD_getElem?,Option.getD_some,e117,e118];done)|(simp only [List.map_toArray,List.map_cons,List.map_nil,Act.eval,Array.getD_eq_getD_getElem?,Option.getD_some,e117,e118];rfl)) ?_
            (refine (vector_Result.calls _ _ [withG v0 (m : Int)] v0 2 _ ?side1 ?side2 HRES.out).mono ?_);(case side1=>exact (Kd.R_reads' HL.out).2.2);(case side2=>exact (Kd.R_reads' HL.out).2.1)
            rintro e w28 ⟨rfl,hb⟩
            refine ⟨_,rfl,?_⟩
            refine hK.out _ _ ⟨g24_,g25_,m12_,m13_,(by rw [ha.out];exact putSel_upk 2 hb_ rfl rfl rfl),blk_below Qb.out hb,blk_below Qa.out hb,blk_below Qc.out hb,Kd.R_below HO.out hb,Kd.R_below HL.out hb,below_step HB.out hb,fun h0_ h1_=>blk_below (Q_B24 h0_ h1_) hb,fun h0_=>absurd ((hoff 14 (by kernel_rfl)).symm.trans h0_) (by decide),fun h0_ h1_=>blk_below (Q_B25 h0_ h1_) hb,fun h0_=>absurd ((hoff 15 (by kernel_rfl)).symm.trans h0_) (by decide),Q_E24,Q_E25,Q_N24,Q_N25,Q_X12_,Q_X13_⟩
           refine steps_cons ?_ ?_
           ·rintro b a w' ⟨g24_,g25_,m12_,m13_,ha,Q_BK12,Q_BK17,Q_BK18,Q_HO,Q_HL,Q_HB,Q_B24,Q_C24,Q_B25,Q_C25,Q_E24,Q_E25,Q_N24,Q_N25,Q_X12_,Q_X13_⟩ hb_ hon hoff
            refine ⟨_,rfl,fun K hK=>?_⟩
            have e114 : a.tmps[114]? = some (.agg #[.int .i64 (j : Int),.int .u16 v0,.int .i64 0,.int .i64 0]):=by rw [ha];exact putSel_on (e:=(0,114,.agg #[.int .i64 (j : Int),.int .u16 v0,.int .i64 0,.int .i64 0])) 0 rfl rfl (hon 0 (by kernel_rfl)) rfl
            have e115 : a.tmps[115]? = some (.agg #[.int .i64 (T P j 0 k),.int .i64 ((k : Int) - T P j 0 k)]):=by rw [ha];exact putSel_on (e:=(1,115,.agg #[.int .i64 (T P j 0 k),.int .i64 ((k : Int) - T P j 0 k)])) 1 rfl rfl (hon 1 (by kernel_rfl)) rfl
            have e116 : a.tmps[116]? = some (.int .i64 (m : Int)):=by rw [ha];exact (putSel_off rfl).trans rfl
            have e119 : a.tmps[119]? = some (.int .i64 2):=by rw [ha];exact putSel_on (e:=(5,119,.int .i64 2)) 2 rfl rfl (hon 5 (by kernel_rfl)) rfl
            replace ha:=Aside0.mk ha
            have Qb:=Aside0.mk Q_BK12
            have Qa:=Aside0.mk Q_BK17
            have Qc:=Aside0.mk Q_BK18
            have HO:=Aside0.mk Q_HO
            have HL:=Aside0.mk Q_HL
            have HB:=Aside0.mk Q_HB
            refine goes_ Try.func12 (by kernel_rfl) rfl #[.agg #[.int .i64 (j : Int),.int .u16 v0,.int .i64 0,.int .i64 0],.agg #[.int .i64 (T P j 0 k),.int .i64 ((k : Int) - T P j 0 k)],.int .i64 (m : Int),.int .i64 2] (by rfl) rfl rfl (by first|(simp only [List.map_toArray,List.map_cons,List.map_nil,Act.eval,Array.getD_eq_getD_getElem?,Option.getD_some,e114,e115,e116,e119];done)|(simp only [List.map_toArray,List.map_cons,List.map_nil,Act.eval,Array.getD_eq_getD_getElem?,Option.getD_some,e114,e115,e116,e119];rfl)) ?_
            (with_reducible refine (clique_Follow.calls _ _ _ _ _ _ _ _ _ _ _ _ _ _ _ _ _ HFOL.out).mono ?_)
            rintro e w29 ⟨rfl,hb⟩
            refine ⟨_,rfl,?_⟩
            refine hK.out _ _ ⟨g24_,g25_,m12_,m13_,(by rw [ha.out];exact putSel_upk 3 hb_ rfl rfl rfl),blk_below Qb.out hb,blk_below Qa.out hb,blk_below Qc.out hb,Kd.R_below HO.out hb,Kd.R_below HL.out hb,below_step HB.out hb,fun h0_ h1_=>blk_below (Q_B24 h0_ h1_) hb,fun h0_=>absurd ((hoff 14 (by kernel_rfl)).symm.trans h0_) (by decide),fun h0_ h1_=>blk_below (Q_B25 h0_ h1_) hb,fun h0_=>absurd ((hoff 15 (by kernel_rfl)).symm.trans h0_) (by decide),Q_E24,Q_E25,Q_N24,Q_N25,Q_X12_,Q_X13_⟩
           refine steps_cons ?_ ?_
           ·rintro b a w' ⟨g24_,g25_,m12_,m13_,ha,Q_BK12,Q_BK17,Q_BK18,Q_HO,Q_HL,Q_HB,Q_B24,Q_C24,Q_B25,Q_C25,Q_E24,Q_E25,Q_N24,Q_N25,Q_X12_,Q_X13_⟩ hb_ hon hoff
            refine ⟨_,rfl,fun K hK=>?_⟩
            have e120 : a.tmps[120]? = some (.tuple #[.agg #[.int .i64 (j : Int),.int .u16 v0,.int .i64 0,.int .i64 0],.agg #[.int .i64 ((T P j 0 k) + 1),.int .i64 ((k : Int) - T P j 0 k)],.int .i64 1,.int .i64 0]):=by rw [ha];exact putSel_on (e:=(6,120,.tuple #[.agg #[.int .i64 (j : Int),.int .u16 v0,.int .i64 0,.int .i64 0],.agg #[.int .i64 ((T P j 0 k) + 1),.int .i64 ((k : Int) - T P j 0 k)],.int .i64 1,.int .i64 0])) 3 rfl rfl (hon 6 (by kernel_rfl)) rfl
            replace ha:=Aside0.mk ha
            have Qb:=Aside0.mk Q_BK12
            have Qa:=Aside0.mk Q_BK17
            have Qc:=Aside0.mk Q_BK18
            have HO:=Aside0.mk Q_HO
            have HL:=Aside0.mk Q_HL
            have HB:=Aside0.mk Q_HB
            refine value_ (w1:=w') (v:=.tuple #[.agg #[.int .i64 (j : Int),.int .u16 v0,.int .i64 0,.int .i64 0],.agg #[.int .i64 ((T P j 0 k) + 1),.int .i64 ((k : Int) - T P j 0 k)],.int .i64 1,.int .i64 0]) (by rfl) rfl ?_ ?_
            ·go_simp
             (try simp only [i64_w])
             try rfl
            refine hK.out _ _ ⟨g24_,g25_,m12_,m13_,(by rw [ha.out];exact putSel_upk 4 hb_ rfl rfl rfl),Q_BK12,Q_BK17,Q_BK18,Q_HO,Q_HL,Q_HB,Q_B24,fun h0_=>absurd ((hoff 14 (by kernel_rfl)).symm.trans h0_) (by decide),Q_B25,fun h0_=>absurd ((hoff 15 (by kernel_rfl)).symm.trans h0_) (by decide),Q_E24,Q_E25,Q_N24,Q_N25,Q_X12_,Q_X13_⟩
           refine steps_cons ?_ ?_
           ·rintro b a w' ⟨g24_,g25_,m12_,m13_,ha,Q_BK12,Q_BK17,Q_BK18,Q_HO,Q_HL,Q_HB,Q_B24,Q_C24,Q_B25,Q_C25,Q_E24,Q_E25,Q_N24,Q_N25,Q_X12_,Q_X13_⟩ hb_ hon hoff
            refine ⟨_,rfl,fun K hK=>?_⟩
            have e113 : a.tmps[113]? = some (.tuple #[.agg #[.int .i64 (j : Int),.int .u16 v0,.int .i64 0,.int .i64 0],.agg #[.int .i64 ((T P j 0 k) + 1),.int .i64 ((k : Int) - T P j 0 k)],.int .i64 1,.int .i64 0]):=by rw [ha];exact putSel_on (e:=(7,113,.tuple #[.agg #[.int .i64 (j : Int),.int .u16 v0,.int .i64 0,.int .i64 0],.agg #[.int .i64 ((T P j 0 k) + 1),.int .i64 ((k : Int) - T P j 0 k)],.int .i64 1,.int .i64 0])) 4 rfl rfl (hon 7 (by kernel_rfl)) rfl
            replace ha:=Aside0.mk ha
            have Qb:=Aside0.mk Q_BK12
            have Qa:=Aside0.mk Q_BK17
            have Qc:=Aside0.mk Q_BK18
            have HO:=Aside0.mk Q_HO
            have HL:=Aside0.mk Q_HL
            have HB:=Aside0.mk Q_HB
            refine value_ (w1:=w') (v:=.agg #[.int .i64 (j : Int),.int .u16 v0,.int .i64 0,.int .i64 0]) (by rfl) rfl ?_ ?_
            ·go_simp
             (try simp only [i64_w])
             try rfl
            refine hK.out _ _ ⟨g24_,g25_,m12_,m13_,(by rw [ha.out];exact putSel_upk 5 hb_ rfl rfl rfl),Q_BK12,Q_BK17,Q_BK18,Q_HO,Q_HL,Q_HB,Q_B24,fun h0_=>absurd ((hoff 14 (by kernel_rfl)).symm.trans h0_) (by decide),Q_B25,fun h0_=>absurd ((hoff 15 (by kernel_rfl)).symm.trans h0_) (by decide),Q_E24,Q_E25,Q_N24,Q_N25,Q_X12_,Q_X13_⟩
           refine steps_cons ?_ ?_
           ·rintro b a w' ⟨g24_,g25_,m12_,m13_,ha,Q_BK12,Q_BK17,Q_BK18,Q_HO,Q_HL,Q_HB,Q_B24,Q_C24,Q_B25,Q_C25,Q_E24,Q_E25,Q_N24,Q_N25,Q_X12_,Q_X13_⟩ hb_ hon hoff
            refine ⟨_,rfl,fun K hK=>?_⟩
            have e113 : a.tmps[113]? = some (.tuple #[.agg #[.int .i64 (j : Int),.int .u16 v0,.int .i64 0,.int .i64 0],.agg #[.int .i64 ((T P j 0 k) + 1),.int .i64 ((k : Int) - T P j 0 k)],.int .i64 1,.int .i64 0]):=by rw [ha];exact putSel_on (e:=(7,113,.tuple #[.agg #[.int .i64 (j : Int),.int .u16 v0,.int .i64 0,.int .i64 0],.agg #[.int .i64 ((T P j 0 k) + 1),.int .i64 ((k : Int) - T P j 0 k)],.int .i64 1,.int .i64 0])) 4 rfl rfl (hon 7 (by kernel_rfl)) rfl
            replace ha:=Aside0.mk ha
            have Qb:=Aside0.mk Q_BK12
            have Qa:=Aside0.mk Q_BK17
            have Qc:=Aside0.mk Q_BK18
            have HO:=Aside0.mk Q_HO
            have HL:=Aside0.mk Q_HL
            have HB:=Aside0.mk Q_HB
            refine value_ (w1:=w') (v:=.agg #[.int .i64 ((T P j 0 k) + 1),.int .i64 ((k : Int) - T P j 0 k)]) (by rfl) rfl ?_ ?_
            ·go_simp
             (try simp only [i64_w])
             try rfl
            refine hK.out _ _ ⟨g24_,g25_,m12_,m13_,(by rw [ha.out];exact putSel_upk 6 hb_ rfl rfl rfl),Q_BK12,Q_BK17,Q_BK18,Q_HO,Q_HL,Q_HB,Q_B24,Q_C24,Q_B25,fun h0_=>absurd ((hoff 15 (by kernel_rfl)).symm.trans h0_) (by decide),Q_E24,Q_E25,Q_N24,Q_N25,Q_X12_,Q_X13_⟩
           refine steps_cons ?_ ?_
           ·rintro b a w' ⟨g24_,g25_,m12_,m13_,ha,Q_BK12,Q_BK17,Q_BK18,Q_HO,Q_HL,Q_HB,Q_B24,Q_C24,Q_B25,Q_C25,Q_E24,Q_E25,Q_N24,Q_N25,Q_X12_,Q_X13_⟩ hb_ hon hoff
            refine ⟨_,rfl,fun K hK=>?_⟩
            have e113 : a.tmps[113]? = some (.tuple #[.agg #[.int .i64 (j : Int),.int .u16 v0,.int .i64 0,.int .i64 0],.agg #[.int .i64 ((T P j 0 k) + 1),.int .i64 ((k : Int) - T P j 0 k)],.int .i64 1,.int .i64 0]):=by rw [ha];exact putSel_on (e:=(7,113,.tuple #[.agg #[.int .i64 (j : Int),.int .u16 v0,.int .i64 0,.int .i64 0],.agg #[.int .i64 ((T P j 0 k) + 1),.int .i64 ((k : Int) - T P j 0 k)],.int .i64 1,.int .i64 0])) 4 rfl rfl (hon 7 (by kernel_rfl)) rfl
            replace ha:=Aside0.mk ha
            have Qb:=Aside0.mk Q_BK12
            have Qa:=Aside0.mk Q_BK17
            have Qc:=Aside0.mk Q_BK18
            have HO:=Aside0.mk Q_HO
            have HL:=Aside0.mk Q_HL
            have HB:=Aside0.mk Q_HB
            refine value_ (w1:=w') (v:=.int .i64 1) (by rfl) rfl ?_ ?_
            ·go_simp
             (try simp only [i64_w])
             try rfl
            refine hK.out _ _ ⟨g24_,g25_,m12_,m13_,(by rw [ha.out];exact putSel_upk 7 hb_ rfl rfl rfl),Q_BK12,Q_BK17,Q_BK18,Q_HO,Q_HL,Q_HB,Q_B24,Q_C24,Q_B25,Q_C25,Q_E24,Q_E25,Q_N24,Q_N25,Q_X12_,Q_X13_⟩
           refine steps_cons ?_ ?_
           ·rintro b a w' ⟨g24_,g25_,m12_,m13_,ha,Q_BK12,Q_BK17,Q_BK18,Q_HO,Q_HL,Q_HB,Q_B24,Q_C24,Q_B25,Q_C25,Q_E24,Q_E25,Q_N24,Q_N25,Q_X12_,Q_X13_⟩ hb_ hon hoff
            refine ⟨_,rfl,fun K hK=>?_⟩
            have e113 : a.tmps[113]? = some (.tuple #[.agg #[.int .i64 (j : Int),.int .u16 v0,.int .i64 0,.int .i64 0],.agg #[.int .i64 ((T P j 0 k) + 1),.int .i64 ((k : Int) - T P j 0 k)],.int .i64 1,.int .i64 0]):=by rw [ha];exact putSel_on (e:=(7,113,.tuple #[.agg #[.int .i64 (j : Int),.int .u16 v0,.int .i64 0,.int .i64 0],.agg #[.int .i64 ((T P j 0 k) + 1),.int .i64 ((k : Int) - T P j 0 k)],.int .i64 1,.int .i64 0])) 4 rfl rfl (hon 7 (by kernel_rfl)) rfl
            replace ha:=Aside0.mk ha
            have Qb:=Aside0.mk Q_BK12
            have Qa:=Aside0.mk Q_BK17
            have Qc:=Aside0.mk Q_BK18
            have HO:=Aside0.mk Q_HO
            have HL:=Aside0.mk Q_HL
            have HB:=Aside0.mk Q_HB
            refine value_ (w1:=w') (v:=.int .i64 0) (by rfl) rfl ?_ ?_
            ·go_simp
             (try simp only [i64_w])
             try rfl
            refine hK.out _ _ ⟨g24_,g25_,m12_,m13_,(by rw [ha.out];exact putSel_upk 8 hb_ rfl rfl rfl),Q_BK12,Q_BK17,Q_BK18,Q_HO,Q_HL,Q_HB,Q_B24,Q_C24,Q_B25,Q_C25,Q_E24,Q_E25,Q_N24,Q_N25,Q_X12_,Q_X13_⟩
           refine steps_cons ?_ ?_
           ·rintro b a w' ⟨g24_,g25_,m12_,m13_,ha,Q_BK12,Q_BK17,Q_BK18,Q_HO,Q_HL,Q_HB,Q_B24,Q_C24,Q_B25,Q_C25,Q_E24,Q_E25,Q_N24,Q_N25,Q_X12_,Q_X13_⟩ hb_ hon hoff
            refine ⟨_,rfl,fun K hK=>?_⟩
            replace ha:=Aside0.mk ha
            have Qb:=Aside0.mk Q_BK12
            have Qa:=Aside0.mk Q_BK17
            have Qc:=Aside0.mk Q_BK18
            have HO:=Aside0.mk Q_HO
            have HL:=Aside0.mk Q_HL
            have HB:=Aside0.mk Q_HB
            refine box_step ?hg (N:=24) ?hd (cs:=#[.int .i64 0,.int .u16 0,.int .i64 0,.int .i64 0]) (t:=34) ?hr ?_;(case hd=>rfl);(case hg=>rfl);(case hr=>first|(go_simp;done)|(go_simp;rfl))
            intro gn hg wn hbox hb
            refine hK.out _ _ ⟨gn,g25_,(.pointer (some ⟨gn,0,none⟩)),m13_,(by rw [ha.out];exact putSel_upk 9 hb_ rfl rfl rfl),blk_below Qb.out hb,blk_below Qa.out hb,blk_below Qc.out hb,Kd.R_below HO.out hb,Kd.R_below HL.out hb,below_step HB.out hb,fun _ _=>hbox,fun h0_=>absurd ((hoff 14 (by kernel_rfl)).symm.trans h0_) (by decide),fun h0_ h1_=>blk_below (Q_B25 h0_ h1_) hb,fun h0_=>absurd ((hoff 15 (by kernel_rfl)).symm.trans h0_) (by decide),fun _=>by rw [hg];exact below_size HB.out,Q_E25,fun _=>⟨by rw [hg];exact Nat.ne_of_lt (blk_lt Qb.out),by rw [hg];exact Nat.ne_of_lt (blk_lt Qa.out),by rw [hg];exact Nat.ne_of_lt (blk_lt Qc.out)⟩,Q_N25,fun _=>rfl,Q_X13_⟩
           refine steps_cons ?_ ?_
           ·rintro b a w' ⟨g24_,g25_,m12_,m13_,ha,Q_BK12,Q_BK17,Q_BK18,Q_HO,Q_HL,Q_HB,Q_B24,Q_C24,Q_B25,Q_C25,Q_E24,Q_E25,Q_N24,Q_N25,Q_X12_,Q_X13_⟩ hb_ hon hoff
            refine ⟨_,rfl,fun K hK=>?_⟩
            replace ha:=Aside0.mk ha
            have Qb:=Aside0.mk Q_BK12
            have Qa:=Aside0.mk Q_BK17
            have Qc:=Aside0.mk Q_BK18
            have HO:=Aside0.mk Q_HO
            have HL:=Aside0.mk Q_HL
            have HB:=Aside0.mk Q_HB
            refine box_step ?hg (N:=25) ?hd (cs:=#[.int .i64 0,.int .i64 0]) (t:=23) ?hr ?_;(case hd=>rfl);(case hg=>rfl);(case hr=>first|(go_simp;done)|(go_simp;rfl))
            intro gn hg wn hbox hb
            refine hK.out _ _ ⟨g24_,gn,m12_,(.pointer (some ⟨gn,0,none⟩)),(by rw [ha.out];exact putSel_upk 10 hb_ rfl rfl rfl),blk_below Qb.out hb,blk_below Qa.out hb,blk_below Qc.out hb,Kd.R_below HO.out hb,Kd.R_below HL.out hb,below_step HB.out hb,fun h0_ h1_=>blk_below (Q_B24 h0_ h1_) hb,fun h0_=>absurd ((hoff 14 (by kernel_rfl)).symm.trans h0_) (by decide),fun _ _=>hbox,fun h0_=>absurd ((hoff 15 (by kernel_rfl)).symm.trans h0_) (by decide),Q_E24,fun _=>by rw [hg];exact below_size HB.out,Q_N24,fun _=>⟨by rw [hg];exact Nat.ne_of_lt (blk_lt Qb.out),by rw [hg];exact Nat.ne_of_lt (blk_lt Qa.out),by rw [hg];exact Nat.ne_of_lt (blk_lt Qc.out)⟩,Q_X12_,fun _=>rfl⟩
           refine steps_cons ?_ ?_
           ·rintro b a w' ⟨g24_,g25_,m12_,m13_,ha,Q_BK12,Q_BK17,Q_BK18,Q_HO,Q_HL,Q_HB,Q_B24,Q_C24,Q_B25,Q_C25,Q_E24,Q_E25,Q_N24,Q_N25,Q_X12_,Q_X13_⟩ hb_ hon hoff
            refine ⟨_,rfl,fun K hK=>?_⟩
            have e24 : a.tmps[24]? = some (m12_):=by rw [ha];exact putSel_on (e:=(12,24,m12_)) 9 rfl rfl (hon 12 (by kernel_rfl)) rfl
            rw [Q_X12_ (hon 12 (by kernel_rfl))] at e24
            have e121 : a.tmps[121]? = some (.agg #[.int .i64 (j : Int),.int .u16 v0,.int .i64 0,.int .i64 0]):=by rw [ha];exact putSel_on (e:=(8,121,.agg #[.int .i64 (j : Int),.int .u16 v0,.int .i64 0,.int .i64 0])) 5 rfl rfl (hon 8 (by kernel_rfl)) rfl
            replace ha:=Aside0.mk ha
            have Qb:=Aside0.mk Q_BK12
            have Qa:=Aside0.mk Q_BK17
            have Qc:=Aside0.mk Q_BK18
            have HO:=Aside0.mk Q_HO
            have HL:=Aside0.mk Q_HL
            have HB:=Aside0.mk Q_HB
            have B24:=Aside0.mk (Q_B24 (hon 12 (by kernel_rfl)) hb_)
            have B25:=Aside0.mk (Q_B25 (hon 13 (by kernel_rfl)) (hoff 15 (by kernel_rfl)))
            have E24:=Aside0.mk (Q_E24 (hon 12 (by kernel_rfl)))
            have E25:=Aside0.mk (Q_E25 (hon 13 (by kernel_rfl)))
            have N24:=Aside0.mk (Q_N24 (hon 12 (by kernel_rfl)))
            have N25:=Aside0.mk (Q_N25 (hon 13 (by kernel_rfl)))
            have hf0_:=blk_frozen B24.out 0
            have hf1_:=blk_frozen B24.out 1
            have hf2_:=blk_frozen B24.out 2
            have hf3_:=blk_frozen B24.out 3
            have hc0_ : w'.cell? ⟨g24_,0,none⟩ = some (.int .i64 0):=(blk_cell B24.out 0).trans rfl
            have hc1_ : w'.cell? ⟨g24_,1,none⟩ = some (.int .u16 0):=(blk_cell B24.out 1).trans rfl
            have hc2_ : w'.cell? ⟨g24_,2,none⟩ = some (.int .i64 0):=(blk_cell B24.out 2).trans rfl
            have hc3_ : w'.cell? ⟨g24_,3,none⟩ = some (.int .i64 0):=(blk_cell B24.out 3).trans rfl
            refine skip_ (w1:=?_) (by rfl) rfl ?_ ?_
            rotate_left
            ·go_simp
             rfl
            refine hK.out _ _ ⟨g24_,g25_,m12_,m13_,(by rw [ha.out];exact putSel_none (v:=undef) rfl),bf4_ Qb.out N24.out.1 _ _ _ _,bf4_ Qa.out N24.out.2.1 _ _ _ _,bf4_ Qc.out N24.out.2.2 _ _ _ _,rf4_ HO.out B24.out (by decide) _ _ _ _,rf4_ HL.out B24.out (by decide) _ _ _ _,below_set (below_set (below_set (below_set HB.out E24.out) E24.out) E24.out) E24.out,fun _ h1_=>absurd ((up_self b 14).symm.trans h1_) (by decide),fun _=>bp4_ B24.out _ _ _ _,fun _ _=>bf4_ B25.out (ne_cells B25.out B24.out (by decide)) _ _ _ _,fun h0_=>absurd ((hoff 15 (by kernel_rfl)).symm.trans h0_) (by decide),Q_E24,Q_E25,Q_N24,Q_N25,Q_X12_,Q_X13_⟩
           refine steps_cons ?_ ?_
           ·rintro b a w' ⟨g24_,g25_,m12_,m13_,ha,Q_BK12,Q_BK17,Q_BK18,Q_HO,Q_HL,Q_HB,Q_B24,Q_C24,Q_B25,Q_C25,Q_E24,Q_E25,Q_N24,Q_N25,Q_X12_,Q_X13_⟩ hb_ hon hoff
            refine ⟨_,rfl,fun K hK=>?_⟩
            have e25 : a.tmps[25]? = some (m13_):=by rw [ha];exact putSel_on (e:=(13,25,m13_)) 10 rfl rfl (hon 13 (by kernel_rfl)) rfl
            rw [Q_X13_ (hon 13 (by kernel_rfl))] at e25
            have e122 : a.tmps[122]? = some (.agg #[.int .i64 ((T P j 0 k) + 1),.int .i64 ((k : Int) - T P j 0 k)]):=by rw [ha];exact putSel_on (e:=(9,122,.agg #[.int .i64 ((T P j 0 k) + 1),.int .i64 ((k : Int) - T P j 0 k)])) 6 rfl rfl (hon 9 (by kernel_rfl)) rfl
            replace ha:=Aside0.mk ha
            have Qb:=Aside0.mk Q_BK12
            have Qa:=Aside0.mk Q_BK17
            have Qc:=Aside0.mk Q_BK18
            have HO:=Aside0.mk Q_HO
            have HL:=Aside0.mk Q_HL
            have HB:=Aside0.mk Q_HB
            have C24:=Aside0.mk (Q_C24 (hon 14 (by kernel_rfl)))
            have B25:=Aside0.mk (Q_B25 (hon 13 (by kernel_rfl)) hb_)
            have E24:=Aside0.mk (Q_E24 (hon 12 (by kernel_rfl)))
            have E25:=Aside0.mk (Q_E25 (hon 13 (by kernel_rfl)))
            have N24:=Aside0.mk (Q_N24 (hon 12 (by kernel_rfl)))
            have N25:=Aside0.mk (Q_N25 (hon 13 (by kernel_rfl)))
            have hf0_:=blk_frozen B25.out 0
            have hf1_:=blk_frozen B25.out 1
            have hc0_ : w'.cell? ⟨g25_,0,none⟩ = some (.int .i64 0):=(blk_cell B25.out 0).trans rfl
            have hc1_ : w'.cell? ⟨g25_,1,none⟩ = some (.int .i64 0):=(blk_cell B25.out 1).trans rfl
            refine skip_ (w1:=?_) (by rfl) rfl ?_ ?_
            rotate_left
            ·go_simp
             rfl
            refine hK.out _ _ ⟨g24_,g25_,m12_,m13_,(by rw [ha.out];exact putSel_none (v:=undef) rfl),blk_far (blk_far Qb.out N25.out.1 _) N25.out.1 _,blk_far (blk_far Qa.out N25.out.2.1 _) N25.out.2.1 _,blk_far (blk_far Qc.out N25.out.2.2 _) N25.out.2.2 _,rst_ (rst_ HO.out B25.out (by decide) 0 _) (blk_put (cs:=#[.int .i64 0,.int .i64 0]) B25.out 0 _ rfl) (by decide) 1 _,rst_ (rst_ HL.out B25.out (by decide) 0 _) (blk_put (cs:=#[.int .i64 0,.int .i64 0]) B25.out 0 _ rfl) (by decide) 1 _,below_set (below_set HB.out E25.out) E25.out,fun _ h1_=>absurd ((hon 14 (by kernel_rfl)).symm.trans h1_) (by decide),fun _=>blk_far (blk_far C24.out (ne_cells C24.out B25.out (by decide)) _) (ne_cells C24.out B25.out (by decide)) _,fun _ h1_=>absurd ((up_self b 15).symm.trans h1_) (by decide),fun _=>by refine blk_put (cs:=#[.int .i64 ((T P j 0 k) + 1),.int .i64 0]) ?_ 1 _ rfl;refine blk_put (cs:=#[.int .i64 0,.int .i64 0]) ?_ 0 _ rfl;exact B25.out,Q_E24,Q_E25,Q_N24,Q_N25,Q_X12_,Q_X13_⟩
           refine steps_cons ?_ ?_
           ·rintro b a w' ⟨g24_,g25_,m12_,m13_,ha,Q_BK12,Q_BK17,Q_BK18,Q_HO,Q_HL,Q_HB,Q_B24,Q_C24,Q_B25,Q_C25,Q_E24,Q_E25,Q_N24,Q_N25,Q_X12_,Q_X13_⟩ hb_ hon hoff
            refine ⟨_,rfl,fun K hK=>?_⟩
            have e123 : a.tmps[123]? = some (.int .i64 1):=by rw [ha];exact putSel_on (e:=(10,123,.int .i64 1)) 7 rfl rfl (hon 10 (by kernel_rfl)) rfl
            replace ha:=Aside0.mk ha
            have Qb:=Aside0.mk Q_BK12
            have Qa:=Aside0.mk Q_BK17
            have Qc:=Aside0.mk Q_BK18
            have HO:=Aside0.mk Q_HO
            have HL:=Aside0.mk Q_HL
            have HB:=Aside0.mk Q_HB
            have C24:=Aside0.mk (Q_C24 (hon 14 (by kernel_rfl)))
            have C25:=Aside0.mk (Q_C25 (hon 15 (by kernel_rfl)))
            have E24:=Aside0.mk (Q_E24 (hon 12 (by kernel_rfl)))
            have E25:=Aside0.mk (Q_E25 (hon 13 (by kernel_rfl)))
            have N24:=Aside0.mk (Q_N24 (hon 12 (by kernel_rfl)))
            have N25:=Aside0.mk (Q_N25 (hon 13 (by kernel_rfl)))
            refine value_ (w1:=w') (v:=.int .i64 1) (by rfl) rfl ?_ ?_
            ·go_simp
             (try simp only [i64_w])
             try rfl
            refine hK.out _ _ ⟨g24_,g25_,m12_,m13_,(by rw [ha.out];exact putSel_upk 11 hb_ rfl rfl rfl),Q_BK12,Q_BK17,Q_BK18,Q_HO,Q_HL,Q_HB,fun _ h1_=>absurd ((hon 14 (by kernel_rfl)).symm.trans h1_) (by decide),Q_C24,fun _ h1_=>absurd ((hon 15 (by kernel_rfl)).symm.trans h1_) (by decide),Q_C25,Q_E24,Q_E25,Q_N24,Q_N25,Q_X12_,Q_X13_⟩
           refine steps_cons ?_ ?_
           ·rintro b a w' ⟨g24_,g25_,m12_,m13_,ha,Q_BK12,Q_BK17,Q_BK18,Q_HO,Q_HL,Q_HB,Q_B24,Q_C24,Q_B25,Q_C25,Q_E24,Q_E25,Q_N24,Q_N25,Q_X12_,Q_X13_⟩ hb_ hon hoff
            refine ⟨_,rfl,fun K hK=>?_⟩
            have e124 : a.tmps[124]? = some (.int .i64 0):=by rw [ha];exact putSel_on (e:=(11,124,.int .i64 0)) 8 rfl rfl (hon 11 (by kernel_rfl)) rfl
            replace ha:=Aside0.mk ha
            have Qb:=Aside0.mk Q_BK12
            have Qa:=Aside0.mk Q_BK17
            have Qc:=Aside0.mk Q_BK18
            have HO:=Aside0.mk Q_HO
            have HL:=Aside0.mk Q_HL
            have HB:=Aside0.mk Q_HB
            have C24:=Aside0.mk (Q_C24 (hon 14 (by kernel_rfl)))
            have C25:=Aside0.mk (Q_C25 (hon 15 (by kernel_rfl)))
            have E24:=Aside0.mk (Q_E24 (hon 12 (by kernel_rfl)))
            have E25:=Aside0.mk (Q_E25 (hon 13 (by kernel_rfl)))
            have N24:=Aside0.mk (Q_N24 (hon 12 (by kernel_rfl)))
            have N25:=Aside0.mk (Q_N25 (hon 13 (by kernel_rfl)))
            refine value_ (w1:=w') (v:=.int .i64 0) (by rfl) rfl ?_ ?_
            ·go_simp
             (try simp only [i64_w])
             try rfl
            refine hK.out _ _ ⟨g24_,g25_,m12_,m13_,(by rw [ha.out];exact putSel_upk 12 hb_ rfl rfl rfl),Q_BK12,Q_BK17,Q_BK18,Q_HO,Q_HL,Q_HB,fun _ h1_=>absurd ((hon 14 (by kernel_rfl)).symm.trans h1_) (by decide),Q_C24,fun _ h1_=>absurd ((hon 15 (by kernel_rfl)).symm.trans h1_) (by decide),Q_C25,Q_E24,Q_E25,Q_N24,Q_N25,Q_X12_,Q_X13_⟩
           exact steps_nil
          rintro b a w30 hall ⟨g24_,g25_,m12_,m13_,ha,Q_BK12,Q_BK17,Q_BK18,Q_HO,Q_HL,Q_HB,Q_B24,Q_C24,Q_B25,Q_C25,Q_E24,Q_E25,Q_N24,Q_N25,Q_X12_,Q_X13_⟩
          clear Qb Qa Qc HB HL HO
          have hb0_:=hall 0 (by kernel_rfl)
          have hb1_:=hall 1 (by kernel_rfl)
          have hb5_:=hall 5 (by kernel_rfl)
          have hb6_:=hall 6 (by kernel_rfl)
          have hb7_:=hall 7 (by kernel_rfl)
          have hb8_:=hall 8 (by kernel_rfl)
          have hb9_:=hall 9 (by kernel_rfl)
          have hb10_:=hall 10 (by kernel_rfl)
          have hb11_:=hall 11 (by kernel_rfl)
          have hb12_:=hall 12 (by kernel_rfl)
          have hb13_:=hall 13 (by kernel_rfl)
          have hb14_:=hall 14 (by kernel_rfl)
          have hb15_:=hall 15 (by kernel_rfl)
          have hb16_:=hall 16 (by kernel_rfl)
          have hb17_:=hall 17 (by kernel_rfl)
          subst ha
          obtain rfl:=Q_X12_ hb12_
          obtain rfl:=Q_X13_ hb13_
          simp only [putSel,hb0_,hb1_,hb5_,hb6_,hb7_,hb8_,hb9_,hb10_,hb11_,hb12_,hb13_,hb14_,hb15_,hb16_,hb17_,if_true,Act.put,List.setIfInBounds_toArray,List.set_cons_zero,List.set_cons_succ]
          have Qb:=Aside0.mk Q_BK12
          clear Q_BK12
          have Qa:=Aside0.mk Q_BK17
          clear Q_BK17
          have Qc:=Aside0.mk Q_BK18
          clear Q_BK18
          have HO:=Aside0.mk Q_HO
          clear Q_HO
          have HL:=Aside0.mk Q_HL
          clear Q_HL
          have HB:=Aside0.mk Q_HB
          clear Q_HB
          clear Q_B24
          have C24:=Aside0.mk (Q_C24 hb14_)
          clear Q_C24
          clear Q_B25
          have C25:=Aside0.mk (Q_C25 hb15_)
          clear Q_C25
          have E24:=Aside0.mk (Q_E24 hb12_)
          clear Q_E24
          have E25:=Aside0.mk (Q_E25 hb13_)
          clear Q_E25
          have N24:=Aside0.mk (Q_N24 hb12_)
          clear Q_N24
          have N25:=Aside0.mk (Q_N25 hb13_)
          clear Q_N25
          clear hall hb0_ hb1_ hb5_ hb6_ hb7_ hb8_ hb9_ hb10_ hb11_ hb12_ hb13_ hb14_ hb15_ hb16_ hb17_
          have hcz_0 : w30.cell? ⟨g24_,0,none⟩ = some (.int .i64 (j : Int)):=(blk_cell C24.out 0).trans rfl
          have hcz_1 : w30.cell? ⟨g24_,1,none⟩ = some (.int .u16 v0):=(blk_cell C24.out 1).trans rfl
          have hcz_2 : w30.cell? ⟨g24_,2,none⟩ = some (.int .i64 0):=(blk_cell C24.out 2).trans rfl
          have hcz_3 : w30.cell? ⟨g24_,3,none⟩ = some (.int .i64 0):=(blk_cell C24.out 3).trans rfl
          clear Q_X12_ Q_X13_
          clear b
          go_upto_region 31 with (fail)
          clear hcz_0 hcz_1 hcz_2 hcz_3
          clear HL
          have n0_:=Aside0.mk (blk_drew Qb.out);have n1_:=Aside0.mk (blk_drew Qa.out);have n2_:=Aside0.mk (blk_drew Qc.out);have n3_:=Aside0.mk (Kd.R_drew HO.out);have n4_:=Aside0.mk (blk_drew C24.out);have n5_:=Aside0.mk (blk_drew C25.out);have n6_:=Aside0.mk (below_drew1 HB.out);clear Qb Qa Qc HO HB C24 C25;have Qb:=n0_;have Qa:=n1_;have Qc:=n2_;have HO:=n3_;have C24:=n4_;have C25:=n5_;have HB:=n6_;clear n0_ n1_ n2_ n3_ n4_ n5_ n6_
          refine start_ (n:=4) (S:=fun w'=>True) (ds:=[]) #[false,false,false,false] (by kernel_rfl) rfl rfl trivial (fun hHeld=>?_)
          refine with_tabW cliqueParties.tab31 cliqueParties.bits31 (fun HT_ HW_=>?_)
          generalize w30.drew = w31 at Qb Qa Qc HO HB C24 C25 ⊢
          refine inv_at [0,1,2,3] (fun a0_ b a w'=>a = putSel a0_ b [(0,131,.agg #[.int .i64 (j : Int),.int .u16 v0,.int .i64 0,.int .i64 0]),(1,132,.agg #[.int .i64 ((T P j 0 k) + 1),.int .i64 ((k : Int) - T P j 0 k)])]∧(w'.heap[g12]? = some (.cells #[.int .u16 v0,.int .u16 v1] 47 (0,0)))∧(w'.heap[g17]? = some (.cells #[.int .i64 (j : Int),.int .u16 v0,.int .i64 0,.int .i64 0] 34 (0,0)))∧(b 3 = false→w'.heap[g18]? = some (.cells #[.int .i64 (T P j 0 k),.int .i64 ((k : Int) - T P j 0 k)] 23 (0,0)))∧(b 3 = true→w'.heap[g18]? = some (.cells #[.int .i64 ((T P j 0 k) + 1),.int .i64 ((k : Int) - T P j 0 k)] 23 (0,0)))∧(Kd.R (Kd.int .i64) 3 w' w.heap.size (fun _=>True) (.slice (some ad85) P.length co) P)∧(Below w.heap.size w w')∧(b 3 = false→w'.heap[g24_]? = some (.cells #[.int .i64 (j : Int),.int .u16 v0,.int .i64 0,.int .i64 0] 34 (0,0)))∧(b 3 = false→w'.heap[g25_]? = some (.cells #[.int .i64 ((T P j 0 k) + 1),.int .i64 ((k : Int) - T P j 0 k)] 23 (0,0)))) HT_.out HW_.out (by kernel_rfl) (by kernel_rfl) ?_ ?_ ?_
          ·exact ⟨by simp only [putSel,Bool.false_eq_true,if_false],Qb.out,Qa.out,fun _=>Qc.out,fun h_=>absurd h_ (by decide),HO.out,HB.out,fun _=>C24.out,fun _=>C25.out⟩
          ·skip
           clear Qb Qa Qc C24 C25 HB HO
           refine steps_cons ?_ ?_
           ·rintro b a w' ⟨ha,Q_BK12,Q_BK17,Q_BK18,Q_NW18,Q_HO,Q_HB,Q_C24,Q_C25⟩ hb_ hon hoff
            refine ⟨_,rfl,fun K hK=>?_⟩
            have e24 : a.tmps[24]? = some (.pointer (some ⟨g24_,0,none⟩)):=by rw [ha];exact (putSel_off rfl).trans rfl
            replace ha:=Aside0.mk ha
            have Qb:=Aside0.mk Q_BK12
            have Qa:=Aside0.mk Q_BK17
            have Qc:=Aside0.mk (Q_BK18 (hoff 3 (by kernel_rfl)))
            have HO:=Aside0.mk Q_HO
            have HB:=Aside0.mk Q_HB
            have C24:=Aside0.mk (Q_C24 (hoff 3 (by kernel_rfl)))
            have C25:=Aside0.mk (Q_C25 (hoff 3 (by kernel_rfl)))
            have hc0_ : w'.cell? ⟨g24_,0,none⟩ = some (.int .i64 (j : Int)):=(blk_cell C24.out 0).trans rfl
            have hc1_ : w'.cell? ⟨g24_,1,none⟩ = some (.int .u16 v0):=(blk_cell C24.out 1).trans rfl
            have hc2_ : w'.cell? ⟨g24_,2,none⟩ = some (.int .i64 0):=(blk_cell C24.out 2).trans rfl
            have hc3_ : w'.cell? ⟨g24_,3,none⟩ = some (.int .i64 0):=(blk_cell C24.out 3).trans rfl
            refine value_ (w1:=w') (v:=.agg #[.int .i64 (j : Int),.int .u16 v0,.int .i64 0,.int .i64 0]) (by rfl) rfl ?_ ?_
            ·go_simp
             (try simp only [i64_w])
             try rfl
            refine hK.out _ _ ⟨(by rw [ha.out];exact putSel_upk 0 hb_ rfl rfl rfl),Q_BK12,Q_BK17,Q_BK18,fun h0_=>absurd ((hoff 3 (by kernel_rfl)).symm.trans h0_) (by decide),Q_HO,Q_HB,Q_C24,Q_C25⟩
           refine steps_cons ?_ ?_
           ·rintro b a w' ⟨ha,Q_BK12,Q_BK17,Q_BK18,Q_NW18,Q_HO,Q_HB,Q_C24,Q_C25⟩ hb_ hon hoff
            refine ⟨_,rfl,fun K hK=>?_⟩
            have e25 : a.tmps[25]? = some (.pointer (some ⟨g25_,0,none⟩)):=by rw [ha];exact (putSel_off rfl).trans rfl
            replace ha:=Aside0.mk ha
            have Qb:=Aside0.mk Q_BK12
            have Qa:=Aside0.mk Q_BK17
            have Qc:=Aside0.mk (Q_BK18 (hoff 3 (by kernel_rfl)))
            have HO:=Aside0.mk Q_HO
            have HB:=Aside0.mk Q_HB
            have C24:=Aside0.mk (Q_C24 (hoff 3 (by kernel_rfl)))
            have C25:=Aside0.mk (Q_C25 (hoff 3 (by kernel_rfl)))
            have hc0_ : w'.cell? ⟨g25_,0,none⟩ = some (.int .i64 ((T P j 0 k) + 1)):=(blk_cell C25.out 0).trans rfl
            have hc1_ : w'.cell? ⟨g25_,1,none⟩ = some (.int .i64 ((k : Int) - T P j 0 k)):=(blk_cell C25.out 1).trans rfl
            refine value_ (w1:=w') (v:=.agg #[.int .i64 ((T P j 0 k) + 1),.int .i64 ((k : Int) - T P j 0 k)]) (by rfl) rfl ?_ ?_
            ·go_simp
             (try simp only [i64_w])
             try rfl
            refine hK.out _ _ ⟨(by rw [ha.out];exact putSel_upk 1 hb_ rfl rfl rfl),Q_BK12,Q_BK17,Q_BK18,fun h0_=>absurd ((hoff 3 (by kernel_rfl)).symm.trans h0_) (by decide),Q_HO,Q_HB,Q_C24,Q_C25⟩
           refine steps_cons ?_ ?_
           ·rintro b a w' ⟨ha,Q_BK12,Q_BK17,Q_BK18,Q_NW18,Q_HO,Q_HB,Q_C24,Q_C25⟩ hb_ hon hoff
            refine ⟨_,rfl,fun K hK=>?_⟩
            have e17 : a.tmps[17]? = some (.pointer (some ⟨g17,0,none⟩)):=by rw [ha];exact (putSel_off rfl).trans rfl
            have e131 : a.tmps[131]? = some (.agg #[.int .i64 (j : Int),.int .u16 v0,.int .i64 0,.int .i64 0]):=by rw [ha];exact putSel_on (e:=(0,131,.agg #[.int .i64 (j : Int),.int .u16 v0,.int .i64 0,.int .i64 0])) 0 rfl rfl (hon 0 (by kernel_rfl)) rfl
            replace ha:=Aside0.mk ha
            have Qb:=Aside0.mk Q_BK12
            have Qa:=Aside0.mk Q_BK17
            have Qc:=Aside0.mk (Q_BK18 (hoff 3 (by kernel_rfl)))
            have HO:=Aside0.mk Q_HO
            have HB:=Aside0.mk Q_HB
            have C24:=Aside0.mk (Q_C24 (hoff 3 (by kernel_rfl)))
            have C25:=Aside0.mk (Q_C25 (hoff 3 (by kernel_rfl)))
            have hf0_:=blk_frozen Qa.out 0
            have hf1_:=blk_frozen Qa.out 1
            have hf2_:=blk_frozen Qa.out 2
            have hf3_:=blk_frozen Qa.out 3
            have hc0_ : w'.cell? ⟨g17,0,none⟩ = some (.int .i64 (j : Int)):=(blk_cell Qa.out 0).trans rfl
            have hc1_ : w'.cell? ⟨g17,1,none⟩ = some (.int .u16 v0):=(blk_cell Qa.out 1).trans rfl
            have hc2_ : w'.cell? ⟨g17,2,none⟩ = some (.int .i64 0):=(blk_cell Qa.out 2).trans rfl
            have hc3_ : w'.cell? ⟨g17,3,none⟩ = some (.int .i64 0):=(blk_cell Qa.out 3).trans rfl
            refine skip_ (w1:=?_) (by rfl) rfl ?_ ?_
            rotate_left
            ·go_simp
             rfl
            refine hK.out _ _ ⟨(by rw [ha.out];exact putSel_none (v:=undef) rfl),bf4_ Qb.out NB17.out _ _ _ _,bq4_ Qa.out _ _ _ _,fun _=>bf4_ Qc.out NE.out _ _ _ _,fun h0_=>absurd ((hoff 3 (by kernel_rfl)).symm.trans h0_) (by decide),rf4_ HO.out Qa.out (by decide) _ _ _ _,below_set (below_set (below_set (below_set HB.out Qe.out) Qe.out) Qe.out) Qe.out,fun _=>bf4_ C24.out (Ne.symm N24.out.2.1) _ _ _ _,fun _=>bf4_ C25.out (Ne.symm N25.out.2.1) _ _ _ _⟩
           refine steps_cons ?_ ?_
           ·rintro b a w' ⟨ha,Q_BK12,Q_BK17,Q_BK18,Q_NW18,Q_HO,Q_HB,Q_C24,Q_C25⟩ hb_ hon hoff
            refine ⟨_,rfl,fun K hK=>?_⟩
            have e18 : a.tmps[18]? = some (.pointer (some ⟨g18,0,none⟩)):=by rw [ha];exact (putSel_off rfl).trans rfl
            have e132 : a.tmps[132]? = some (.agg #[.int .i64 ((T P j 0 k) + 1),.int .i64 ((k : Int) - T P j 0 k)]):=by rw [ha];exact putSel_on (e:=(1,132,.agg #[.int .i64 ((T P j 0 k) + 1),.int .i64 ((k : Int) - T P j 0 k)])) 1 rfl rfl (hon 1 (by kernel_rfl)) rfl
            replace ha:=Aside0.mk ha
            have Qb:=Aside0.mk Q_BK12
            have Qa:=Aside0.mk Q_BK17
            have Qc:=Aside0.mk (Q_BK18 hb_)
            have HO:=Aside0.mk Q_HO
            have HB:=Aside0.mk Q_HB
            have C24:=Aside0.mk (Q_C24 hb_)
            have C25:=Aside0.mk (Q_C25 hb_)
            have hf0_:=blk_frozen Qc.out 0
            have hf1_:=blk_frozen Qc.out 1
            have hc0_ : w'.cell? ⟨g18,0,none⟩ = some (.int .i64 (T P j 0 k)):=(blk_cell Qc.out 0).trans rfl
            have hc1_ : w'.cell? ⟨g18,1,none⟩ = some (.int .i64 ((k : Int) - T P j 0 k)):=(blk_cell Qc.out 1).trans rfl
            refine skip_ (w1:=?_) (by rfl) rfl ?_ ?_
            rotate_left
            ·go_simp
             rfl
            refine hK.out _ _ ⟨(by rw [ha.out];exact putSel_none (v:=undef) rfl),blk_far (blk_far Qb.out NB18.out _) NB18.out _,blk_far (blk_far Qa.out ND.out _) ND.out _,fun h0_=>absurd ((up_self b 3).symm.trans h0_) (by decide),fun _=>by refine blk_put (cs:=#[.int .i64 ((T P j 0 k) + 1),.int .i64 ((k : Int) - T P j 0 k)]) ?_ 1 _ rfl;refine blk_put (cs:=#[.int .i64 (T P j 0 k),.int .i64 ((k : Int) - T P j 0 k)]) ?_ 0 _ rfl;exact Qc.out,rst_ (rst_ HO.out Qc.out (by decide) 0 _) (blk_put (cs:=#[.int .i64 (T P j 0 k),.int .i64 ((k : Int) - T P j 0 k)]) Qc.out 0 _ rfl) (by decide) 1 _,below_set (below_set HB.out Qf.out) Qf.out,fun h0_=>absurd ((up_self b 3).symm.trans h0_) (by decide),fun h0_=>absurd ((up_self b 3).symm.trans h0_) (by decide)⟩
           exact steps_nil
          rintro b a w32 hall ⟨ha,Q_BK12,Q_BK17,Q_BK18,Q_NW18,Q_HO,Q_HB,Q_C24,Q_C25⟩
          clear Qb Qa Qc C24 C25 HB HO
          have hb0_:=hall 0 (by kernel_rfl)
          have hb1_:=hall 1 (by kernel_rfl)
          have hb2_:=hall 2 (by kernel_rfl)
          have hb3_:=hall 3 (by kernel_rfl)
          subst ha
          simp only [putSel,hb0_,hb1_,hb2_,hb3_,if_true,Act.put,List.setIfInBounds_toArray,List.set_cons_zero,List.set_cons_succ]
          have Qb:=Aside0.mk Q_BK12
          clear Q_BK12
          have Qa:=Aside0.mk Q_BK17
          clear Q_BK17
          clear Q_BK18
          have NW18:=Aside0.mk (Q_NW18 hb3_)
          clear Q_NW18
          have HO:=Aside0.mk Q_HO
          clear Q_HO
          have HB:=Aside0.mk Q_HB
          clear Q_HB
          clear Q_C24
          clear Q_C25
          clear hall hb0_ hb1_ hb2_ hb3_
          clear b
          go_wp2
          have hT2 : T P j 0 (k + 1) = T P j 0 k + 1:=by rw [T_succ,← HNODE.out,getD_rd hmn,hy,if_pos rfl]
          have hF2 : ((k + 1 : Nat) : Int) - T P j 0 (k + 1) = (k : Int) - T P j 0 k:=by rw [hT2];omega
          go_roundg k3
          case measure=>omega
          case rel=>exact ⟨k + 1,by first|rfl|(simp;done),⟨by have:=HK.out;omega⟩,HO,Qb,Qa,⟨by rw [hF2,hT2];exact NW18.out⟩,HB⟩
        ·rw [hy] at hx108_0
         go_upto_region 28 with (fail)
         have hTb:=T_bounds P j 0 k
         have hA : 0 ≤ (T P j 0 k)∧(T P j 0 k) ≤ 100:=by omega
         have hF : 0 ≤ ((k : Int) - T P j 0 k)∧((k : Int) - T P j 0 k) ≤ 100:=by omega
         have hjb : tb v0 j = true:=own_bit HPI.out.b0 hjP hP16 hx
         have hwv : withoutG v0 (m : Int) = v0:=without_same HPI.out.g0 (by omega) (far_bit HPI.out.b0 hmn hP16 hy (by decide))
         have hne : withG v0 (m : Int) ≠ v1:=far_vec (j:=j) (by rw [tb_with HPI.out.g0,hjb];rfl) (far_bit HPI.out.b1 hjP hP16 hx (by decide))
         have HRES : Aside0 (vector_Result.f [withG v0 (m : Int)] v1 = some 1):=⟨result_other hne⟩
         have HFOL:=Aside0.mk (follow_other (j:=j) (m:=m) (A:=(T P j 0 k)) (F:=((k : Int) - T P j 0 k)) (by omega) (by omega) hmj hwv hA hF)
         clear hcz_0 hcz_1
         try clear hcz_2 hcz_3
         have n0_:=Aside0.mk (blk_drew Qb.out);have n1_:=Aside0.mk (blk_drew Qa.out);have n2_:=Aside0.mk (blk_drew Qc.out);have n3_:=Aside0.mk (Kd.R_drew HO.out);have n4_:=Aside0.mk (Kd.R_drew HL.out);have n5_:=Aside0.mk (below_drew1 HB.out);clear Qb Qa Qc HO HL HB;have Qb:=n0_;have Qa:=n1_;have Qc:=n2_;have HO:=n3_;have HL:=n4_;have HB:=n5_;clear n0_ n1_ n2_ n3_ n4_ n5_
         as_aux_lemma =>
          refine start_ (n:=18) (S:=fun w'=>True) (ds:=[]) #[false,false,false,false,false,false,false,false,false,false,false,false,false,false,false,false,false,false] (by kernel_rfl) rfl rfl trivial (fun hHeld=>?_)
          refine with_tabW cliqueParties.tab28 cliqueParties.bits28 (fun HT_ HW_=>?_)
          generalize w26.drew = w27 at Qb Qa Qc HO HL HB ⊢
          refine pure_ (i:=2) (N:=some 116) (v:=?_) (a':=?_) #[false,false,true,false,false,false,false,false,false,false,false,false,false,false,false,false,false,false] rfl rfl (any_of HT_.out (by kernel_rfl)) (fun _ _ _ h=>h) (Or.inl ⟨by rfl,?_⟩) ?_ ?_
          rotate_left
          ·intro w'
           go_simp
           with_reducible rfl
          rotate_left
          ·simp only [Act.put,List.setIfInBounds_toArray,List.set_cons_zero,List.set_cons_succ,i64_w,i32_w]
           rfl
          refine pure_ (i:=3) (N:=some 117) (v:=?_) (a':=?_) #[false,false,true,true,false,false,false,false,false,false,false,false,false,false,false,false,false,false] rfl rfl (any_of HT_.out (by kernel_rfl)) (fun _ _ _ h=>h) (Or.inl ⟨by rfl,?_⟩) ?_ ?_
          rotate_left
          ·intro w'
           go_simp
           with_reducible rfl
          rotate_left
          ·simp only [Act.put,List.setIfInBounds_toArray,List.set_cons_zero,List.set_cons_succ,i64_w,i32_w]
           rfl
          refine pure_ (i:=4) (N:=some 118) (v:=?_) (a':=?_) #[false,false,true,true,true,false,false,false,false,false,false,false,false,false,false,false,false,false] rfl rfl (any_of HT_.out (by kernel_rfl)) (fun _ _ _ h=>h) (Or.inl ⟨by rfl,?_⟩) ?_ ?_
          rotate_left
          ·intro w'
           go_simp
           with_reducible rfl
          rotate_left
          ·simp only [Act.put,List.setIfInBounds_toArray,List.set_cons_zero,List.set_cons_succ,i64_w,i32_w]
           rfl
          refine inv_at [0,1,5,6,7,8,9,10,11,12,13,14,15,16,17] (fun a0_ b a w'=>∃ (g24_ : Nat) (g25_ : Nat) (m12_ : Value) (m13_ : Value),a = putSel a0_ b [(0,114,.agg #[.int .i64 (j : Int),.int .u16 v0,.int .i64 0,.int .i64 0]),(1,115,.agg #[.int .i64 (T P j 0 k),.int .i64 ((k : Int) - T P j 0 k)]),(5,119,.int .i64 1),(6,120,.tuple #[.agg #[.int .i64 (j : Int),.int .u16 v0,.int .i64 0,.int .i64 0],.agg #[.int .i64 (T P j 0 k),.int .i64 (((k : Int) - T P j 0 k) + 1)],.int .i64 2,.int .i64 0]),(7,113,.tuple #[.agg #[.int .i64 (j : Int),.int .u16 v0,.int .i64 0,.int .i64 0],.agg #[.int .i64 (T P j 0 k),.int .i64 (((k : Int) - T P j 0 k) + 1)],.int .i64 2,.int .i64 0]),(8,121,.agg #[.int .i64 (j : Int),.int .u16 v0,.int .i64 0,.int .i64 0]),(9,122,.agg #[.int .i64 (T P j 0 k),.int .i64 (((k : Int) - T P j 0 k) + 1)]),(10,123,.int .i64 2),(11,124,.int .i64 0),(12,24,m12_),(13,25,m13_),(16,26,.int .i64 2),(17,27,.int .i64 0)]∧(w'.heap[g12]? = some (.cells #[.int .u16 v0,.int .u16 v1] 47 (0,0)))∧(w'.heap[g17]? = some (.cells #[.int .i64 (j : Int),.int .u16 v0,.int .i64 0,.int .i64 0] 34 (0,0)))∧(w'.heap[g18]? = some (.cells #[.int .i64 (T P j 0 k),.int .i64 ((k : Int) - T P j 0 k)] 23 (0,0)))∧(Kd.R (Kd.int .i64) 3 w' w.heap.size (fun _=>True) (.slice (some ad85) P.length co) P)∧(Kd.R (Kd.int .u16) 32 w' w.heap.size (fun _=>True) (.slice Al [withG v0 (m : Int)].length cl) [withG v0 (m : Int)])∧(Below w.heap.size w w')∧(b 12 = true→b 14 = false→w'.heap[g24_]? = some (.cells #[.int .i64 0,.int .u16 0,.int .i64 0,.int .i64 0] 34 (0,0)))∧(b 14 = true→w'.heap[g24_]? = some (.cells #[.int .i64 (j : Int),.int .u16 v0,.int .i64 0,.int .i64 0] 34 (0,0)))∧(b 13 = true→b 15 = false→w'.heap[g25_]? = some (.cells #[.int .i64 0,.int .i64 0] 23 (0,0)))∧(b 15 = true→w'.heap[g25_]? = some (.cells #[.int .i64 (T P j 0 k),.int .i64 (((k : Int) - T P j 0 k) + 1)] 23 (0,0)))∧(b 12 = true→w.heap.size ≤ g24_)∧(b 13 = true→w.heap.size ≤ g25_)∧(b 12 = true→g12 ≠ g24_∧g17 ≠ g24_∧g18 ≠ g24_)∧(b 13 = true→g12 ≠ g25_∧g17 ≠ g25_∧g18 ≠ g25_)∧(b 12 = true→(m12_ : Value) = .pointer (some ⟨g24_,0,none⟩))∧(b 13 = true→(m13_ : Value) = .pointer (some ⟨g25_,0,none⟩))) HT_.out HW_.out (by kernel_rfl) (by kernel_rfl) ?_ ?_ ?_
          ·exact ⟨0,0,.bool false,.bool false,by simp only [putSel,Bool.false_eq_true,if_false],Qb.out,Qa.out,Qc.out,HO.out,HL.out,HB.out,fun h_=>absurd h_ (by decide),fun h_=>absurd h_ (by decide),fun h_=>absurd h_ (by decide),fun h_=>absurd h_ (by decide),fun h_=>absurd h_ (by decide),fun h_=>absurd h_ (by decide),fun h_=>absurd h_ (by decide),fun h_=>absurd h_ (by decide),fun h_=>absurd h_ (by decide),fun h_=>absurd h_ (by decide)⟩
          ·skip
           clear Qb Qa Qc HB HL HO
           refine steps_cons ?_ ?_
           ·rintro b a w' ⟨g24_,g25_,m12_,m13_,ha,Q_BK12,Q_BK17,Q_BK18,Q_HO,Q_HL,Q_HB,Q_B24,Q_C24,Q_B25,Q_C25,Q_E24,Q_E25,Q_N24,Q_N25,Q_X12_,Q_X13_⟩ hb_ hon hoff
            refine ⟨_,rfl,fun K hK=>?_⟩
            have e17 : a.tmps[17]? = some (.pointer (some ⟨g17,0,none⟩)):=by rw [ha];exact (putSel_off rfl).trans rfl
            replace ha:=Aside0.mk ha
            have Qb:=Aside0.mk Q_BK12
            have Qa:=Aside0.mk Q_BK17
            have Qc:=Aside0.mk Q_BK18
            have HO:=Aside0.mk Q_HO
            have HL:=Aside0.mk Q_HL
            have HB:=Aside0.mk Q_HB
            have hc0_ : w'.cell? ⟨g17,0,none⟩ = some (.int .i64 (j : Int)):=(blk_cell Qa.out 0).trans rfl
            have hc1_ : w'.cell? ⟨g17,1,none⟩ = some (.int .u16 v0):=(blk_cell Qa.out 1).trans rfl
            have hc2_ : w'.cell? ⟨g17,2,none⟩ = some (.int .i64 0):=(blk_cell Qa.out 2).trans rfl
            have hc3_ : w'.cell? ⟨g17,3,none⟩ = some (.int .i64 0):=(blk_cell Qa.out 3).trans rfl
            refine value_ (w1:=w') (v:=.agg #[.int .i64 (j : Int),.int .u16 v0,.int .i64 0,.int .i64 0]) (by rfl) rfl ?_ ?_
            ·go_simp
             (try simp only [i64_w])
             try rfl
            refine hK.out _ _ ⟨g24_,g25_,m12_,m13_,(by rw [ha.out];exact putSel_upk 0 hb_ rfl rfl rfl),Q_BK12,Q_BK17,Q_BK18,Q_HO,Q_HL,Q_HB,Q_B24,fun h0_=>absurd ((hoff 14 (by kernel_rfl)).symm.trans h0_) (by decide),Q_B25,fun h0_=>absurd ((hoff 15 (by kernel_rfl)).symm.trans h0_) (by decide),Q_E24,Q_E25,Q_N24,Q_N25,Q_X12_,Q_X13_⟩
           refine steps_cons ?_ ?_
           ·rintro b a w' ⟨g24_,g25_,m12_,m13_,ha,Q_BK12,Q_BK17,Q_BK18,Q_HO,Q_HL,Q_HB,Q_B24,Q_C24,Q_B25,Q_C25,Q_E24,Q_E25,Q_N24,Q_N25,Q_X12_,Q_X13_⟩ hb_ hon hoff
            refine ⟨_,rfl,fun K hK=>?_⟩
            have e18 : a.tmps[18]? = some (.pointer (some ⟨g18,0,none⟩)):=by rw [ha];exact (putSel_off rfl).trans rfl
            replace ha:=Aside0.mk ha
            have Qb:=Aside0.mk Q_BK12
            have Qa:=Aside0.mk Q_BK17
            have Qc:=Aside0.mk Q_BK18
            have HO:=Aside0.mk Q_HO
            have HL:=Aside0.mk Q_HL
            have HB:=Aside0.mk Q_HB
            have hc0_ : w'.cell? ⟨g18,0,none⟩ = some (.int .i64 (T P j 0 k)):=(blk_cell Qc.out 0).trans rfl
            have hc1_ : w'.cell? ⟨g18,1,none⟩ = some (.int .i64 ((k : Int) - T P j 0 k)):=(blk_cell Qc.out 1).trans rfl
            refine value_ (w1:=w') (v:=.agg #[.int .i64 (T P j 0 k),.int .i64 ((k : Int) - T P j 0 k)]) (by rfl) rfl ?_ ?_
            ·go_simp
             (try simp only [i64_w])
             try rfl
            refine hK.out _ _ ⟨g24_,g25_,m12_,m13_,(by rw [ha.out];exact putSel_upk 1 hb_ rfl rfl rfl),Q_BK12,Q_BK17,Q_BK18,Q_HO,Q_HL,Q_HB,Q_B24,fun h0_=>absurd ((hoff 14 (by kernel_rfl)).symm.trans h0_) (by decide),Q_B25,fun h0_=>absurd ((hoff 15 (by kernel_rfl)).symm.trans h0_) (by decide),Q_E24,Q_E25,Q_N24,Q_N25,Q_X12_,Q_X13_⟩
           refine steps_cons ?_ ?_
           ·rintro b a w' ⟨g24_,g25_,m12_,m13_,ha,Q_BK12,Q_BK17,Q_BK18,Q_HO,Q_HL,Q_HB,Q_B24,Q_C24,Q_B25,Q_C25,Q_E24,Q_E25,Q_N24,Q_N25,Q_X12_,Q_X13_⟩ hb_ hon hoff
            refine ⟨_,rfl,fun K hK=>?_⟩
            have e117 : a.tmps[117]? = some (.slice Al [withG v0 (m : Int)].length cl):=by rw [ha];exact (putSel_off rfl).trans rfl
            have e118 : a.tmps[118]? = some (.int .u16 v1):=by rw [ha];exact (putSel_off rfl).trans rfl
            replace ha:=Aside0.mk ha
            have Qb:=Aside0.mk Q_BK12
            have Qa:=Aside0.mk Q_BK17
            have Qc:=Aside0.mk Q_BK18
            have HO:=Aside0.mk Q_HO
            have HL:=Aside0.mk Q_HL
            have HB:=Aside0.mk Q_HB
            refine goes_ Try.func20 (by kernel_rfl) rfl #[.slice Al [withG v0 (m : Int)].length cl,.int .u16 v1] (by rfl) rfl rfl (by first|(simp only [List.map_toArray,List.map_cons,List.map_nil,Act.eval,Array.getD_eq_getD_getElem?,Option.getD_some,e117,e118];done)|(simp only [List.map_toArray,List.map_cons,List.map_nil,Act.eval,Array.getD_eq_getD_getElem?,Option.getD_some,e117,e118];rfl)) ?_
            (refine (vector_Result.calls _ _ [withG v0 (m : Int)] v1 1 _ ?side1 ?side2 HRES.out).mono ?_);(case side1=>exact (Kd.R_reads' HL.out).2.2);(case side2=>exact (Kd.R_reads' HL.out).2.1)
            rintro e w28 ⟨rfl,hb⟩
            refine ⟨_,rfl,?_⟩
            refine hK.out _ _ ⟨g24_,g25_,m12_,m13_,(by rw [ha.out];exact putSel_upk 2 hb_ rfl rfl rfl),blk_below Qb.out hb,blk_below Qa.out hb,blk_below Qc.out hb,Kd.R_below HO.out hb,Kd.R_below HL.out hb,below_step HB.out hb,fun h0_ h1_=>blk_below (Q_B24 h0_ h1_) hb,fun h0_=>absurd ((hoff 14 (by kernel_rfl)).symm.trans h0_) (by decide),fun h0_ h1_=>blk_below (Q_B25 h0_ h1_) hb,fun h0_=>absurd ((hoff 15 (by kernel_rfl)).symm.trans h0_) (by decide),Q_E24,Q_E25,Q_N24,Q_N25,Q_X12_,Q_X13_⟩
           refine steps_cons ?_ ?_
           ·rintro b a w' ⟨g24_,g25_,m12_,m13_,ha,Q_BK12,Q_BK17,Q_BK18,Q_HO,Q_HL,Q_HB,Q_B24,Q_C24,Q_B25,Q_C25,Q_E24,Q_E25,Q_N24,Q_N25,Q_X12_,Q_X13_⟩ hb_ hon hoff
            refine ⟨_,rfl,fun K hK=>?_⟩
            have e114 : a.tmps[114]? = some (.agg #[.int .i64 (j : Int),.int .u16 v0,.int .i64 0,.int .i64 0]):=by rw [ha];exact putSel_on (e:=(0,114,.agg #[.int .i64 (j : Int),.int .u16 v0,.int .i64 0,.int .i64 0])) 0 rfl rfl (hon 0 (by kernel_rfl)) rfl
            have e115 : a.tmps[115]? = some (.agg #[.int .i64 (T P j 0 k),.int .i64 ((k : Int) - T P j 0 k)]):=by rw [ha];exact putSel_on (e:=(1,115,.agg #[.int .i64 (T P j 0 k),.int .i64 ((k : Int) - T P j 0 k)])) 1 rfl rfl (hon 1 (by kernel_rfl)) rfl
            have e116 : a.tmps[116]? = some (.int .i64 (m : Int)):=by rw [ha];exact (putSel_off rfl).trans rfl
            have e119 : a.tmps[119]? = some (.int .i64 1):=by rw [ha];exact putSel_on (e:=(5,119,.int .i64 1)) 2 rfl rfl (hon 5 (by kernel_rfl)) rfl
            replace ha:=Aside0.mk ha
            have Qb:=Aside0.mk Q_BK12
            have Qa:=Aside0.mk Q_BK17
            have Qc:=Aside0.mk Q_BK18
            have HO:=Aside0.mk Q_HO
            have HL:=Aside0.mk Q_HL
            have HB:=Aside0.mk Q_HB
            refine goes_ Try.func12 (by kernel_rfl) rfl #[.agg #[.int .i64 (j : Int),.int .u16 v0,.int .i64 0,.int .i64 0],.agg #[.int .i64 (T P j 0 k),.int .i64 ((k : Int) - T P j 0 k)],.int .i64 (m : Int),.int .i64 1] (by rfl) rfl rfl (by first|(simp only [List.map_toArray,List.map_cons,List.map_nil,Act.eval,Array.getD_eq_getD_getElem?,Option.getD_some,e114,e115,e116,e119];done)|(simp only [List.map_toArray,List.map_cons,List.map_nil,Act.eval,Array.getD_eq_getD_getElem?,Option.getD_some,e114,e115,e116,e119];rfl)) ?_
            (with_reducible refine (clique_Follow.calls _ _ _ _ _ _ _ _ _ _ _ _ _ _ _ _ _ HFOL.out).mono ?_)
            rintro e w29 ⟨rfl,hb⟩
            refine ⟨_,rfl,?_⟩
            refine hK.out _ _ ⟨g24_,g25_,m12_,m13_,(by rw [ha.out];exact putSel_upk 3 hb_ rfl rfl rfl),blk_below Qb.out hb,blk_below Qa.out hb,blk_below Qc.out hb,Kd.R_below HO.out hb,Kd.R_below HL.out hb,below_step HB.out hb,fun h0_ h1_=>blk_below (Q_B24 h0_ h1_) hb,fun h0_=>absurd ((hoff 14 (by kernel_rfl)).symm.trans h0_) (by decide),fun h0_ h1_=>blk_below (Q_B25 h0_ h1_) hb,fun h0_=>absurd ((hoff 15 (by kernel_rfl)).symm.trans h0_) (by decide),Q_E24,Q_E25,Q_N24,Q_N25,Q_X12_,Q_X13_⟩
           refine steps_cons ?_ ?_
           ·rintro b a w' ⟨g24_,g25_,m12_,m13_,ha,Q_BK12,Q_BK17,Q_BK18,Q_HO,Q_HL,Q_HB,Q_B24,Q_C24,Q_B25,Q_C25,Q_E24,Q_E25,Q_N24,Q_N25,Q_X12_,Q_X13_⟩ hb_ hon hoff
            refine ⟨_,rfl,fun K hK=>?_⟩
            have e120 : a.tmps[120]? = some (.tuple #[.agg #[.int .i64 (j : Int),.int .u16 v0,.int .i64 0,.int .i64 0],.agg #[.int .i64 (T P j 0 k),.int .i64 (((k : Int) - T P j 0 k) + 1)],.int .i64 2,.int .i64 0]):=by rw [ha];exact putSel_on (e:=(6,120,.tuple #[.agg #[.int .i64 (j : Int),.int .u16 v0,.int .i64 0,.int .i64 0],.agg #[.int .i64 (T P j 0 k),.int .i64 (((k : Int) - T P j 0 k) + 1)],.int .i64 2,.int .i64 0])) 3 rfl rfl (hon 6 (by kernel_rfl)) rfl
            replace ha:=Aside0.mk ha
            have Qb:=Aside0.mk Q_BK12
            have Qa:=Aside0.mk Q_BK17
            have Qc:=Aside0.mk Q_BK18
            have HO:=Aside0.mk Q_HO
            have HL:=Aside0.mk Q_HL
            have HB:=Aside0.mk Q_HB
            refine value_ (w1:=w') (v:=.tuple #[.agg #[.int .i64 (j : Int),.int .u16 v0,.int .i64 0,.int .i64 0],.agg #[.int .i64 (T P j 0 k),.int .i64 (((k : Int) - T P j 0 k) + 1)],.int .i64 2,.int .i64 0]) (by rfl) rfl ?_ ?_
            ·go_simp
             (try simp only [i64_w])
             try rfl
            refine hK.out _ _ ⟨g24_,g25_,m12_,m13_,(by rw [ha.out];exact putSel_upk 4 hb_ rfl rfl rfl),Q_BK12,Q_BK17,Q_BK18,Q_HO,Q_HL,Q_HB,Q_B24,fun h0_=>absurd ((hoff 14 (by kernel_rfl)).symm.trans h0_) (by decide),Q_B25,fun h0_=>absurd ((hoff 15 (by kernel_rfl)).symm.trans h0_) (by decide),Q_E24,Q_E25,Q_N24,Q_N25,Q_X12_,Q_X13_⟩
           refine steps_cons ?_ ?_
           ·rintro b a w' ⟨g24_,g25_,m12_,m13_,ha,Q_BK12,Q_BK17,Q_BK18,Q_HO,Q_HL,Q_HB,Q_B24,Q_C24,Q_B25,Q_C25,Q_E24,Q_E25,Q_N24,Q_N25,Q_X12_,Q_X13_⟩ hb_ hon hoff
            refine ⟨_,rfl,fun K hK=>?_⟩
            have e113 : a.tmps[113]? = some (.tuple #[.agg #[.int .i64 (j : Int),.int .u16 v0,.int .i64 0,.int .i64 0],.agg #[.int .i64 (T P j 0 k),.int .i64 (((k : Int) - T P j 0 k) + 1)],.int .i64 2,.int .i64 0]):=by rw [ha];exact putSel_on (e:=(7,113,.tuple #[.agg #[.int .i64 (j : Int),.int .u16 v0,.int .i64 0,.int .i64 0],.agg #[.int .i64 (T P j 0 k),.int .i64 (((k : Int) - T P j 0 k) + 1)],.int .i64 2,.int .i64 0])) 4 rfl rfl (hon 7 (by kernel_rfl)) rfl
            replace ha:=Aside0.mk ha
            have Qb:=Aside0.mk Q_BK12
            have Qa:=Aside0.mk Q_BK17
            have Qc:=Aside0.mk Q_BK18
            have HO:=Aside0.mk Q_HO
            have HL:=Aside0.mk Q_HL
            have HB:=Aside0.mk Q_HB
            refine value_ (w1:=w') (v:=.agg #[.int .i64 (j : Int),.int .u16 v0,.int .i64 0,.int .i64 0]) (by rfl) rfl ?_ ?_
            ·go_simp
             (try simp only [i64_w])
             try rfl
            refine hK.out _ _ ⟨g24_,g25_,m12_,m13_,(by rw [ha.out];exact putSel_upk 5 hb_ rfl rfl rfl),Q_BK12,Q_BK17,Q_BK18,Q_HO,Q_HL,Q_HB,Q_B24,fun h0_=>absurd ((hoff 14 (by kernel_rfl)).symm.trans h0_) (by decide),Q_B25,fun h0_=>absurd ((hoff 15 (by kernel_rfl)).symm.trans h0_) (by decide),Q_E24,Q_E25,Q_N24,Q_N25,Q_X12_,Q_X13_⟩
           refine steps_cons ?_ ?_
           ·rintro b a w' ⟨g24_,g25_,m12_,m13_,ha,Q_BK12,Q_BK17,Q_BK18,Q_HO,Q_HL,Q_HB,Q_B24,Q_C24,Q_B25,Q_C25,Q_E24,Q_E25,Q_N24,Q_N25,Q_X12_,Q_X13_⟩ hb_ hon hoff
            refine ⟨_,rfl,fun K hK=>?_⟩
            have e113 : a.tmps[113]? = some (.tuple #[.agg #[.int .i64 (j : Int),.int .u16 v0,.int .i64 0,.int .i64 0],.agg #[.int .i64 (T P j 0 k),.int .i64 (((k : Int) - T P j 0 k) + 1)],.int .i64 2,.int .i64 0]):=by rw [ha];exact putSel_on (e:=(7,113,.tuple #[.agg #[.int .i64 (j : Int),.int .u16 v0,.int .i64 0,.int .i64 0],.agg #[.int .i64 (T P j 0 k),.int .i64 (((k : Int) - T P j 0 k) + 1)],.int .i64 2,.int .i64 0])) 4 rfl rfl (hon 7 (by kernel_rfl)) rfl
            replace ha:=Aside0.mk ha
            have Qb:=Aside0.mk Q_BK12
            have Qa:=Aside0.mk Q_BK17
            have Qc:=Aside0.mk Q_BK18
            have HO:=Aside0.mk Q_HO
            have HL:=Aside0.mk Q_HL
            have HB:=Aside0.mk Q_HB
            refine value_ (w1:=w') (v:=.agg #[.int .i64 (T P j 0 k),.int .i64 (((k : Int) - T P j 0 k) + 1)]) (by rfl) rfl ?_ ?_
            ·go_simp
             (try simp only [i64_w])
             try rfl
            refine hK.out _ _ ⟨g24_,g25_,m12_,m13_,(by rw [ha.out];exact putSel_upk 6 hb_ rfl rfl rfl),Q_BK12,Q_BK17,Q_BK18,Q_HO,Q_HL,Q_HB,Q_B24,Q_C24,Q_B25,fun h0_=>absurd ((hoff 15 (by kernel_rfl)).symm.trans h0_) (by decide),Q_E24,Q_E25,Q_N24,Q_N25,Q_X12_,Q_X13_⟩
           refine steps_cons ?_ ?_
           ·rintro b a w' ⟨g24_,g25_,m12_,m13_,ha,Q_BK12,Q_BK17,Q_BK18,Q_HO,Q_HL,Q_HB,Q_B24,Q_C24,Q_B25,Q_C25,Q_E24,Q_E25,Q_N24,Q_N25,Q_X12_,Q_X13_⟩ hb_ hon hoff
            refine ⟨_,rfl,fun K hK=>?_⟩
            have e113 : a.tmps[113]? = some (.tuple #[.agg #[.int .i64 (j : Int),.int .u16 v0,.int .i64 0,.int .i64 0],.agg #[.int .i64 (T P j 0 k),.int .i64 (((k : Int) - T P j 0 k) + 1)],.int .i64 2,.int .i64 0]):=by rw [ha];exact putSel_on (e:=(7,113,.tuple #[.agg #[.int .i64 (j : Int),.int .u16 v0,.int .i64 0,.int .i64 0],.agg #[.int .i64 (T P j 0 k),.int .i64 (((k : Int) - T P j 0 k) + 1)],.int .i64 2,.int .i64 0])) 4 rfl rfl (hon 7 (by kernel_rfl)) rfl
            replace ha:=Aside0.mk ha
            have Qb:=Aside0.mk Q_BK12
            have Qa:=Aside0.mk Q_BK17
            have Qc:=Aside0.mk Q_BK18
            have HO:=Aside0.mk Q_HO
            have HL:=Aside0.mk Q_HL
            have HB:=Aside0.mk Q_HB
            refine value_ (w1:=w') (v:=.int .i64 2) (by rfl) rfl ?_ ?_
            ·go_simp
             (try simp only [i64_w])
             try rfl
            refine hK.out _ _ ⟨g24_,g25_,m12_,m13_,(by rw [ha.out];exact putSel_upk 7 hb_ rfl rfl rfl),Q_BK12,Q_BK17,Q_BK18,Q_HO,Q_HL,Q_HB,Q_B24,Q_C24,Q_B25,Q_C25,Q_E24,Q_E25,Q_N24,Q_N25,Q_X12_,Q_X13_⟩
           refine steps_cons ?_ ?_
           ·rintro b a w' ⟨g24_,g25_,m12_,m13_,ha,Q_BK12,Q_BK17,Q_BK18,Q_HO,Q_HL,Q_HB,Q_B24,Q_C24,Q_B25,Q_C25,Q_E24,Q_E25,Q_N24,Q_N25,Q_X12_,Q_X13_⟩ hb_ hon hoff
            refine ⟨_,rfl,fun K hK=>?_⟩
            have e113 : a.tmps[113]? = some (.tuple #[.agg #[.int .i64 (j : Int),.int .u16 v0,.int .i64 0,.int .i64 0],.agg #[.int .i64 (T P j 0 k),.int .i64 (((k : Int) - T P j 0 k) + 1)],.int .i64 2,.int .i64 0]):=by rw [ha];exact putSel_on (e:=(7,113,.tuple #[.agg #[.int .i64 (j : Int),.int .u16 v0,.int .i64 0,.int .i64 0],.agg #[.int .i64 (T P j 0 k),.int .i64 (((k : Int) - T P j 0 k) + 1)],.int .i64 2,.int .i64 0])) 4 rfl rfl (hon 7 (by kernel_rfl)) rfl
            replace ha:=Aside0.mk ha
            have Qb:=Aside0.mk Q_BK12
            have Qa:=Aside0.mk Q_BK17
            have Qc:=Aside0.mk Q_BK18
            have HO:=Aside0.mk Q_HO
            have HL:=Aside0.mk Q_HL
            have HB:=Aside0.mk Q_HB
            refine value_ (w1:=w') (v:=.int .i64 0) (by rfl) rfl ?_ ?_
            ·go_simp
             (try simp only [i64_w])
             try rfl
            refine hK.out _ _ ⟨g24_,g25_,m12_,m13_,(by rw [ha.out];exact putSel_upk 8 hb_ rfl rfl rfl),Q_BK12,Q_BK17,Q_BK18,Q_HO,Q_HL,Q_HB,Q_B24,Q_C24,Q_B25,Q_C25,Q_E24,Q_E25,Q_N24,Q_N25,Q_X12_,Q_X13_⟩
           refine steps_cons ?_ ?_
           ·rintro b a w' ⟨g24_,g25_,m12_,m13_,ha,Q_BK12,Q_BK17,Q_BK18,Q_HO,Q_HL,Q_HB,Q_B24,Q_C24,Q_B25,Q_C25,Q_E24,Q_E25,Q_N24,Q_N25,Q_X12_,Q_X13_⟩ hb_ hon hoff
            refine ⟨_,rfl,fun K hK=>?_⟩
            replace ha:=Aside0.mk ha
            have Qb:=Aside0.mk Q_BK12
            have Qa:=Aside0.mk Q_BK17
            have Qc:=Aside0.mk Q_BK18
            have HO:=Aside0.mk Q_HO
            have HL:=Aside0.mk Q_HL
            have HB:=Aside0.mk Q_HB
            refine box_step ?hg (N:=24) ?hd (cs:=#[.int .i64 0,.int .u16 0,.int .i64 0,.int .i64 0]) (t:=34) ?hr ?_;(case hd=>rfl);(case hg=>rfl);(case hr=>first|(go_simp;done)|(go_simp;rfl))
            intro gn hg wn hbox hb
            refine hK.out _ _ ⟨gn,g25_,(.pointer (some ⟨gn,0,none⟩)),m13_,(by rw [ha.out];exact putSel_upk 9 hb_ rfl rfl rfl),blk_below Qb.out hb,blk_below Qa.out hb,blk_below Qc.out hb,Kd.R_below HO.out hb,Kd.R_below HL.out hb,below_step HB.out hb,fun _ _=>hbox,fun h0_=>absurd ((hoff 14 (by kernel_rfl)).symm.trans h0_) (by decide),fun h0_ h1_=>blk_below (Q_B25 h0_ h1_) hb,fun h0_=>absurd ((hoff 15 (by kernel_rfl)).symm.trans h0_) (by decide),fun _=>by rw [hg];exact below_size HB.out,Q_E25,fun _=>⟨by rw [hg];exact Nat.ne_of_lt (blk_lt Qb.out),by rw [hg];exact Nat.ne_of_lt (blk_lt Qa.out),by rw [hg];exact Nat.ne_of_lt (blk_lt Qc.out)⟩,Q_N25,fun _=>rfl,Q_X13_⟩
           refine steps_cons ?_ ?_
           ·rintro b a w' ⟨g24_,g25_,m12_,m13_,ha,Q_BK12,Q_BK17,Q_BK18,Q_HO,Q_HL,Q_HB,Q_B24,Q_C24,Q_B25,Q_C25,Q_E24,Q_E25,Q_N24,Q_N25,Q_X12_,Q_X13_⟩ hb_ hon hoff
            refine ⟨_,rfl,fun K hK=>?_⟩
            replace ha:=Aside0.mk ha
            have Qb:=Aside0.mk Q_BK12
            have Qa:=Aside0.mk Q_BK17
            have Qc:=Aside0.mk Q_BK18
            have HO:=Aside0.mk Q_HO
            have HL:=Aside0.mk Q_HL
            have HB:=Aside0.mk Q_HB
            refine box_step ?hg (N:=25) ?hd (cs:=#[.int .i64 0,.int .i64 0]) (t:=23) ?hr ?_;(case hd=>rfl);(case hg=>rfl);(case hr=>first|(go_simp;done)|(go_simp;rfl))
            intro gn hg wn hbox hb
            refine hK.out _ _ ⟨g24_,gn,m12_,(.pointer (some ⟨gn,0,none⟩)),(by rw [ha.out];exact putSel_upk 10 hb_ rfl rfl rfl),blk_below Qb.out hb,blk_below Qa.out hb,blk_below Qc.out hb,Kd.R_below HO.out hb,Kd.R_below HL.out hb,below_step HB.out hb,fun h0_ h1_=>blk_below (Q_B24 h0_ h1_) hb,fun h0_=>absurd ((hoff 14 (by kernel_rfl)).symm.trans h0_) (by decide),fun _ _=>hbox,fun h0_=>absurd ((hoff 15 (by kernel_rfl)).symm.trans h0_) (by decide),Q_E24,fun _=>by rw [hg];exact below_size HB.out,Q_N24,fun _=>⟨by rw [hg];exact Nat.ne_of_lt (blk_lt Qb.out),by rw [hg];exact Nat.ne_of_lt (blk_lt Qa.out),by rw [hg];exact Nat.ne_of_lt (blk_lt Qc.out)⟩,Q_X12_,fun _=>rfl⟩
           refine steps_cons ?_ ?_
           ·rintro b a w' ⟨g24_,g25_,m12_,m13_,ha,Q_BK12,Q_BK17,Q_BK18,Q_HO,Q_HL,Q_HB,Q_B24,Q_C24,Q_B25,Q_C25,Q_E24,Q_E25,Q_N24,Q_N25,Q_X12_,Q_X13_⟩ hb_ hon hoff
            refine ⟨_,rfl,fun K hK=>?_⟩
            have e24 : a.tmps[24]? = some (m12_):=by rw [ha];exact putSel_on (e:=(12,24,m12_)) 9 rfl rfl (hon 12 (by kernel_rfl)) rfl
            rw [Q_X12_ (hon 12 (by kernel_rfl))] at e24
            have e121 : a.tmps[121]? = some (.agg #[.int .i64 (j : Int),.int .u16 v0,.int .i64 0,.int .i64 0]):=by rw [ha];exact putSel_on (e:=(8,121,.agg #[.int .i64 (j : Int),.int .u16 v0,.int .i64 0,.int .i64 0])) 5 rfl rfl (hon 8 (by kernel_rfl)) rfl
            replace ha:=Aside0.mk ha
            have Qb:=Aside0.mk Q_BK12
            have Qa:=Aside0.mk Q_BK17
            have Qc:=Aside0.mk Q_BK18
            have HO:=Aside0.mk Q_HO
            have HL:=Aside0.mk Q_HL
            have HB:=Aside0.mk Q_HB
            have B24:=Aside0.mk (Q_B24 (hon 12 (by kernel_rfl)) hb_)
            have B25:=Aside0.mk (Q_B25 (hon 13 (by kernel_rfl)) (hoff 15 (by kernel_rfl)))
            have E24:=Aside0.mk (Q_E24 (hon 12 (by kernel_rfl)))
            have E25:=Aside0.mk (Q_E25 (hon 13 (by kernel_rfl)))
            have N24:=Aside0.mk (Q_N24 (hon 12 (by kernel_rfl)))
            have N25:=Aside0.mk (Q_N25 (hon 13 (by kernel_rfl)))
            have hf0_:=blk_frozen B24.out 0
            have hf1_:=blk_frozen B24.out 1
            have hf2_:=blk_frozen B24.out 2
            have hf3_:=blk_frozen B24.out 3
            have hc0_ : w'.cell? ⟨g24_,0,none⟩ = some (.int .i64 0):=(blk_cell B24.out 0).trans rfl
            have hc1_ : w'.cell? ⟨g24_,1,none⟩ = some (.int .u16 0):=(blk_cell B24.out 1).trans rfl
            have hc2_ : w'.cell? ⟨g24_,2,none⟩ = some (.int .i64 0):=(blk_cell B24.out 2).trans rfl
            have hc3_ : w'.cell? ⟨g24_,3,none⟩ = some (.int .i64 0):=(blk_cell B24.out 3).trans rfl
            refine skip_ (w1:=?_) (by rfl) rfl ?_ ?_
            rotate_left
            ·go_simp
             rfl
            refine hK.out _ _ ⟨g24_,g25_,m12_,m13_,(by rw [ha.out];exact putSel_none (v:=undef) rfl),bf4_ Qb.out N24.out.1 _ _ _ _,bf4_ Qa.out N24.out.2.1 _ _ _ _,bf4_ Qc.out N24.out.2.2 _ _ _ _,rf4_ HO.out B24.out (by decide) _ _ _ _,rf4_ HL.out B24.out (by decide) _ _ _ _,below_set (below_set (below_set (below_set HB.out E24.out) E24.out) E24.out) E24.out,fun _ h1_=>absurd ((up_self b 14).symm.trans h1_) (by decide),fun _=>bp4_ B24.out _ _ _ _,fun _ _=>bf4_ B25.out (ne_cells B25.out B24.out (by decide)) _ _ _ _,fun h0_=>absurd ((hoff 15 (by kernel_rfl)).symm.trans h0_) (by decide),Q_E24,Q_E25,Q_N24,Q_N25,Q_X12_,Q_X13_⟩
           refine steps_cons ?_ ?_
           ·rintro b a w' ⟨g24_,g25_,m12_,m13_,ha,Q_BK12,Q_BK17,Q_BK18,Q_HO,Q_HL,Q_HB,Q_B24,Q_C24,Q_B25,Q_C25,Q_E24,Q_E25,Q_N24,Q_N25,Q_X12_,Q_X13_⟩ hb_ hon hoff
            refine ⟨_,rfl,fun K hK=>?_⟩
            have e25 : a.tmps[25]? = some (m13_):=by rw [ha];exact putSel_on (e:=(13,25,m13_)) 10 rfl rfl (hon 13 (by kernel_rfl)) rfl
            rw [Q_X13_ (hon 13 (by kernel_rfl))] at e25
            have e122 : a.tmps[122]? = some (.agg #[.int .i64 (T P j 0 k),.int .i64 (((k : Int) - T P j 0 k) + 1)]):=by rw [ha];exact putSel_on (e:=(9,122,.agg #[.int .i64 (T P j 0 k),.int .i64 (((k : Int) - T P j 0 k) + 1)])) 6 rfl rfl (hon 9 (by kernel_rfl)) rfl
            replace ha:=Aside0.mk ha
            have Qb:=Aside0.mk Q_BK12
            have Qa:=Aside0.mk Q_BK17
            have Qc:=Aside0.mk Q_BK18
            have HO:=Aside0.mk Q_HO
            have HL:=Aside0.mk Q_HL
            have HB:=Aside0.mk Q_HB
            have C24:=Aside0.mk (Q_C24 (hon 14 (by kernel_rfl)))
            have B25:=Aside0.mk (Q_B25 (hon 13 (by kernel_rfl)) hb_)
            have E24:=Aside0.mk (Q_E24 (hon 12 (by kernel_rfl)))
            have E25:=Aside0.mk (Q_E25 (hon 13 (by kernel_rfl)))
            have N24:=Aside0.mk (Q_N24 (hon 12 (by kernel_rfl)))
            have N25:=Aside0.mk (Q_N25 (hon 13 (by kernel_rfl)))
            have hf0_:=blk_frozen B25.out 0
            have hf1_:=blk_frozen B25.out 1
            have hc0_ : w'.cell? ⟨g25_,0,none⟩ = some (.int .i64 0):=(blk_cell B25.out 0).trans rfl
            have hc1_ : w'.cell? ⟨g25_,1,none⟩ = some (.int .i64 0):=(blk_cell B25.out 1).trans rfl
            refine skip_ (w1:=?_) (by rfl) rfl ?_ ?_
            rotate_left
            ·go_simp
             rfl
            refine hK.out _ _ ⟨g24_,g25_,m12_,m13_,(by rw [ha.out];exact putSel_none (v:=undef) rfl),blk_far (blk_far Qb.out N25.out.1 _) N25.out.1 _,blk_far (blk_far Qa.out N25.out.2.1 _) N25.out.2.1 _,blk_far (blk_far Qc.out N25.out.2.2 _) N25.out.2.2 _,rst_ (rst_ HO.out B25.out (by decide) 0 _) (blk_put (cs:=#[.int .i64 0,.int .i64 0]) B25.out 0 _ rfl) (by decide) 1 _,rst_ (rst_ HL.out B25.out (by decide) 0 _) (blk_put (cs:=#[.int .i64 0,.int .i64 0]) B25.out 0 _ rfl) (by decide) 1 _,below_set (below_set HB.out E25.out) E25.out,fun _ h1_=>absurd ((hon 14 (by kernel_rfl)).symm.trans h1_) (by decide),fun _=>blk_far (blk_far C24.out (ne_cells C24.out B25.out (by decide)) _) (ne_cells C24.out B25.out (by decide)) _,fun _ h1_=>absurd ((up_self b 15).symm.trans h1_) (by decide),fun _=>by refine blk_put (cs:=#[.int .i64 (T P j 0 k),.int .i64 0]) ?_ 1 _ rfl;refine blk_put (cs:=#[.int .i64 0,.int .i64 0]) ?_ 0 _ rfl;exact B25.out,Q_E24,Q_E25,Q_N24,Q_N25,Q_X12_,Q_X13_⟩
           refine steps_cons ?_ ?_
           ·rintro b a w' ⟨g24_,g25_,m12_,m13_,ha,Q_BK12,Q_BK17,Q_BK18,Q_HO,Q_HL,Q_HB,Q_B24,Q_C24,Q_B25,Q_C25,Q_E24,Q_E25,Q_N24,Q_N25,Q_X12_,Q_X13_⟩ hb_ hon hoff
            refine ⟨_,rfl,fun K hK=>?_⟩
            have e123 : a.tmps[123]? = some (.int .i64 2):=by rw [ha];exact putSel_on (e:=(10,123,.int .i64 2)) 7 rfl rfl (hon 10 (by kernel_rfl)) rfl
            replace ha:=Aside0.mk ha
            have Qb:=Aside0.mk Q_BK12
            have Qa:=Aside0.mk Q_BK17
            have Qc:=Aside0.mk Q_BK18
            have HO:=Aside0.mk Q_HO
            have HL:=Aside0.mk Q_HL
            have HB:=Aside0.mk Q_HB
            have C24:=Aside0.mk (Q_C24 (hon 14 (by kernel_rfl)))
            have C25:=Aside0.mk (Q_C25 (hon 15 (by kernel_rfl)))
            have E24:=Aside0.mk (Q_E24 (hon 12 (by kernel_rfl)))
            have E25:=Aside0.mk (Q_E25 (hon 13 (by kernel_rfl)))
            have N24:=Aside0.mk (Q_N24 (hon 12 (by kernel_rfl)))
            have N25:=Aside0.mk (Q_N25 (hon 13 (by kernel_rfl)))
            refine value_ (w1:=w') (v:=.int .i64 2) (by rfl) rfl ?_ ?_
            ·go_simp
             (try simp only [i64_w])
             try rfl
            refine hK.out _ _ ⟨g24_,g25_,m12_,m13_,(by rw [ha.out];exact putSel_upk 11 hb_ rfl rfl rfl),Q_BK12,Q_BK17,Q_BK18,Q_HO,Q_HL,Q_HB,fun _ h1_=>absurd ((hon 14 (by kernel_rfl)).symm.trans h1_) (by decide),Q_C24,fun _ h1_=>absurd ((hon 15 (by kernel_rfl)).symm.trans h1_) (by decide),Q_C25,Q_E24,Q_E25,Q_N24,Q_N25,Q_X12_,Q_X13_⟩
           refine steps_cons ?_ ?_
           ·rintro b a w' ⟨g24_,g25_,m12_,m13_,ha,Q_BK12,Q_BK17,Q_BK18,Q_HO,Q_HL,Q_HB,Q_B24,Q_C24,Q_B25,Q_C25,Q_E24,Q_E25,Q_N24,Q_N25,Q_X12_,Q_X13_⟩ hb_ hon hoff
            refine ⟨_,rfl,fun K hK=>?_⟩
            have e124 : a.tmps[124]? = some (.int .i64 0):=by rw [ha];exact putSel_on (e:=(11,124,.int .i64 0)) 8 rfl rfl (hon 11 (by kernel_rfl)) rfl
            replace ha:=Aside0.mk ha
            have Qb:=Aside0.mk Q_BK12
            have Qa:=Aside0.mk Q_BK17
            have Qc:=Aside0.mk Q_BK18
            have HO:=Aside0.mk Q_HO
            have HL:=Aside0.mk Q_HL
            have HB:=Aside0.mk Q_HB
            have C24:=Aside0.mk (Q_C24 (hon 14 (by kernel_rfl)))
            have C25:=Aside0.mk (Q_C25 (hon 15 (by kernel_rfl)))
            have E24:=Aside0.mk (Q_E24 (hon 12 (by kernel_rfl)))
            have E25:=Aside0.mk (Q_E25 (hon 13 (by kernel_rfl)))
            have N24:=Aside0.mk (Q_N24 (hon 12 (by kernel_rfl)))
            have N25:=Aside0.mk (Q_N25 (hon 13 (by kernel_rfl)))
            refine value_ (w1:=w') (v:=.int .i64 0) (by rfl) rfl ?_ ?_
            ·go_simp
             (try simp only [i64_w])
             try rfl
            refine hK.out _ _ ⟨g24_,g25_,m12_,m13_,(by rw [ha.out];exact putSel_upk 12 hb_ rfl rfl rfl),Q_BK12,Q_BK17,Q_BK18,Q_HO,Q_HL,Q_HB,fun _ h1_=>absurd ((hon 14 (by kernel_rfl)).symm.trans h1_) (by decide),Q_C24,fun _ h1_=>absurd ((hon 15 (by kernel_rfl)).symm.trans h1_) (by decide),Q_C25,Q_E24,Q_E25,Q_N24,Q_N25,Q_X12_,Q_X13_⟩
           exact steps_nil
          rintro b a w30 hall ⟨g24_,g25_,m12_,m13_,ha,Q_BK12,Q_BK17,Q_BK18,Q_HO,Q_HL,Q_HB,Q_B24,Q_C24,Q_B25,Q_C25,Q_E24,Q_E25,Q_N24,Q_N25,Q_X12_,Q_X13_⟩
          clear Qb Qa Qc HB HL HO
          have hb0_:=hall 0 (by kernel_rfl)
          have hb1_:=hall 1 (by kernel_rfl)
          have hb5_:=hall 5 (by kernel_rfl)
          have hb6_:=hall 6 (by kernel_rfl)
          have hb7_:=hall 7 (by kernel_rfl)
          have hb8_:=hall 8 (by kernel_rfl)
          have hb9_:=hall 9 (by kernel_rfl)
          have hb10_:=hall 10 (by kernel_rfl)
          have hb11_:=hall 11 (by kernel_rfl)
          have hb12_:=hall 12 (by kernel_rfl)
          have hb13_:=hall 13 (by kernel_rfl)
          have hb14_:=hall 14 (by kernel_rfl)
          have hb15_:=hall 15 (by kernel_rfl)
          have hb16_:=hall 16 (by kernel_rfl)
          have hb17_:=hall 17 (by kernel_rfl)
          subst ha
          obtain rfl:=Q_X12_ hb12_
          obtain rfl:=Q_X13_ hb13_
          simp only [putSel,hb0_,hb1_,hb5_,hb6_,hb7_,hb8_,hb9_,hb10_,hb11_,hb12_,hb13_,hb14_,hb15_,hb16_,hb17_,if_true,Act.put,List.setIfInBounds_toArray,List.set_cons_zero,List.set_cons_succ]
          have Qb:=Aside0.mk Q_BK12
          clear Q_BK12
          have Qa:=Aside0.mk Q_BK17
          clear Q_BK17
          have Qc:=Aside0.mk Q_BK18
          clear Q_BK18
          have HO:=Aside0.mk Q_HO
          clear Q_HO
          have HL:=Aside0.mk Q_HL
          clear Q_HL
          have HB:=Aside0.mk Q_HB
          clear Q_HB
          clear Q_B24
          have C24:=Aside0.mk (Q_C24 hb14_)
          clear Q_C24
          clear Q_B25
          have C25:=Aside0.mk (Q_C25 hb15_)
          clear Q_C25
          have E24:=Aside0.mk (Q_E24 hb12_)
          clear Q_E24
          have E25:=Aside0.mk (Q_E25 hb13_)
          clear Q_E25
          have N24:=Aside0.mk (Q_N24 hb12_)
          clear Q_N24
          have N25:=Aside0.mk (Q_N25 hb13_)
          clear Q_N25
          clear hall hb0_ hb1_ hb5_ hb6_ hb7_ hb8_ hb9_ hb10_ hb11_ hb12_ hb13_ hb14_ hb15_ hb16_ hb17_
          have hcz_0 : w30.cell? ⟨g24_,0,none⟩ = some (.int .i64 (j : Int)):=(blk_cell C24.out 0).trans rfl
          have hcz_1 : w30.cell? ⟨g24_,1,none⟩ = some (.int .u16 v0):=(blk_cell C24.out 1).trans rfl
          have hcz_2 : w30.cell? ⟨g24_,2,none⟩ = some (.int .i64 0):=(blk_cell C24.out 2).trans rfl
          have hcz_3 : w30.cell? ⟨g24_,3,none⟩ = some (.int .i64 0):=(blk_cell C24.out 3).trans rfl
          clear Q_X12_ Q_X13_
          clear b
          go_upto_region 31 with (fail)
          clear hcz_0 hcz_1 hcz_2 hcz_3
          clear HL
          have n0_:=Aside0.mk (blk_drew Qb.out);have n1_:=Aside0.mk (blk_drew Qa.out);have n2_:=Aside0.mk (blk_drew Qc.out);have n3_:=Aside0.mk (Kd.R_drew HO.out);have n4_:=Aside0.mk (blk_drew C24.out);have n5_:=Aside0.mk (blk_drew C25.out);have n6_:=Aside0.mk (below_drew1 HB.out);clear Qb Qa Qc HO HB C24 C25;have Qb:=n0_;have Qa:=n1_;have Qc:=n2_;have HO:=n3_;have C24:=n4_;have C25:=n5_;have HB:=n6_;clear n0_ n1_ n2_ n3_ n4_ n5_ n6_
          refine start_ (n:=4) (S:=fun w'=>True) (ds:=[]) #[false,false,false,false] (by kernel_rfl) rfl rfl trivial (fun hHeld=>?_)
          refine with_tabW cliqueParties.tab31 cliqueParties.bits31 (fun HT_ HW_=>?_)
          generalize w30.drew = w31 at Qb Qa Qc HO HB C24 C25 ⊢
          refine inv_at [0,1,2,3] (fun a0_ b a w'=>a = putSel a0_ b [(0,131,.agg #[.int .i64 (j : Int),.int .u16 v0,.int .i64 0,.int .i64 0]),(1,132,.agg #[.int .i64 (T P j 0 k),.int .i64 (((k : Int) - T P j 0 k) + 1)])]∧(w'.heap[g12]? = some (.cells #[.int .u16 v0,.int .u16 v1] 47 (0,0)))∧(w'.heap[g17]? = some (.cells #[.int .i64 (j : Int),.int .u16 v0,.int .i64 0,.int .i64 0] 34 (0,0)))∧(b 3 = false→w'.heap[g18]? = some (.cells #[.int .i64 (T P j 0 k),.int .i64 ((k : Int) - T P j 0 k)] 23 (0,0)))∧(b 3 = true→w'.heap[g18]? = some (.cells #[.int .i64 (T P j 0 k),.int .i64 (((k : Int) - T P j 0 k) + 1)] 23 (0,0)))∧(Kd.R (Kd.int .i64) 3 w' w.heap.size (fun _=>True) (.slice (some ad85) P.length co) P)∧(Below w.heap.size w w')∧(b 3 = false→w'.heap[g24_]? = some (.cells #[.int .i64 (j : Int),.int .u16 v0,.int .i64 0,.int .i64 0] 34 (0,0)))∧(b 3 = false→w'.heap[g25_]? = some (.cells #[.int .i64 (T P j 0 k),.int .i64 (((k : Int) - T P j 0 k) + 1)] 23 (0,0)))) HT_.out HW_.out (by kernel_rfl) (by kernel_rfl) ?_ ?_ ?_
          ·exact ⟨by simp only [putSel,Bool.false_eq_true,if_false],Qb.out,Qa.out,fun _=>Qc.out,fun h_=>absurd h_ (by decide),HO.out,HB.out,fun _=>C24.out,fun _=>C25.out⟩
          ·skip
           clear Qb Qa Qc C24 C25 HB HO
           refine steps_cons ?_ ?_
           ·rintro b a w' ⟨ha,Q_BK12,Q_BK17,Q_BK18,Q_NW18,Q_HO,Q_HB,Q_C24,Q_C25⟩ hb_ hon hoff
            refine ⟨_,rfl,fun K hK=>?_⟩
            have e24 : a.tmps[24]? = some (.pointer (some ⟨g24_,0,none⟩)):=by rw [ha];exact (putSel_off rfl).trans rfl
            replace ha:=Aside0.mk ha
            have Qb:=Aside0.mk Q_BK12
            have Qa:=Aside0.mk Q_BK17
            have Qc:=Aside0.mk (Q_BK18 (hoff 3 (by kernel_rfl)))
            have HO:=Aside0.mk Q_HO
            have HB:=Aside0.mk Q_HB
            have C24:=Aside0.mk (Q_C24 (hoff 3 (by kernel_rfl)))
            have C25:=Aside0.mk (Q_C25 (hoff 3 (by kernel_rfl)))
            have hc0_ : w'.cell? ⟨g24_,0,none⟩ = some (.int .i64 (j : Int)):=(blk_cell C24.out 0).trans rfl
            have hc1_ : w'.cell? ⟨g24_,1,none⟩ = some (.int .u16 v0):=(blk_cell C24.out 1).trans rfl
            have hc2_ : w'.cell? ⟨g24_,2,none⟩ = some (.int .i64 0):=(blk_cell C24.out 2).trans rfl
            have hc3_ : w'.cell? ⟨g24_,3,none⟩ = some (.int .i64 0):=(blk_cell C24.out 3).trans rfl
            refine value_ (w1:=w') (v:=.agg #[.int .i64 (j : Int),.int .u16 v0,.int .i64 0,.int .i64 0]) (by rfl) rfl ?_ ?_
            ·go_simp
             (try simp only [i64_w])
             try rfl
            refine hK.out _ _ ⟨(by rw [ha.out];exact putSel_upk 0 hb_ rfl rfl rfl),Q_BK12,Q_BK17,Q_BK18,fun h0_=>absurd ((hoff 3 (by kernel_rfl)).symm.trans h0_) (by decide),Q_HO,Q_HB,Q_C24,Q_C25⟩
           refine steps_cons ?_ ?_
           ·rintro b a w' ⟨ha,Q_BK12,Q_BK17,Q_BK18,Q_NW18,Q_HO,Q_HB,Q_C24,Q_C25⟩ hb_ hon hoff
            refine ⟨_,rfl,fun K hK=>?_⟩
            have e25 : a.tmps[25]? = some (.pointer (some ⟨g25_,0,none⟩)):=by rw [ha];exact (putSel_off rfl).trans rfl
            replace ha:=Aside0.mk ha
            have Qb:=Aside0.mk Q_BK12
            have Qa:=Aside0.mk Q_BK17
            have Qc:=Aside0.mk (Q_BK18 (hoff 3 (by kernel_rfl)))
            have HO:=Aside0.mk Q_HO
            have HB:=Aside0.mk Q_HB
            have C24:=Aside0.mk (Q_C24 (hoff 3 (by kernel_rfl)))
            have C25:=Aside0.mk (Q_C25 (hoff 3 (by kernel_rfl)))
            have hc0_ : w'.cell? ⟨g25_,0,none⟩ = some (.int .i64 (T P j 0 k)):=(blk_cell C25.out 0).trans rfl
            have hc1_ : w'.cell? ⟨g25_,1,none⟩ = some (.int .i64 (((k : Int) - T P j 0 k) + 1)):=(blk_cell C25.out 1).trans rfl
            refine value_ (w1:=w') (v:=.agg #[.int .i64 (T P j 0 k),.int .i64 (((k : Int) - T P j 0 k) + 1)]) (by rfl) rfl ?_ ?_
            ·go_simp
             (try simp only [i64_w])
             try rfl
            refine hK.out _ _ ⟨(by rw [ha.out];exact putSel_upk 1 hb_ rfl rfl rfl),Q_BK12,Q_BK17,Q_BK18,fun h0_=>absurd ((hoff 3 (by kernel_rfl)).symm.trans h0_) (by decide),Q_HO,Q_HB,Q_C24,Q_C25⟩
           refine steps_cons ?_ ?_
           ·rintro b a w' ⟨ha,Q_BK12,Q_BK17,Q_BK18,Q_NW18,Q_HO,Q_HB,Q_C24,Q_C25⟩ hb_ hon hoff
            refine ⟨_,rfl,fun K hK=>?_⟩
            have e17 : a.tmps[17]? = some (.pointer (some ⟨g17,0,none⟩)):=by rw [ha];exact (putSel_off rfl).trans rfl
            have e131 : a.tmps[131]? = some (.agg #[.int .i64 (j : Int),.int .u16 v0,.int .i64 0,.int .i64 0]):=by rw [ha];exact putSel_on (e:=(0,131,.agg #[.int .i64 (j : Int),.int .u16 v0,.int .i64 0,.int .i64 0])) 0 rfl rfl (hon 0 (by kernel_rfl)) rfl
            replace ha:=Aside0.mk ha
            have Qb:=Aside0.mk Q_BK12
            have Qa:=Aside0.mk Q_BK17
            have Qc:=Aside0.mk (Q_BK18 (hoff 3 (by kernel_rfl)))
            have HO:=Aside0.mk Q_HO
            have HB:=Aside0.mk Q_HB
            have C24:=Aside0.mk (Q_C24 (hoff 3 (by kernel_rfl)))
            have C25:=Aside0.mk (Q_C25 (hoff 3 (by kernel_rfl)))
            have hf0_:=blk_frozen Qa.out 0
            have hf1_:=blk_frozen Qa.out 1
            have hf2_:=blk_frozen Qa.out 2
            have hf3_:=blk_frozen Qa.out 3
            have hc0_ : w'.cell? ⟨g17,0,none⟩ = some (.int .i64 (j : Int)):=(blk_cell Qa.out 0).trans rfl
            have hc1_ : w'.cell? ⟨g17,1,none⟩ = some (.int .u16 v0):=(blk_cell Qa.out 1).trans rfl
            have hc2_ : w'.cell? ⟨g17,2,none⟩ = some (.int .i64 0):=(blk_cell Qa.out 2).trans rfl
            have hc3_ : w'.cell? ⟨g17,3,none⟩ = some (.int .i64 0):=(blk_cell Qa.out 3).trans rfl
            refine skip_ (w1:=?_) (by rfl) rfl ?_ ?_
            rotate_left
            ·go_simp
             rfl
            refine hK.out _ _ ⟨(by rw [ha.out];exact putSel_none (v:=undef) rfl),bf4_ Qb.out NB17.out _ _ _ _,bq4_ Qa.out _ _ _ _,fun _=>bf4_ Qc.out NE.out _ _ _ _,fun h0_=>absurd ((hoff 3 (by kernel_rfl)).symm.trans h0_) (by decide),rf4_ HO.out Qa.out (by decide) _ _ _ _,below_set (below_set (below_set (below_set HB.out Qe.out) Qe.out) Qe.out) Qe.out,fun _=>bf4_ C24.out (Ne.symm N24.out.2.1) _ _ _ _,fun _=>bf4_ C25.out (Ne.symm N25.out.2.1) _ _ _ _⟩
           refine steps_cons ?_ ?_
           ·rintro b a w' ⟨ha,Q_BK12,Q_BK17,Q_BK18,Q_NW18,Q_HO,Q_HB,Q_C24,Q_C25⟩ hb_ hon hoff
            refine ⟨_,rfl,fun K hK=>?_⟩
            have e18 : a.tmps[18]? = some (.pointer (some ⟨g18,0,none⟩)):=by rw [ha];exact (putSel_off rfl).trans rfl
            have e132 : a.tmps[132]? = some (.agg #[.int .i64 (T P j 0 k),.int .i64 (((k : Int) - T P j 0 k) + 1)]):=by rw [ha];exact putSel_on (e:=(1,132,.agg #[.int .i64 (T P j 0 k),.int .i64 (((k : Int) - T P j 0 k) + 1)])) 1 rfl rfl (hon 1 (by kernel_rfl)) rfl
            replace ha:=Aside0.mk ha
            have Qb:=Aside0.mk Q_BK12
            have Qa:=Aside0.mk Q_BK17
            have Qc:=Aside0.mk (Q_BK18 hb_)
            have HO:=Aside0.mk Q_HO
            have HB:=Aside0.mk Q_HB
            have C24:=Aside0.mk (Q_C24 hb_)
            have C25:=Aside0.mk (Q_C25 hb_)
            have hf0_:=blk_frozen Qc.out 0
            have hf1_:=blk_frozen Qc.out 1
            have hc0_ : w'.cell? ⟨g18,0,none⟩ = some (.int .i64 (T P j 0 k)):=(blk_cell Qc.out 0).trans rfl
            have hc1_ : w'.cell? ⟨g18,1,none⟩ = some (.int .i64 ((k : Int) - T P j 0 k)):=(blk_cell Qc.out 1).trans rfl
            refine skip_ (w1:=?_) (by rfl) rfl ?_ ?_
            rotate_left
            ·go_simp
             rfl
            refine hK.out _ _ ⟨(by rw [ha.out];exact putSel_none (v:=undef) rfl),blk_far (blk_far Qb.out NB18.out _) NB18.out _,blk_far (blk_far Qa.out ND.out _) ND.out _,fun h0_=>absurd ((up_self b 3).symm.trans h0_) (by decide),fun _=>by refine blk_put (cs:=#[.int .i64 (T P j 0 k),.int .i64 ((k : Int) - T P j 0 k)]) ?_ 1 _ rfl;refine blk_put (cs:=#[.int .i64 (T P j 0 k),.int .i64 ((k : Int) - T P j 0 k)]) ?_ 0 _ rfl;exact Qc.out,rst_ (rst_ HO.out Qc.out (by decide) 0 _) (blk_put (cs:=#[.int .i64 (T P j 0 k),.int .i64 ((k : Int) - T P j 0 k)]) Qc.out 0 _ rfl) (by decide) 1 _,below_set (below_set HB.out Qf.out) Qf.out,fun h0_=>absurd ((up_self b 3).symm.trans h0_) (by decide),fun h0_=>absurd ((up_self b 3).symm.trans h0_) (by decide)⟩
           exact steps_nil
          rintro b a w32 hall ⟨ha,Q_BK12,Q_BK17,Q_BK18,Q_NW18,Q_HO,Q_HB,Q_C24,Q_C25⟩
          clear Qb Qa Qc C24 C25 HB HO
          have hb0_:=hall 0 (by kernel_rfl)
          have hb1_:=hall 1 (by kernel_rfl)
          have hb2_:=hall 2 (by kernel_rfl)
          have hb3_:=hall 3 (by kernel_rfl)
          subst ha
          simp only [putSel,hb0_,hb1_,hb2_,hb3_,if_true,Act.put,List.setIfInBounds_toArray,List.set_cons_zero,List.set_cons_succ]
          have Qb:=Aside0.mk Q_BK12
          clear Q_BK12
          have Qa:=Aside0.mk Q_BK17
          clear Q_BK17
          clear Q_BK18
          have NW18:=Aside0.mk (Q_NW18 hb3_)
          clear Q_NW18
          have HO:=Aside0.mk Q_HO
          clear Q_HO
          have HB:=Aside0.mk Q_HB
          clear Q_HB
          clear Q_C24
          clear Q_C25
          clear hall hb0_ hb1_ hb2_ hb3_
          clear b
          go_wp2
          have hT2 : T P j 0 (k + 1) = T P j 0 k:=by rw [T_succ,← HNODE.out,getD_rd hmn,hy,if_neg (by decide),Int.add_zero]
          have hF2 : ((k + 1 : Nat) : Int) - T P j 0 (k + 1) = ((k : Int) - T P j 0 k) + 1:=by rw [hT2];omega
          go_roundg k3
          case measure=>omega
          case rel=>exact ⟨k + 1,by first|rfl|(simp;done),⟨by have:=HK.out;omega⟩,HO,Qb,Qa,⟨by rw [hF2,hT2];exact NW18.out⟩,HB⟩
       ·as_aux_lemma =>
         have hk : k = P.length:=by have:=HK.out;omega
         subst hk
         clear c3
         have hP16 : P.length ≤ 16:=by omega
         have hl01 : l0 = 0∧l1 = 0:=by have:=HPI.out.n0;have:=HPI.out.n1;omega
         have hcx : cn P 0 = a:=by have:=HPI.out.c0;omega
         have n0_ : Aside0 (wr.heap[g18]? = some (.cells #[.int .i64 a,.int .i64 (a + b - a)] 23 (0,0))):=⟨by have h_:=Qc.out;rw [T_all P j 0 hjP,hcx,hi] at h_;exact h_⟩
         clear Qc
         have Qc:=n0_
         clear n0_
         have cb3 : decide ((P.length : Int) < a + b) = false:=decide_eq_false (by omega)
         obtain ⟨ad8,e8,hx8_0⟩:=Kd.at_int (Kd.R_reads' HO.out).2.2 (j : Int) (of_eq_true p85) (of_eq_true q85)
         cases e8
         rw [Int.toNat_natCast,hx] at hx8_0
         go_upto_region 34 with (fail)
         clear hx8_0
         have hw2 : wrap64 (2 * a) = 2 * a:=by unfold wrap64;omega
         have hsub : ((a + b - a) = wrap64 (a + b - a)) = True:=eq_true (by unfold wrap64;omega)
         by_cases c4 : a + b < 2 * a
         ·have cb4 : decide (2 * a > a + b) = true:=decide_eq_true (by omega)
          have cb5 : decide (wrap64 (2 * a) > a + b) = true:=by rw [hw2];exact cb4
          have HTEST : Aside0 (clique_Test.f a (a + b - a) = some 0):=⟨by rw [test_eq (by omega) (by omega)];rw [if_neg (by omega)]⟩
          go_upto_region 36 with (fail)
          have n0_:=Aside0.mk (blk_drew Qb.out);have n1_:=Aside0.mk (blk_drew Qa.out);have n2_:=Aside0.mk (blk_drew Qc.out);have n3_:=Aside0.mk (Kd.R_drew HO.out);have n4_:=Aside0.mk (below_drew1 HB.out);clear Qb Qa Qc HO HB;have Qb:=n0_;have Qa:=n1_;have Qc:=n2_;have HO:=n3_;have HB:=n4_;clear n0_ n1_ n2_ n3_ n4_
          obtain ⟨ad9,e9,hrow⟩:=Kd.at_int (Kd.R_reads' HO.out).2.2 (j : Int) (of_eq_true p85) (of_eq_true q85)
          cases e9
          rw [Int.toNat_natCast,hx] at hrow
          refine start_ (n:=24) (S:=fun w'=>w'.cell? ⟨g18,0,none⟩ = some (.int .i64 a)∧w'.cell? ⟨g18,1,none⟩ = some (.int .i64 (a + b - a))∧w'.cell? ⟨g17,1,none⟩ = some (.int .u16 v0)∧w'.cell? (ad85.add j) = some (.int .i64 0)∧w'.cell? ⟨g12,0,none⟩ = some (.int .u16 v0)) (ds:=[]) #[false,false,false,false,false,false,false,false,false,false,false,false,false,false,false,false,false,false,false,false,false,false,false,false] (by kernel_rfl) rfl rfl ⟨(blk_cell Qc.out 0).trans rfl,(blk_cell Qc.out 1).trans rfl,(blk_cell Qa.out 1).trans rfl,hrow,(blk_cell Qb.out 0).trans rfl⟩ (fun hHeld=>?_)
          refine with_tabW cliqueParties.tab36 cliqueParties.bits36 (fun HT_ HW_=>?_)
          refine pure_ (i:=1) (N:=some 146) (v:=?_) (a':=?_) #[false,true,false,false,false,false,false,false,false,false,false,false,false,false,false,false,false,false,false,false,false,false,false,false] rfl rfl (any_of HT_.out (by kernel_rfl)) (fun _ _ _ h=>h) (Or.inl ⟨by rfl,?_⟩) ?_ ?_
          rotate_left
          ·intro w'
           go_simp
           with_reducible rfl
          rotate_left
          ·simp only [Act.put,List.setIfInBounds_toArray,List.set_cons_zero,List.set_cons_succ,i64_w,i32_w]
           rfl
          refine pure_ (i:=2) (N:=some 147) (v:=?_) (a':=?_) #[false,true,true,false,false,false,false,false,false,false,false,false,false,false,false,false,false,false,false,false,false,false,false,false] rfl rfl (any_of HT_.out (by kernel_rfl)) (fun _ _ _ h=>h) (Or.inl ⟨by rfl,?_⟩) ?_ ?_
          rotate_left
          ·intro w'
           go_simp
           with_reducible rfl
          rotate_left
          ·simp only [Act.put,List.setIfInBounds_toArray,List.set_cons_zero,List.set_cons_succ,i64_w,i32_w]
           rfl
          refine pure_ (i:=3) (N:=some 148) (v:=?_) (a':=?_) #[false,true,true,true,false,false,false,false,false,false,false,false,false,false,false,false,false,false,false,false,false,false,false,false] rfl rfl (any_of HT_.out (by kernel_rfl)) (fun _ _ _ h=>h) (Or.inl ⟨by rfl,?_⟩) ?_ ?_
          rotate_left
          ·intro w'
           go_simp
           with_reducible rfl
          rotate_left
          ·simp only [Act.put,List.setIfInBounds_toArray,List.set_cons_zero,List.set_cons_succ,i64_w,i32_w]
           rfl
          refine pure_ (i:=4) (N:=some 149) (v:=?_) (a':=?_) #[false,true,true,true,true,false,false,false,false,false,false,false,false,false,false,false,false,false,false,false,false,false,false,false] rfl rfl (any_of HT_.out (by kernel_rfl)) (fun _ _ _ h=>h) (Or.inl ⟨by rfl,?_⟩) ?_ ?_
          rotate_left
          ·intro w'
           go_simp
           with_reducible rfl
          rotate_left
          ·simp only [Act.put,List.setIfInBounds_toArray,List.set_cons_zero,List.set_cons_succ,i64_w,i32_w]
           rfl
          refine pure_ (i:=5) (N:=some 150) (v:=?_) (a':=?_) #[false,true,true,true,true,true,false,false,false,false,false,false,false,false,false,false,false,false,false,false,false,false,false,false] rfl rfl (any_of HT_.out (by kernel_rfl)) (fun _ _ _ h=>h) (Or.inl ⟨by rfl,?_⟩) ?_ ?_
          rotate_left
          ·intro w'
           go_simp
           with_reducible rfl
          rotate_left
          ·simp only [Act.put,List.setIfInBounds_toArray,List.set_cons_zero,List.set_cons_succ,i64_w,i32_w]
           rfl
          refine take_ (i:=0) (N:=some 145) (v:=?_) (a':=?_) #[true,true,true,true,true,true,false,false,false,false,false,false,false,false,false,false,false,false,false,false,false,false,false,false] rfl rfl (take_ofW HT_.out HW_.out (by kernel_rfl)) (fun _ _ _ h=>h) (Or.inl ⟨by rfl,?_⟩) hHeld ?_ ?_
          rotate_left
          ·rintro w' ⟨s0,s1,s2,s3,s4⟩
           go_simp
           with_reducible rfl
          rotate_left
          ·simp only [Act.put,List.setIfInBounds_toArray,List.set_cons_zero,List.set_cons_succ,i64_w,i32_w]
           rfl
          refine pure_ (i:=6) (N:=some 151) (v:=?_) (a':=?_) #[true,true,true,true,true,true,true,false,false,false,false,false,false,false,false,false,false,false,false,false,false,false,false,false] rfl rfl (any_of HT_.out (by kernel_rfl)) (fun _ _ _ h=>h) (Or.inl ⟨by rfl,?_⟩) ?_ ?_
          rotate_left
          ·intro w'
           go_simp
           with_reducible rfl
          rotate_left
          ·simp only [Act.put,List.setIfInBounds_toArray,List.set_cons_zero,List.set_cons_succ,i64_w,i32_w]
           rfl
          refine pure_ (i:=7) (N:=some 152) (v:=?_) (a':=?_) #[true,true,true,true,true,true,true,true,false,false,false,false,false,false,false,false,false,false,false,false,false,false,false,false] rfl rfl (any_of HT_.out (by kernel_rfl)) (fun _ _ _ h=>h) (Or.inl ⟨by rfl,?_⟩) ?_ ?_
          rotate_left
          ·intro w'
           go_simp
           with_reducible rfl
          rotate_left
          ·simp only [Act.put,List.setIfInBounds_toArray,List.set_cons_zero,List.set_cons_succ,i64_w,i32_w]
           rfl
          refine pure_ (i:=10) (N:=some 155) (v:=?_) (a':=?_) #[true,true,true,true,true,true,true,true,false,false,true,false,false,false,false,false,false,false,false,false,false,false,false,false] rfl rfl (any_of HT_.out (by kernel_rfl)) (fun _ _ _ h=>h) (Or.inl ⟨by rfl,?_⟩) ?_ ?_
          rotate_left
          ·intro w'
           go_simp
           with_reducible rfl
          rotate_left
          ·simp only [Act.put,List.setIfInBounds_toArray,List.set_cons_zero,List.set_cons_succ,i64_w,i32_w]
           rfl
          refine take_ (i:=8) (N:=some 153) (v:=?_) (a':=?_) #[true,true,true,true,true,true,true,true,true,false,true,false,false,false,false,false,false,false,false,false,false,false,false,false] rfl rfl (take_ofW HT_.out HW_.out (by kernel_rfl)) (fun _ _ _ h=>h) (Or.inl ⟨by rfl,?_⟩) hHeld ?_ ?_
          rotate_left
          ·rintro w' ⟨s0,s1,s2,s3,s4⟩
           go_simp
           with_reducible rfl
          rotate_left
          ·simp only [Act.put,List.setIfInBounds_toArray,List.set_cons_zero,List.set_cons_succ,i64_w,i32_w]
           rfl
          refine one_ (i:=9) (N:=some 154) #[true,true,true,true,true,true,true,true,true,true,true,false,false,false,false,false,false,false,false,false,false,false,false,false] rfl rfl (one_of HT_.out (by kernel_rfl)) (by decide) (fun K hK=>?_)
          refine goes_ Try.func10 (by kernel_rfl) rfl #[.agg #[.int .i64 a,.int .i64 (a + b - a)]] (by rfl) rfl rfl (by (try simp only [List.map_toArray,List.map_cons,List.map_nil]);first|done|rfl|(simp only [List.length_drop,List.length_take];rfl)) ?_
          with_reducible refine (clique_Test.calls _ _ _ _ HTEST.out).mono ?_
          rintro e w37 ⟨rfl,hb⟩
          refine ⟨_,rfl,?_⟩
          have n0_:=Aside0.mk (blk_below Qb.out hb);have n1_:=Aside0.mk (blk_below Qa.out hb);have n2_:=Aside0.mk (blk_below Qc.out hb);have n3_:=Aside0.mk (Kd.R_below HO.out hb);have n4_:=Aside0.mk (below_step HB.out hb);clear Qb Qa Qc HO HB;have Qb:=n0_;have Qa:=n1_;have Qc:=n2_;have HO:=n3_;have HB:=n4_;clear n0_ n1_ n2_ n3_ n4_ hb
          obtain ⟨ad7,e7,hr7⟩:=Kd.at_int (Kd.R_reads' HO.out).2.2 (j : Int) (of_eq_true p85) (of_eq_true q85)
          cases e7
          rw [Int.toNat_natCast,hx] at hr7
          refine hK.out _ _ ⟨(blk_cell Qc.out 0).trans rfl,(blk_cell Qc.out 1).trans rfl,(blk_cell Qa.out 1).trans rfl,hr7,(blk_cell Qb.out 0).trans rfl⟩ (fun hHeld=>?_)
          clear hK K
          refine norm_ (a':=?_) ?_ ?_
          rotate_left
          ·show Act.put _ (some 154) _ = _
           simp only [Act.put,List.setIfInBounds_toArray,List.set_cons_zero,List.set_cons_succ,i64_w,i32_w]
           rfl
          refine pure_ (i:=11) (N:=some 156) (v:=?_) (a':=?_) #[true,true,true,true,true,true,true,true,true,true,true,true,false,false,false,false,false,false,false,false,false,false,false,false] rfl rfl (any_of HT_.out (by kernel_rfl)) (fun _ _ _ h=>h) (Or.inl ⟨by rfl,?_⟩) ?_ ?_
          rotate_left
          ·intro w'
           go_simp
           with_reducible rfl
          rotate_left
          ·simp only [Act.put,List.setIfInBounds_toArray,List.set_cons_zero,List.set_cons_succ,i64_w,i32_w]
           rfl
          refine pure_ (i:=12) (N:=some 157) (v:=?_) (a':=?_) #[true,true,true,true,true,true,true,true,true,true,true,true,true,false,false,false,false,false,false,false,false,false,false,false] rfl rfl (any_of HT_.out (by kernel_rfl)) (fun _ _ _ h=>h) (Or.inl ⟨by rfl,?_⟩) ?_ ?_
          rotate_left
          ·intro w'
           go_simp
           with_reducible rfl
          rotate_left
          ·simp only [Act.put,List.setIfInBounds_toArray,List.set_cons_zero,List.set_cons_succ,i64_w,i32_w]
           rfl
          refine pure_ (i:=13) (N:=some 158) (v:=?_) (a':=?_) #[true,true,true,true,true,true,true,true,true,true,true,true,true,true,false,false,false,false,false,false,false,false,false,false] rfl rfl (any_of HT_.out (by kernel_rfl)) (fun _ _ _ h=>h) (Or.inl ⟨by rfl,?_⟩) ?_ ?_
          rotate_left
          ·intro w'
           go_simp
           with_reducible rfl
          rotate_left
          ·simp only [Act.put,List.setIfInBounds_toArray,List.set_cons_zero,List.set_cons_succ,i64_w,i32_w]
           rfl
          refine pure_ (i:=14) (N:=some 159) (v:=?_) (a':=?_) #[true,true,true,true,true,true,true,true,true,true,true,true,true,true,true,false,false,false,false,false,false,false,false,false] rfl rfl (any_of HT_.out (by kernel_rfl)) (fun _ _ _ h=>h) (Or.inl ⟨by rfl,?_⟩) ?_ ?_
          rotate_left
          ·intro w'
           go_simp
           with_reducible rfl
          rotate_left
          ·simp only [Act.put,List.setIfInBounds_toArray,List.set_cons_zero,List.set_cons_succ,i64_w,i32_w]
           rfl
          refine pure_ (i:=16) (N:=some 161) (v:=?_) (a':=?_) #[true,true,true,true,true,true,true,true,true,true,true,true,true,true,true,false,true,false,false,false,false,false,false,false] rfl rfl (any_of HT_.out (by kernel_rfl)) (fun _ _ _ h=>h) (Or.inl ⟨by rfl,?_⟩) ?_ ?_
          rotate_left
          ·intro w'
           go_simp
           with_reducible rfl
          rotate_left
          ·simp only [Act.put,List.setIfInBounds_toArray,List.set_cons_zero,List.set_cons_succ,i64_w,i32_w]
           rfl
          refine pure_ (i:=17) (N:=some 162) (v:=?_) (a':=?_) #[true,true,true,true,true,true,true,true,true,true,true,true,true,true,true,false,true,true,false,false,false,false,false,false] rfl rfl (any_of HT_.out (by kernel_rfl)) (fun _ _ _ h=>h) (Or.inl ⟨by rfl,?_⟩) ?_ ?_
          rotate_left
          ·intro w'
           go_simp
           with_reducible rfl
          rotate_left
          ·simp only [Act.put,List.setIfInBounds_toArray,List.set_cons_zero,List.set_cons_succ,i64_w,i32_w]
           rfl
          refine pure_ (i:=18) (N:=some 163) (v:=?_) (a':=?_) #[true,true,true,true,true,true,true,true,true,true,true,true,true,true,true,false,true,true,true,false,false,false,false,false] rfl rfl (any_of HT_.out (by kernel_rfl)) (fun _ _ _ h=>h) (Or.inl ⟨by rfl,?_⟩) ?_ ?_
          rotate_left
          ·intro w'
           go_simp
           with_reducible rfl
          rotate_left
          ·simp only [Act.put,List.setIfInBounds_toArray,List.set_cons_zero,List.set_cons_succ,i64_w,i32_w]
           rfl
          refine take_ (i:=15) (N:=some 160) (v:=?_) (a':=?_) #[true,true,true,true,true,true,true,true,true,true,true,true,true,true,true,true,true,true,true,false,false,false,false,false] rfl rfl (take_ofW HT_.out HW_.out (by kernel_rfl)) (fun _ _ _ h=>h) (Or.inl ⟨by rfl,?_⟩) hHeld ?_ ?_
          rotate_left
          ·rintro w' ⟨s0,s1,s2,s3,s4⟩
           go_simp
           with_reducible rfl
          rotate_left
          ·simp only [Act.put,List.setIfInBounds_toArray,List.set_cons_zero,List.set_cons_succ,i64_w,i32_w]
           rfl
          refine take_ (i:=19) (N:=some 164) (v:=?_) (a':=?_) #[true,true,true,true,true,true,true,true,true,true,true,true,true,true,true,true,true,true,true,true,false,false,false,false] rfl rfl (take_ofW HT_.out HW_.out (by kernel_rfl)) (fun _ _ _ h=>h) (Or.inl ⟨by rfl,?_⟩) hHeld ?_ ?_
          rotate_left
          ·rintro w' ⟨s0,s1,s2,s3,s4⟩
           go_simp
           with_reducible rfl
          rotate_left
          ·simp only [Act.put,List.setIfInBounds_toArray,List.set_cons_zero,List.set_cons_succ,i64_w,i32_w]
           rfl
          refine pure_ (i:=20) (N:=some 165) (v:=?_) (a':=?_) #[true,true,true,true,true,true,true,true,true,true,true,true,true,true,true,true,true,true,true,true,true,false,false,false] rfl rfl (any_of HT_.out (by kernel_rfl)) (fun _ _ _ h=>h) (Or.inl ⟨by rfl,?_⟩) ?_ ?_
          rotate_left
          ·intro w'
           go_simp
           with_reducible rfl
          rotate_left
          ·simp only [Act.put,List.setIfInBounds_toArray,List.set_cons_zero,List.set_cons_succ,i64_w,i32_w]
           rfl
          refine take_ (i:=21) (N:=some 166) (v:=?_) (a':=?_) #[true,true,true,true,true,true,true,true,true,true,true,true,true,true,true,true,true,true,true,true,true,true,false,false] rfl rfl (take_ofW HT_.out HW_.out (by kernel_rfl)) (fun _ _ _ h=>h) (Or.inl ⟨by rfl,?_⟩) hHeld ?_ ?_
          rotate_left
          ·rintro w' ⟨s0,s1,s2,s3,s4⟩
           go_simp
           with_reducible rfl
          rotate_left
          ·simp only [Act.put,List.setIfInBounds_toArray,List.set_cons_zero,List.set_cons_succ,i64_w,i32_w]
           rfl
          refine pure_ (i:=22) (N:=some 167) (v:=?_) (a':=?_) #[true,true,true,true,true,true,true,true,true,true,true,true,true,true,true,true,true,true,true,true,true,true,true,false] rfl rfl (any_of HT_.out (by kernel_rfl)) (fun _ _ _ h=>h) (Or.inl ⟨by rfl,?_⟩) ?_ ?_
          rotate_left
          ·intro w'
           go_simp
           with_reducible rfl
          rotate_left
          ·simp only [Act.put,List.setIfInBounds_toArray,List.set_cons_zero,List.set_cons_succ,i64_w,i32_w]
           rfl
          refine pure_ (i:=23) (N:=some 168) (v:=?_) (a':=?_) #[true,true,true,true,true,true,true,true,true,true,true,true,true,true,true,true,true,true,true,true,true,true,true,true] rfl rfl (any_of HT_.out (by kernel_rfl)) (fun _ _ _ h=>h) (Or.inl ⟨by rfl,?_⟩) ?_ ?_
          rotate_left
          ·intro w'
           go_simp
           with_reducible rfl
          rotate_left
          ·simp only [Act.put,List.setIfInBounds_toArray,List.set_cons_zero,List.set_cons_succ,i64_w,i32_w]
           rfl
          refine done_ (done_of HT_.out (by kernel_rfl)) ?_
          
          go_wp2
          go_roundg k2
          case measure=>omega
          case rel=>exact ⟨j + 1,by first|rfl|(simp;done),⟨by have:=HJ.out;omega⟩,HO,Qb,HB⟩
         ·have cb4 : decide (2 * a > a + b) = false:=decide_eq_false (by omega)
          have cb5 : decide (wrap64 (2 * a) > a + b) = false:=by rw [hw2];exact cb4
          have HTEST : Aside0 (clique_Test.f a (a + b - a) = some 191):=⟨by rw [test_eq (by omega) (by omega)];rw [if_pos (by omega)]⟩
          go_upto_region 36 with (fail)
          have n0_:=Aside0.mk (blk_drew Qb.out);have n1_:=Aside0.mk (blk_drew Qa.out);have n2_:=Aside0.mk (blk_drew Qc.out);have n3_:=Aside0.mk (Kd.R_drew HO.out);have n4_:=Aside0.mk (below_drew1 HB.out);clear Qb Qa Qc HO HB;have Qb:=n0_;have Qa:=n1_;have Qc:=n2_;have HO:=n3_;have HB:=n4_;clear n0_ n1_ n2_ n3_ n4_
          obtain ⟨ad9,e9,hrow⟩:=Kd.at_int (Kd.R_reads' HO.out).2.2 (j : Int) (of_eq_true p85) (of_eq_true q85)
          cases e9
          rw [Int.toNat_natCast,hx] at hrow
          refine start_ (n:=24) (S:=fun w'=>w'.cell? ⟨g18,0,none⟩ = some (.int .i64 a)∧w'.cell? ⟨g18,1,none⟩ = some (.int .i64 (a + b - a))∧w'.cell? ⟨g17,1,none⟩ = some (.int .u16 v0)∧w'.cell? (ad85.add j) = some (.int .i64 0)∧w'.cell? ⟨g12,0,none⟩ = some (.int .u16 v0)) (ds:=[]) #[false,false,false,false,false,false,false,false,false,false,false,false,false,false,false,false,false,false,false,false,false,false,false,false] (by kernel_rfl) rfl rfl ⟨(blk_cell Qc.out 0).trans rfl,(blk_cell Qc.out 1).trans rfl,(blk_cell Qa.out 1).trans rfl,hrow,(blk_cell Qb.out 0).trans rfl⟩ (fun hHeld=>?_)
          refine with_tabW cliqueParties.tab36 cliqueParties.bits36 (fun HT_ HW_=>?_)
          refine pure_ (i:=1) (N:=some 146) (v:=?_) (a':=?_) #[false,true,false,false,false,false,false,false,false,false,false,false,false,false,false,false,false,false,false,false,false,false,false,false] rfl rfl (any_of HT_.out (by kernel_rfl)) (fun _ _ _ h=>h) (Or.inl ⟨by rfl,?_⟩) ?_ ?_
          rotate_left
          ·intro w'
           go_simp
           with_reducible rfl
          rotate_left
          ·simp only [Act.put,List.setIfInBounds_toArray,List.set_cons_zero,List.set_cons_succ,i64_w,i32_w]
           rfl
          refine pure_ (i:=2) (N:=some 147) (v:=?_) (a':=?_) #[false,true,true,false,false,false,false,false,false,false,false,false,false,false,false,false,false,false,false,false,false,false,false,false] rfl rfl (any_of HT_.out (by kernel_rfl)) (fun _ _ _ h=>h) (Or.inl ⟨by rfl,?_⟩) ?_ ?_
          rotate_left
          ·intro w'
           go_simp
           with_reducible rfl
          rotate_left
          ·simp only [Act.put,List.setIfInBounds_toArray,List.set_cons_zero,List.set_cons_succ,i64_w,i32_w]
           rfl
          refine pure_ (i:=3) (N:=some 148) (v:=?_) (a':=?_) #[false,true,true,true,false,false,false,false,false,false,false,false,false,false,false,false,false,false,false,false,false,false,false,false] rfl rfl (any_of HT_.out (by kernel_rfl)) (fun _ _ _ h=>h) (Or.inl ⟨by rfl,?_⟩) ?_ ?_
          rotate_left
          ·intro w'
           go_simp
           with_reducible rfl
          rotate_left
          ·simp only [Act.put,List.setIfInBounds_toArray,List.set_cons_zero,List.set_cons_succ,i64_w,i32_w]
           rfl
          refine pure_ (i:=4) (N:=some 149) (v:=?_) (a':=?_) #[false,true,true,true,true,false,false,false,false,false,false,false,false,false,false,false,false,false,false,false,false,false,false,false] rfl rfl (any_of HT_.out (by kernel_rfl)) (fun _ _ _ h=>h) (Or.inl ⟨by rfl,?_⟩) ?_ ?_
          rotate_left
          ·intro w'
           go_simp
           with_reducible rfl
          rotate_left
          ·simp only [Act.put,List.setIfInBounds_toArray,List.set_cons_zero,List.set_cons_succ,i64_w,i32_w]
           rfl
          refine pure_ (i:=5) (N:=some 150) (v:=?_) (a':=?_) #[false,true,true,true,true,true,false,false,false,false,false,false,false,false,false,false,false,false,false,false,false,false,false,false] rfl rfl (any_of HT_.out (by kernel_rfl)) (fun _ _ _ h=>h) (Or.inl ⟨by rfl,?_⟩) ?_ ?_
          rotate_left
          ·intro w'
           go_simp
           with_reducible rfl
          rotate_left
          ·simp only [Act.put,List.setIfInBounds_toArray,List.set_cons_zero,List.set_cons_succ,i64_w,i32_w]
           rfl
          refine take_ (i:=0) (N:=some 145) (v:=?_) (a':=?_) #[true,true,true,true,true,true,false,false,false,false,false,false,false,false,false,false,false,false,false,false,false,false,false,false] rfl rfl (take_ofW HT_.out HW_.out (by kernel_rfl)) (fun _ _ _ h=>h) (Or.inl ⟨by rfl,?_⟩) hHeld ?_ ?_
          rotate_left
          ·rintro w' ⟨s0,s1,s2,s3,s4⟩
           go_simp
           with_reducible rfl
          rotate_left
          ·simp only [Act.put,List.setIfInBounds_toArray,List.set_cons_zero,List.set_cons_succ,i64_w,i32_w]
           rfl
          refine pure_ (i:=6) (N:=some 151) (v:=?_) (a':=?_) #[true,true,true,true,true,true,true,false,false,false,false,false,false,false,false,false,false,false,false,false,false,false,false,false] rfl rfl (any_of HT_.out (by kernel_rfl)) (fun _ _ _ h=>h) (Or.inl ⟨by rfl,?_⟩) ?_ ?_
          rotate_left
          ·intro w'
           go_simp
           with_reducible rfl
          rotate_left
          ·simp only [Act.put,List.setIfInBounds_toArray,List.set_cons_zero,List.set_cons_succ,i64_w,i32_w]
           rfl
          refine pure_ (i:=7) (N:=some 152) (v:=?_) (a':=?_) #[true,true,true,true,true,true,true,true,false,false,false,false,false,false,false,false,false,false,false,false,false,false,false,false] rfl rfl (any_of HT_.out (by kernel_rfl)) (fun _ _ _ h=>h) (Or.inl ⟨by rfl,?_⟩) ?_ ?_
          rotate_left
          ·intro w'
           go_simp
           with_reducible rfl
          rotate_left
          ·simp only [Act.put,List.setIfInBounds_toArray,List.set_cons_zero,List.set_cons_succ,i64_w,i32_w]
           rfl
          refine pure_ (i:=10) (N:=some 155) (v:=?_) (a':=?_) #[true,true,true,true,true,true,true,true,false,false,true,false,false,false,false,false,false,false,false,false,false,false,false,false] rfl rfl (any_of HT_.out (by kernel_rfl)) (fun _ _ _ h=>h) (Or.inl ⟨by rfl,?_⟩) ?_ ?_
          rotate_left
          ·intro w'
           go_simp
           with_reducible rfl
          rotate_left
          ·simp only [Act.put,List.setIfInBounds_toArray,List.set_cons_zero,List.set_cons_succ,i64_w,i32_w]
           rfl
          refine take_ (i:=8) (N:=some 153) (v:=?_) (a':=?_) #[true,true,true,true,true,true,true,true,true,false,true,false,false,false,false,false,false,false,false,false,false,false,false,false] rfl rfl (take_ofW HT_.out HW_.out (by kernel_rfl)) (fun _ _ _ h=>h) (Or.inl ⟨by rfl,?_⟩) hHeld ?_ ?_
          rotate_left
          ·rintro w' ⟨s0,s1,s2,s3,s4⟩
           go_simp
           with_reducible rfl
          rotate_left
          ·simp only [Act.put,List.setIfInBounds_toArray,List.set_cons_zero,List.set_cons_succ,i64_w,i32_w]
           rfl
          refine one_ (i:=9) (N:=some 154) #[true,true,true,true,true,true,true,true,true,true,true,false,false,false,false,false,false,false,false,false,false,false,false,false] rfl rfl (one_of HT_.out (by kernel_rfl)) (by decide) (fun K hK=>?_)
          refine goes_ Try.func10 (by kernel_rfl) rfl #[.agg #[.int .i64 a,.int .i64 (a + b - a)]] (by rfl) rfl rfl (by (try simp only [List.map_toArray,List.map_cons,List.map_nil]);first|done|rfl|(simp only [List.length_drop,List.length_take];rfl)) ?_
          with_reducible refine (clique_Test.calls _ _ _ _ HTEST.out).mono ?_
          rintro e w37 ⟨rfl,hb⟩
          refine ⟨_,rfl,?_⟩
          have n0_:=Aside0.mk (blk_below Qb.out hb);have n1_:=Aside0.mk (blk_below Qa.out hb);have n2_:=Aside0.mk (blk_below Qc.out hb);have n3_:=Aside0.mk (Kd.R_below HO.out hb);have n4_:=Aside0.mk (below_step HB.out hb);clear Qb Qa Qc HO HB;have Qb:=n0_;have Qa:=n1_;have Qc:=n2_;have HO:=n3_;have HB:=n4_;clear n0_ n1_ n2_ n3_ n4_ hb
          obtain ⟨ad7,e7,hr7⟩:=Kd.at_int (Kd.R_reads' HO.out).2.2 (j : Int) (of_eq_true p85) (of_eq_true q85)
          cases e7
          rw [Int.toNat_natCast,hx] at hr7
          refine hK.out _ _ ⟨(blk_cell Qc.out 0).trans rfl,(blk_cell Qc.out 1).trans rfl,(blk_cell Qa.out 1).trans rfl,hr7,(blk_cell Qb.out 0).trans rfl⟩ (fun hHeld=>?_)
          clear hK K
          refine norm_ (a':=?_) ?_ ?_
          rotate_left
          ·show Act.put _ (some 154) _ = _
           simp only [Act.put,List.setIfInBounds_toArray,List.set_cons_zero,List.set_cons_succ,i64_w,i32_w]
           rfl
          refine pure_ (i:=11) (N:=some 156) (v:=?_) (a':=?_) #[true,true,true,true,true,true,true,true,true,true,true,true,false,false,false,false,false,false,false,false,false,false,false,false] rfl rfl (any_of HT_.out (by kernel_rfl)) (fun _ _ _ h=>h) (Or.inl ⟨by rfl,?_⟩) ?_ ?_
          rotate_left
          ·intro w'
           go_simp
           with_reducible rfl
          rotate_left
          ·simp only [Act.put,List.setIfInBounds_toArray,List.set_cons_zero,List.set_cons_succ,i64_w,i32_w]
           rfl
          refine pure_ (i:=12) (N:=some 157) (v:=?_) (a':=?_) #[true,true,true,true,true,true,true,true,true,true,true,true,true,false,false,false,false,false,false,false,false,false,false,false] rfl rfl (any_of HT_.out (by kernel_rfl)) (fun _ _ _ h=>h) (Or.inl ⟨by rfl,?_⟩) ?_ ?_
          rotate_left
          ·intro w'
           go_simp
           with_reducible rfl
          rotate_left
          ·simp only [Act.put,List.setIfInBounds_toArray,List.set_cons_zero,List.set_cons_succ,i64_w,i32_w]
           rfl
          refine pure_ (i:=13) (N:=some 158) (v:=?_) (a':=?_) #[true,true,true,true,true,true,true,true,true,true,true,true,true,true,false,false,false,false,false,false,false,false,false,false] rfl rfl (any_of HT_.out (by kernel_rfl)) (fun _ _ _ h=>h) (Or.inl ⟨by rfl,?_⟩) ?_ ?_
          rotate_left
          ·intro w'
           go_simp
           with_reducible rfl
          rotate_left
          ·simp only [Act.put,List.setIfInBounds_toArray,List.set_cons_zero,List.set_cons_succ,i64_w,i32_w]
           rfl
          refine pure_ (i:=14) (N:=some 159) (v:=?_) (a':=?_) #[true,true,true,true,true,true,true,true,true,true,true,true,true,true,true,false,false,false,false,false,false,false,false,false] rfl rfl (any_of HT_.out (by kernel_rfl)) (fun _ _ _ h=>h) (Or.inl ⟨by rfl,?_⟩) ?_ ?_
          rotate_left
          ·intro w'
           go_simp
           with_reducible rfl
          rotate_left
          ·simp only [Act.put,List.setIfInBounds_toArray,List.set_cons_zero,List.set_cons_succ,i64_w,i32_w]
           rfl
          refine pure_ (i:=16) (N:=some 161) (v:=?_) (a':=?_) #[true,true,true,true,true,true,true,true,true,true,true,true,true,true,true,false,true,false,false,false,false,false,false,false] rfl rfl (any_of HT_.out (by kernel_rfl)) (fun _ _ _ h=>h) (Or.inl ⟨by rfl,?_⟩) ?_ ?_
          rotate_left
          ·intro w'
           go_simp
           with_reducible rfl
          rotate_left
          ·simp only [Act.put,List.setIfInBounds_toArray,List.set_cons_zero,List.set_cons_succ,i64_w,i32_w]
           rfl
          refine pure_ (i:=17) (N:=some 162) (v:=?_) (a':=?_) #[true,true,true,true,true,true,true,true,true,true,true,true,true,true,true,false,true,true,false,false,false,false,false,false] rfl rfl (any_of HT_.out (by kernel_rfl)) (fun _ _ _ h=>h) (Or.inl ⟨by rfl,?_⟩) ?_ ?_
          rotate_left
          ·intro w'
           go_simp
           with_reducible rfl
          rotate_left
          ·simp only [Act.put,List.setIfInBounds_toArray,List.set_cons_zero,List.set_cons_succ,i64_w,i32_w]
           rfl
          refine pure_ (i:=18) (N:=some 163) (v:=?_) (a':=?_) #[true,true,true,true,true,true,true,true,true,true,true,true,true,true,true,false,true,true,true,false,false,false,false,false] rfl rfl (any_of HT_.out (by kernel_rfl)) (fun _ _ _ h=>h) (Or.inl ⟨by rfl,?_⟩) ?_ ?_
          rotate_left
          ·intro w'
           go_simp
           with_reducible rfl
          rotate_left
          ·simp only [Act.put,List.setIfInBounds_toArray,List.set_cons_zero,List.set_cons_succ,i64_w,i32_w]
           rfl
          refine take_ (i:=15) (N:=some 160) (v:=?_) (a':=?_) #[true,true,true,true,true,true,true,true,true,true,true,true,true,true,true,true,true,true,true,false,false,false,false,false] rfl rfl (take_ofW HT_.out HW_.out (by kernel_rfl)) (fun _ _ _ h=>h) (Or.inl ⟨by rfl,?_⟩) hHeld ?_ ?_
          rotate_left
          ·rintro w' ⟨s0,s1,s2,s3,s4⟩
           go_simp
           with_reducible rfl
          rotate_left
          ·simp only [Act.put,List.setIfInBounds_toArray,List.set_cons_zero,List.set_cons_succ,i64_w,i32_w]
           rfl
          refine take_ (i:=19) (N:=some 164) (v:=?_) (a':=?_) #[true,true,true,true,true,true,true,true,true,true,true,true,true,true,true,true,true,true,true,true,false,false,false,false] rfl rfl (take_ofW HT_.out HW_.out (by kernel_rfl)) (fun _ _ _ h=>h) (Or.inl ⟨by rfl,?_⟩) hHeld ?_ ?_
          rotate_left
          ·rintro w' ⟨s0,s1,s2,s3,s4⟩
           go_simp
           with_reducible rfl
          rotate_left
          ·simp only [Act.put,List.setIfInBounds_toArray,List.set_cons_zero,List.set_cons_succ,i64_w,i32_w]
           rfl
          refine pure_ (i:=20) (N:=some 165) (v:=?_) (a':=?_) #[true,true,true,true,true,true,true,true,true,true,true,true,true,true,true,true,true,true,true,true,true,false,false,false] rfl rfl (any_of HT_.out (by kernel_rfl)) (fun _ _ _ h=>h) (Or.inl ⟨by rfl,?_⟩) ?_ ?_
          rotate_left
          ·intro w'
           go_simp
           with_reducible rfl
          rotate_left
          ·simp only [Act.put,List.setIfInBounds_toArray,List.set_cons_zero,List.set_cons_succ,i64_w,i32_w]
           rfl
          refine take_ (i:=21) (N:=some 166) (v:=?_) (a':=?_) #[true,true,true,true,true,true,true,true,true,true,true,true,true,true,true,true,true,true,true,true,true,true,false,false] rfl rfl (take_ofW HT_.out HW_.out (by kernel_rfl)) (fun _ _ _ h=>h) (Or.inl ⟨by rfl,?_⟩) hHeld ?_ ?_
          rotate_left
          ·rintro w' ⟨s0,s1,s2,s3,s4⟩
           go_simp
           with_reducible rfl
          rotate_left
          ·simp only [Act.put,List.setIfInBounds_toArray,List.set_cons_zero,List.set_cons_succ,i64_w,i32_w]
           rfl
          refine pure_ (i:=22) (N:=some 167) (v:=?_) (a':=?_) #[true,true,true,true,true,true,true,true,true,true,true,true,true,true,true,true,true,true,true,true,true,true,true,false] rfl rfl (any_of HT_.out (by kernel_rfl)) (fun _ _ _ h=>h) (Or.inl ⟨by rfl,?_⟩) ?_ ?_
          rotate_left
          ·intro w'
           go_simp
           with_reducible rfl
          rotate_left
          ·simp only [Act.put,List.setIfInBounds_toArray,List.set_cons_zero,List.set_cons_succ,i64_w,i32_w]
           rfl
          refine pure_ (i:=23) (N:=some 168) (v:=?_) (a':=?_) #[true,true,true,true,true,true,true,true,true,true,true,true,true,true,true,true,true,true,true,true,true,true,true,true] rfl rfl (any_of HT_.out (by kernel_rfl)) (fun _ _ _ h=>h) (Or.inl ⟨by rfl,?_⟩) ?_ ?_
          rotate_left
          ·intro w'
           go_simp
           with_reducible rfl
          rotate_left
          ·simp only [Act.put,List.setIfInBounds_toArray,List.set_cons_zero,List.set_cons_succ,i64_w,i32_w]
           rfl
          refine done_ (done_of HT_.out (by kernel_rfl)) ?_
          
          go_wp2
          go_roundg k2
          case measure=>omega
          case rel=>exact ⟨j + 1,by first|rfl|(simp;done),⟨by have:=HJ.out;omega⟩,HO,Qb,HB⟩
     ·rw [hx] at hx85_0
      go_wp2_with (first|((with_reducible refine gate_dst (N:=17) rfl ?_);refine box_event ?hg (N:=17) ?hd (cs:=#[.int .i64 0,.int .u16 0,.int .i64 0,.int .i64 0]) (t:=34) ?hr ?_;(case hd=>rfl);(case hg=>rfl);(case hr=>first|(go_simp;done)|(go_simp;rfl));intro g17 hg w17 hbox hb;have n0_:=ks_ HB hb;have n1_:=Aside0.mk hbox;have n2_:=Aside0.mk (by rw [hg];exact kz_ HB : w.heap.size ≤ g17);have n3_:=nl_ Qb hg;have n4_:=ng_ Qb hg;have n5_:=kb_ Qb hb;have n6_:=Aside0.mk (Kd.R_below HO.out hb);clear HB Qb HO hcz_0 hcz_1;have HB:=n0_;have Qa:=n1_;have Qe:=n2_;have NB17:=n3_;have NC17:=n4_;have Qb:=n5_;have HO:=n6_;clear n0_ n1_ n2_ n3_ n4_ n5_ n6_ hb hbox hg;have hcz_0 : w17.cell? ⟨g17,0,none⟩ = some (.int .i64 0):=(blk_cell Qa.out 0).trans rfl;have hcz_1 : w17.cell? ⟨g17,1,none⟩ = some (.int .u16 0):=(blk_cell Qa.out 1).trans rfl;have hcz_2 : w17.cell? ⟨g17,2,none⟩ = some (.int .i64 0):=(blk_cell Qa.out 2).trans rfl;have hcz_3 : w17.cell? ⟨g17,3,none⟩ = some (.int .i64 0):=(blk_cell Qa.out 3).trans rfl;have hfz_0:=blk_frozen Qa.out 0;have hfz_1:=blk_frozen Qa.out 1;have hfz_2:=blk_frozen Qa.out 2;have hfz_3:=blk_frozen Qa.out 3)|(go_at_call 15;(with_reducible refine (clique_Sent.calls 1 0 _ rfl).mono ?_);rintro e w21 ⟨rfl,hb⟩;have n0_:=ks_ HB hb;have n1_:=Aside0.mk (blk_below (bp4_ Qa.out (j : Int) v1 0 0) hb);have n2_:=Aside0.mk (blk_below (bf4_ Qb.out NB17.out (.int .i64 (j : Int)) (.int .u16 v1) (.int .i64 0) (.int .i64 0)) hb);have n3_:=Aside0.mk (Kd.R_below (rf4_ HO.out Qa.out (by decide) (.int .i64 (j : Int)) (.int .u16 v1) (.int .i64 0) (.int .i64 0)) hb);clear HB Qa Qb HO hcz_0 hcz_1 hcz_2 hcz_3 hfz_0 hfz_1 hfz_2 hfz_3;have HB:=n0_;have Qa:=n1_;have Qb:=n2_;have HO:=n3_;clear n0_ n1_ n2_ n3_ hb)|((with_reducible refine gate_dst (N:=18) rfl ?_);refine box_event ?hg (N:=18) ?hd (cs:=#[.int .i64 0,.int .i64 0]) (t:=23) ?hr ?_;(case hd=>rfl);(case hg=>rfl);(case hr=>first|(go_simp;done)|(go_simp;rfl));intro g18 hg w18 hbox hb;have n0_:=ks_ HB hb;have n1_:=Aside0.mk hbox;have n2_:=Aside0.mk (by rw [hg];exact kz_ HB : w.heap.size ≤ g18);have n3_:=nl_ Qb hg;have n4_:=ng_ Qb hg;have n5_:=kb_ Qb hb;have n6_:=Aside0.mk (Kd.R_below HO.out hb);have n7_:=nl_ Qa hg;have n8_:=ng_ Qa hg;have n9_:=kb_ Qa hb;clear HB Qb HO Qa;have HB:=n0_;have Qc:=n1_;have Qf:=n2_;have NB18:=n3_;have NC18:=n4_;have Qb:=n5_;have HO:=n6_;have ND:=n7_;have NE:=n8_;have Qa:=n9_;clear n0_ n1_ n2_ n3_ n4_ n5_ n6_ n7_ n8_ n9_ hb hbox hg;have hcz_0 : w18.cell? ⟨g18,0,none⟩ = some (.int .i64 0):=(blk_cell Qc.out 0).trans rfl;have hcz_1 : w18.cell? ⟨g18,1,none⟩ = some (.int .i64 0):=(blk_cell Qc.out 1).trans rfl;have hfz_0:=blk_frozen Qc.out 0;have hfz_1:=blk_frozen Qc.out 1))
      have hx9 : P.getD j 9 = 1:=by rw [getD_rd hjP];exact hx
      have hT1 : T P j 1 1 = 1:=T_one hjP hx9
      go_loopg [19] (17 : Nat) (fun kq v19 w'=>∃ (k : Nat),v19 = .int .i64 (k : Int)∧Aside0 (1 ≤ k∧(k : Int) ≤ a + b∧k + kq = 18)∧Aside0 (Kd.R (Kd.int .i64) 3 w' w.heap.size (fun _=>True) (.slice (some ad85) P.length co) P)∧Aside0 (w'.heap[g12]? = some (.cells #[.int .u16 v0,.int .u16 v1] 47 (0,0)))∧Aside0 (w'.heap[g17]? = some (.cells #[.int .i64 (j : Int),.int .u16 v1,.int .i64 0,.int .i64 0] 34 (0,0)))∧Aside0 (w'.heap[g18]? = some (.cells #[.int .i64 (T P j 1 k),.int .i64 ((k : Int) - T P j 1 k)] 23 (0,0)))∧Aside0 (Below w.heap.size w w'))
      case atStart=>exact ⟨1,rfl,⟨by omega⟩,⟨rst_ (rst_ HO.out Qc.out (by decide) 0 _) (blk_put (cs:=#[.int .i64 0,.int .i64 0]) Qc.out 0 _ rfl) (by decide) 1 _⟩,⟨blk_far (blk_far Qb.out NB18.out _) NB18.out _⟩,⟨blk_far (blk_far Qa.out ND.out _) ND.out _⟩,⟨by rw [hT1];refine blk_put (cs:=#[.int .i64 1,.int .i64 0]) ?_ 1 _ rfl;refine blk_put (cs:=#[.int .i64 0,.int .i64 0]) ?_ 0 _ rfl;exact Qc.out⟩,⟨below_set (below_set HB.out Qf.out) Qf.out⟩⟩
      case round =>
       clear HO Qb Qa Qc HB hcz_0 hcz_1 hfz_0 hfz_1
       obtain ⟨k,rfl,HK,HO,Qb,Qa,Qc,HB⟩:=hrel
       obtain ⟨k3,rfl⟩ : ∃ k3,gk = k3 + 1:=⟨gk - 1,by have:=HK.out;omega⟩
       by_cases c3 : (k : Int) < a + b
       ·have cb3 : decide ((k : Int) < a + b) = true:=decide_eq_true c3
        have hn0 : (a + b == 0) = false:=beq_eq_false_iff_ne.mpr (by omega)
        have hnz : ¬ (a + b = 0):=by omega
        go_upto_region 26 with (fail)
        have hk1 : 1 ≤ k:=by have:=HK.out;omega
        have hkP : k < P.length:=by omega
        have hPp : 0 < P.length:=by omega
        have hP16 : P.length ≤ 16:=by omega
        obtain ⟨m,hmn,hmj,hnode⟩ : ∃ m : Nat,m < P.length∧m ≠ j∧m = (j + k) % P.length:=⟨_,Nat.mod_lt _ hPp,rot_ne hjP hk1 hkP,rfl⟩
        rw [node_emod P.length j k (a + b) hi,← hnode]
        have HNODE:=Aside0.mk hnode
        clear hnode
        have hlk : vector_Looks.f (j : Int) v1 0 0 (m : Int) = some ([withG v1 (m : Int)],0):=look_eq v1 (by omega) (by omega) hmj
        have hcz_0 : wr.cell? ⟨g17,0,none⟩ = some (.int .i64 (j : Int)):=(blk_cell Qa.out 0).trans rfl
        have hcz_1 : wr.cell? ⟨g17,1,none⟩ = some (.int .u16 v1):=(blk_cell Qa.out 1).trans rfl
        have hcz_2 : wr.cell? ⟨g17,2,none⟩ = some (.int .i64 0):=(blk_cell Qa.out 2).trans rfl
        have hcz_3 : wr.cell? ⟨g17,3,none⟩ = some (.int .i64 0):=(blk_cell Qa.out 3).trans rfl
        go_upto_region 27 with (go_at_call 19;refine (vector_Looks.calls (j : Int) v1 0 0 (m : Int) _ _ _ hlk).mono ?_;rintro e w26 ⟨v26,rfl,ho26,hb⟩;have n0_:=Aside0.mk (Kd.R_lower ho26 (kz_ HB));have n1_:=kb_ Qb hb;have n2_:=kb_ Qa hb;have n3_:=kb_ Qc hb;have n4_:=Aside0.mk (Kd.R_below HO.out hb);have n5_:=ks_ HB hb;clear HB Qb Qa Qc HO hcz_0 hcz_1 hcz_2 hcz_3;have HL:=n0_;have Qb:=n1_;have Qa:=n2_;have Qc:=n3_;have HO:=n4_;have HB:=n5_;clear n0_ n1_ n2_ n3_ n4_ n5_ hb ho26)
        obtain ⟨Al,cl,el⟩:=Kd.R_slice HL.out
        subst el
        have p108 : 0 ≤ (m : Int):=by omega
        have q108 : (m : Int) < (P.length : Int):=by omega
        obtain ⟨ad108,e108,hx108_0⟩:=Kd.at_int (Kd.R_reads' HO.out).2.2 (m : Int) p108 q108
        cases e108
        rw [Int.toNat_natCast] at hx108_0
        replace p108:=eq_true p108
        replace q108:=eq_true q108
        have hcz_0 : w26.cell? ⟨g12,0,none⟩ = some (.int .u16 v0):=(blk_cell Qb.out 0).trans rfl
        have hcz_1 : w26.cell? ⟨g12,1,none⟩ = some (.int .u16 v1):=(blk_cell Qb.out 1).trans rfl
        rcases rd01 HPI.out hmn with hy|hy
        ·rw [hy] at hx108_0
         go_upto_region 28 with (fail)
         have hTb:=T_bounds P j 1 k
         have hA : 0 ≤ (T P j 1 k)∧(T P j 1 k) ≤ 100:=by omega
         have hF : 0 ≤ ((k : Int) - T P j 1 k)∧((k : Int) - T P j 1 k) ≤ 100:=by omega
         have hjb : tb v1 j = true:=own_bit HPI.out.b1 hjP hP16 hx
         have hwv : withoutG v1 (m : Int) = v1:=without_same HPI.out.g1 (by omega) (far_bit HPI.out.b1 hmn hP16 hy (by decide))
         have hne : withG v1 (m : Int) ≠ v0:=far_vec (j:=j) (by rw [tb_with HPI.out.g1,hjb];rfl) (far_bit HPI.out.b0 hjP hP16 hx (by decide))
         have HRES : Aside0 (vector_Result.f [withG v1 (m : Int)] v0 = some 1):=⟨result_other hne⟩
         have HFOL:=Aside0.mk (follow_other (j:=j) (m:=m) (A:=(T P j 1 k)) (F:=((k : Int) - T P j 1 k)) (by omega) (by omega) hmj hwv hA hF)
         clear hcz_0 hcz_1
         try clear hcz_2 hcz_3
         have n0_:=Aside0.mk (blk_drew Qb.out);have n1_:=Aside0.mk (blk_drew Qa.out);have n2_:=Aside0.mk (blk_drew Qc.out);have n3_:=Aside0.mk (Kd.R_drew HO.out);have n4_:=Aside0.mk (Kd.R_drew HL.out);have n5_:=Aside0.mk (below_drew1 HB.out);clear Qb Qa Qc HO HL HB;have Qb:=n0_;have Qa:=n1_;have Qc:=n2_;have HO:=n3_;have HL:=n4_;have HB:=n5_;clear n0_ n1_ n2_ n3_ n4_ n5_
         as_aux_lemma =>
          refine start_ (n:=18) (S:=fun w'=>True) (ds:=[]) #[false,false,false,false,false,false,false,false,false,false,false,false,false,false,false,false,false,false] (by kernel_rfl) rfl rfl trivial (fun hHeld=>?_)
          refine with_tabW cliqueParties.tab28 cliqueParties.bits28 (fun HT_ HW_=>?_)
          generalize w26.drew = w27 at Qb Qa Qc HO HL HB ⊢
          refine pure_ (i:=2) (N:=some 116) (v:=?_) (a':=?_) #[false,false,true,false,false,false,false,false,false,false,false,false,false,false,false,false,false,false] rfl rfl (any_of HT_.out (by kernel_rfl)) (fun _ _ _ h=>h) (Or.inl ⟨by rfl,?_⟩) ?_ ?_
          rotate_left
          ·intro w'
           go_simp
           with_reducible rfl
          rotate_left
          ·simp only [Act.put,List.setIfInBounds_toArray,List.set_cons_zero,List.set_cons_succ,i64_w,i32_w]
           rfl
          refine pure_ (i:=3) (N:=some 117) (v:=?_) (a':=?_) #[false,false,true,true,false,false,false,false,false,false,false,false,false,false,false,false,false,false] rfl rfl (any_of HT_.out (by kernel_rfl)) (fun _ _ _ h=>h) (Or.inl ⟨by rfl,?_⟩) ?_ ?_
          rotate_left
          ·intro w'
           go_simp
           with_reducible rfl
          rotate_left
          ·simp only [Act.put,List.setIfInBounds_toArray,List.set_cons_zero,List.set_cons_succ,i64_w,i32_w]
           rfl
          refine pure_ (i:=4) (N:=some 118) (v:=?_) (a':=?_) #[false,false,true,true,true,false,false,false,false,false,false,false,false,false,false,false,false,false] rfl rfl (any_of HT_.out (by kernel_rfl)) (fun _ _ _ h=>h) (Or.inl ⟨by rfl,?_⟩) ?_ ?_
          rotate_left
          ·intro w'
           go_simp
           with_reducible rfl
          rotate_left
          ·simp only [Act.put,List.setIfInBounds_toArray,List.set_cons_zero,List.set_cons_succ,i64_w,i32_w]
           rfl
          refine inv_at [0,1,5,6,7,8,9,10,11,12,13,14,15,16,17] (fun a0_ b a w'=>∃ (g24_ : Nat) (g25_ : Nat) (m12_ : Value) (m13_ : Value),a = putSel a0_ b [(0,114,.agg #[.int .i64 (j : Int),.int .u16 v1,.int .i64 0,.int .i64 0]),(1,115,.agg #[.int .i64 (T P j 1 k),.int .i64 ((k : Int) - T P j 1 k)]),(5,119,.int .i64 1),(6,120,.tuple #[.agg #[.int .i64 (j : Int),.int .u16 v1,.int .i64 0,.int .i64 0],.agg #[.int .i64 (T P j 1 k),.int .i64 (((k : Int) - T P j 1 k) + 1)],.int .i64 2,.int .i64 0]),(7,113,.tuple #[.agg #[.int .i64 (j : Int),.int .u16 v1,.int .i64 0,.int .i64 0],.agg #[.int .i64 (T P j 1 k),.int .i64 (((k : Int) - T P j 1 k) + 1)],.int .i64 2,.int .i64 0]),(8,121,.agg #[.int .i64 (j : Int),.int .u16 v1,.int .i64 0,.int .i64 0]),(9,122,.agg #[.int .i64 (T P j 1 k),.int .i64 (((k : Int) - T P j 1 k) + 1)]),(10,123,.int .i64 2),(11,124,.int .i64 0),(12,24,m12_),(13,25,m13_),(16,26,.int .i64 2),(17,27,.int .i64 0)]∧(w'.heap[g12]? = some (.cells #[.int .u16 v0,.int .u16 v1] 47 (0,0)))∧(w'.heap[g17]? = some (.cells #[.int .i64 (j : Int),.int .u16 v1,.int .i64 0,.int .i64 0] 34 (0,0)))∧(w'.heap[g18]? = some (.cells #[.int .i64 (T P j 1 k),.int .i64 ((k : Int) - T P j 1 k)] 23 (0,0)))∧(Kd.R (Kd.int .i64) 3 w' w.heap.size (fun _=>True) (.slice (some ad85) P.length co) P)∧(Kd.R (Kd.int .u16) 32 w' w.heap.size (fun _=>True) (.slice Al [withG v1 (m : Int)].length cl) [withG v1 (m : Int)])∧(Below w.heap.size w w')∧(b 12 = true→b 14 = false→w'.heap[g24_]? = some (.cells #[.int .i64 0,.int .u16 0,.int .i64 0,.int .i64 0] 34 (0,0)))∧(b 14 = true→w'.heap[g24_]? = some (.cells #[.int .i64 (j : Int),.int .u16 v1,.int .i64 0,.int .i64 0] 34 (0,0)))∧(b 13 = true→b 15 = false→w'.heap[g25_]? = some (.cells #[.int .i64 0,.int .i64 0] 23 (0,0)))∧(b 15 = true→w'.heap[g25_]? = some (.cells #[.int .i64 (T P j 1 k),.int .i64 (((k : Int) - T P j 1 k) + 1)] 23 (0,0)))∧(b 12 = true→w.heap.size ≤ g24_)∧(b 13 = true→w.heap.size ≤ g25_)∧(b 12 = true→g12 ≠ g24_∧g17 ≠ g24_∧g18 ≠ g24_)∧(b 13 = true→g12 ≠ g25_∧g17 ≠ g25_∧g18 ≠ g25_)∧(b 12 = true→(m12_ : Value) = .pointer (some ⟨g24_,0,none⟩))∧(b 13 = true→(m13_ : Value) = .pointer (some ⟨g25_,0,none⟩))) HT_.out HW_.out (by kernel_rfl) (by kernel_rfl) ?_ ?_ ?_
          ·exact ⟨0,0,.bool false,.bool false,by simp only [putSel,Bool.false_eq_true,if_false],Qb.out,Qa.out,Qc.out,HO.out,HL.out,HB.out,fun h_=>absurd h_ (by decide),fun h_=>absurd h_ (by decide),fun h_=>absurd h_ (by decide),fun h_=>absurd h_ (by decide),fun h_=>absurd h_ (by decide),fun h_=>absurd h_ (by decide),fun h_=>absurd h_ (by decide),fun h_=>absurd h_ (by decide),fun h_=>absurd h_ (by decide),fun h_=>absurd h_ (by decide)⟩
          ·skip
           clear Qb Qa Qc HB HL HO
           refine steps_cons ?_ ?_
           ·rintro b a w' ⟨g24_,g25_,m12_,m13_,ha,Q_BK12,Q_BK17,Q_BK18,Q_HO,Q_HL,Q_HB,Q_B24,Q_C24,Q_B25,Q_C25,Q_E24,Q_E25,Q_N24,Q_N25,Q_X12_,Q_X13_⟩ hb_ hon hoff
            refine ⟨_,rfl,fun K hK=>?_⟩
            have e17 : a.tmps[17]? = some (.pointer (some ⟨g17,0,none⟩)):=by rw [ha];exact (putSel_off rfl).trans rfl
            replace ha:=Aside0.mk ha
            have Qb:=Aside0.mk Q_BK12
            have Qa:=Aside0.mk Q_BK17
            have Qc:=Aside0.mk Q_BK18
            have HO:=Aside0.mk Q_HO
            have HL:=Aside0.mk Q_HL
            have HB:=Aside0.mk Q_HB
            have hc0_ : w'.cell? ⟨g17,0,none⟩ = some (.int .i64 (j : Int)):=(blk_cell Qa.out 0).trans rfl
            have hc1_ : w'.cell? ⟨g17,1,none⟩ = some (.int .u16 v1):=(blk_cell Qa.out 1).trans rfl
            have hc2_ : w'.cell? ⟨g17,2,none⟩ = some (.int .i64 0):=(blk_cell Qa.out 2).trans rfl
            have hc3_ : w'.cell? ⟨g17,3,none⟩ = some (.int .i64 0):=(blk_cell Qa.out 3).trans rfl
            refine value_ (w1:=w') (v:=.agg #[.int .i64 (j : Int),.int .u16 v1,.int .i64 0,.int .i64 0]) (by rfl) rfl ?_ ?_
            ·go_simp
             (try simp only [i64_w])
             try rfl
            refine hK.out _ _ ⟨g24_,g25_,m12_,m13_,(by rw [ha.out];exact putSel_upk 0 hb_ rfl rfl rfl),Q_BK12,Q_BK17,Q_BK18,Q_HO,Q_HL,Q_HB,Q_B24,fun h0_=>absurd ((hoff 14 (by kernel_rfl)).symm.trans h0_) (by decide),Q_B25,fun h0_=>absurd ((hoff 15 (by kernel_rfl)).symm.trans h0_) (by decide),Q_E24,Q_E25,Q_N24,Q_N25,Q_X12_,Q_X13_⟩
           refine steps_cons ?_ ?_
           ·rintro b a w' ⟨g24_,g25_,m12_,m13_,ha,Q_BK12,Q_BK17,Q_BK18,Q_HO,Q_HL,Q_HB,Q_B24,Q_C24,Q_B25,Q_C25,Q_E24,Q_E25,Q_N24,Q_N25,Q_X12_,Q_X13_⟩ hb_ hon hoff
            refine ⟨_,rfl,fun K hK=>?_⟩
            have e18 : a.tmps[18]? = some (.pointer (some ⟨g18,0,none⟩)):=by rw [ha];exact (putSel_off rfl).trans rfl
            replace ha:=Aside0.mk ha
            have Qb:=Aside0.mk Q_BK12
            have Qa:=Aside0.mk Q_BK17
            have Qc:=Aside0.mk Q_BK18
            have HO:=Aside0.mk Q_HO
            have HL:=Aside0.mk Q_HL
            have HB:=Aside0.mk Q_HB
            have hc0_ : w'.cell? ⟨g18,0,none⟩ = some (.int .i64 (T P j 1 k)):=(blk_cell Qc.out 0).trans rfl
            have hc1_ : w'.cell? ⟨g18,1,none⟩ = some (.int .i64 ((k : Int) - T P j 1 k)):=(blk_cell Qc.out 1).trans rfl
            refine value_ (w1:=w') (v:=.agg #[.int .i64 (T P j 1 k),.int .i64 ((k : Int) - T P j 1 k)]) (by rfl) rfl ?_ ?_
            ·go_simp
             (try simp only [i64_w])
             try rfl
            refine hK.out _ _ ⟨g24_,g25_,m12_,m13_,(by rw [ha.out];exact putSel_upk 1 hb_ rfl rfl rfl),Q_BK12,Q_BK17,Q_BK18,Q_HO,Q_HL,Q_HB,Q_B24,fun h0_=>absurd ((hoff 14 (by kernel_rfl)).symm.trans h0_) (by decide),Q_B25,fun h0_=>absurd ((hoff 15 (by kernel_rfl)).symm.trans h0_) (by decide),Q_E24,Q_E25,Q_N24,Q_N25,Q_X12_,Q_X13_⟩
           refine steps_cons ?_ ?_
           ·rintro b a w' ⟨g24_,g25_,m12_,m13_,ha,Q_BK12,Q_BK17,Q_BK18,Q_HO,Q_HL,Q_HB,Q_B24,Q_C24,Q_B25,Q_C25,Q_E24,Q_E25,Q_N24,Q_N25,Q_X12_,Q_X13_⟩ hb_ hon hoff
            refine ⟨_,rfl,fun K hK=>?_⟩
            have e117 : a.tmps[117]? = some (.slice Al [withG v1 (m : Int)].length cl):=by rw [ha];exact (putSel_off rfl).trans rfl
            have e118 : a.tmps[118]? = some (.int .u16 v0):=by rw [ha];exact (putSel_off rfl).trans rfl
            replace ha:=Aside0.mk ha
            have Qb:=Aside0.mk Q_BK12
            have Qa:=Aside0.mk Q_BK17
            have Qc:=Aside0.mk Q_BK18
            have HO:=Aside0.mk Q_HO
            have HL:=Aside0.mk Q_HL
            have HB:=Aside0.mk Q_HB
            refine goes_ Try.func20 (by kernel_rfl) rfl #[.slice Al [withG v1 (m : Int)].length cl,.int .u16 v0] (by rfl) rfl rfl (by first|(simp only [List.map_toArray,List.map_cons,List.map_nil,Act.eval,Array.getD_eq_getD_getElem?,Option.getD_some,e117,e118];done)|(simp only [List.map_toArray,List.map_cons,List.map_nil,Act.eval,Array.getD_eq_getD_getElem?,Option.getD_some,e117,e118];rfl)) ?_
            (refine (vector_Result.calls _ _ [withG v1 (m : Int)] v0 1 _ ?side1 ?side2 HRES.out).mono ?_);(case side1=>exact (Kd.R_reads' HL.out).2.2);(case side2=>exact (Kd.R_reads' HL.out).2.1)
            rintro e w28 ⟨rfl,hb⟩
            refine ⟨_,rfl,?_⟩
            refine hK.out _ _ ⟨g24_,g25_,m12_,m13_,(by rw [ha.out];exact putSel_upk 2 hb_ rfl rfl rfl),blk_below Qb.out hb,blk_below Qa.out hb,blk_below Qc.out hb,Kd.R_below HO.out hb,Kd.R_below HL.out hb,below_step HB.out hb,fun h0_ h1_=>blk_below (Q_B24 h0_ h1_) hb,fun h0_=>absurd ((hoff 14 (by kernel_rfl)).symm.trans h0_) (by decide),fun h0_ h1_=>blk_below (Q_B25 h0_ h1_) hb,fun h0_=>absurd ((hoff 15 (by kernel_rfl)).symm.trans h0_) (by decide),Q_E24,Q_E25,Q_N24,Q_N25,Q_X12_,Q_X13_⟩
           refine steps_cons ?_ ?_
           ·rintro b a w' ⟨g24_,g25_,m12_,m13_,ha,Q_BK12,Q_BK17,Q_BK18,Q_HO,Q_HL,Q_HB,Q_B24,Q_C24,Q_B25,Q_C25,Q_E24,Q_E25,Q_N24,Q_N25,Q_X12_,Q_X13_⟩ hb_ hon hoff
            refine ⟨_,rfl,fun K hK=>?_⟩
            have e114 : a.tmps[114]? = some (.agg #[.int .i64 (j : Int),.int .u16 v1,.int .i64 0,.int .i64 0]):=by rw [ha];exact putSel_on (e:=(0,114,.agg #[.int .i64 (j : Int),.int .u16 v1,.int .i64 0,.int .i64 0])) 0 rfl rfl (hon 0 (by kernel_rfl)) rfl
            have e115 : a.tmps[115]? = some (.agg #[.int .i64 (T P j 1 k),.int .i64 ((k : Int) - T P j 1 k)]):=by rw [ha];exact putSel_on (e:=(1,115,.agg #[.int .i64 (T P j 1 k),.int .i64 ((k : Int) - T P j 1 k)])) 1 rfl rfl (hon 1 (by kernel_rfl)) rfl
            have e116 : a.tmps[116]? = some (.int .i64 (m : Int)):=by rw [ha];exact (putSel_off rfl).trans rfl
            have e119 : a.tmps[119]? = some (.int .i64 1):=by rw [ha];exact putSel_on (e:=(5,119,.int .i64 1)) 2 rfl rfl (hon 5 (by kernel_rfl)) rfl
            replace ha:=Aside0.mk ha
            have Qb:=Aside0.mk Q_BK12
            have Qa:=Aside0.mk Q_BK17
            have Qc:=Aside0.mk Q_BK18
            have HO:=Aside0.mk Q_HO
            have HL:=Aside0.mk Q_HL
            have HB:=Aside0.mk Q_HB
            refine goes_ Try.func12 (by kernel_rfl) rfl #[.agg #[.int .i64 (j : Int),.int .u16 v1,.int .i64 0,.int .i64 0],.agg #[.int .i64 (T P j 1 k),.int .i64 ((k : Int) - T P j 1 k)],.int .i64 (m : Int),.int .i64 1] (by rfl) rfl rfl (by first|(simp only [List.map_toArray,List.map_cons,List.map_nil,Act.eval,Array.getD_eq_getD_getElem?,Option.getD_some,e114,e115,e116,e119];done)|(simp only [List.map_toArray,List.map_cons,List.map_nil,Act.eval,Array.getD_eq_getD_getElem?,Option.getD_some,e114,e115,e116,e119];rfl)) ?_
            (with_reducible refine (clique_Follow.calls _ _ _ _ _ _ _ _ _ _ _ _ _ _ _ _ _ HFOL.out).mono ?_)
            rintro e w29 ⟨rfl,hb⟩
            refine ⟨_,rfl,?_⟩
            refine hK.out _ _ ⟨g24_,g25_,m12_,m13_,(by rw [ha.out];exact putSel_upk 3 hb_ rfl rfl rfl),blk_below Qb.out hb,blk_below Qa.out hb,blk_below Qc.out hb,Kd.R_below HO.out hb,Kd.R_below HL.out hb,below_step HB.out hb,fun h0_ h1_=>blk_below (Q_B24 h0_ h1_) hb,fun h0_=>absurd ((hoff 14 (by kernel_rfl)).symm.trans h0_) (by decide),fun h0_ h1_=>blk_below (Q_B25 h0_ h1_) hb,fun h0_=>absurd ((hoff 15 (by kernel_rfl)).symm.trans h0_) (by decide),Q_E24,Q_E25,Q_N24,Q_N25,Q_X12_,Q_X13_⟩
           refine steps_cons ?_ ?_
           ·rintro b a w' ⟨g24_,g25_,m12_,m13_,ha,Q_BK12,Q_BK17,Q_BK18,Q_HO,Q_HL,Q_HB,Q_B24,Q_C24,Q_B25,Q_C25,Q_E24,Q_E25,Q_N24,Q_N25,Q_X12_,Q_X13_⟩ hb_ hon hoff
            refine ⟨_,rfl,fun K hK=>?_⟩
            have e120 : a.tmps[120]? = some (.tuple #[.agg #[.int .i64 (j : Int),.int .u16 v1,.int .i64 0,.int .i64 0],.agg #[.int .i64 (T P j 1 k),.int .i64 (((k : Int) - T P j 1 k) + 1)],.int .i64 2,.int .i64 0]):=by rw [ha];exact putSel_on (e:=(6,120,.tuple #[.agg #[.int .i64 (j : Int),.int .u16 v1,.int .i64 0,.int .i64 0],.agg #[.int .i64 (T P j 1 k),.int .i64 (((k : Int) - T P j 1 k) + 1)],.int .i64 2,.int .i64 0])) 3 rfl rfl (hon 6 (by kernel_rfl)) rfl
            replace ha:=Aside0.mk ha
            have Qb:=Aside0.mk Q_BK12
            have Qa:=Aside0.mk Q_BK17
            have Qc:=Aside0.mk Q_BK18
            have HO:=Aside0.mk Q_HO
            have HL:=Aside0.mk Q_HL
            have HB:=Aside0.mk Q_HB
            refine value_ (w1:=w') (v:=.tuple #[.agg #[.int .i64 (j : Int),.int .u16 v1,.int .i64 0,.int .i64 0],.agg #[.int .i64 (T P j 1 k),.int .i64 (((k : Int) - T P j 1 k) + 1)],.int .i64 2,.int .i64 0]) (by rfl) rfl ?_ ?_
            ·go_simp
             (try simp only [i64_w])
             try rfl
            refine hK.out _ _ ⟨g24_,g25_,m12_,m13_,(by rw [ha.out];exact putSel_upk 4 hb_ rfl rfl rfl),Q_BK12,Q_BK17,Q_BK18,Q_HO,Q_HL,Q_HB,Q_B24,fun h0_=>absurd ((hoff 14 (by kernel_rfl)).symm.trans h0_) (by decide),Q_B25,fun h0_=>absurd ((hoff 15 (by kernel_rfl)).symm.trans h0_) (by decide),Q_E24,Q_E25,Q_N24,Q_N25,Q_X12_,Q_X13_⟩
           refine steps_cons ?_ ?_
           ·rintro b a w' ⟨g24_,g25_,m12_,m13_,ha,Q_BK12,Q_BK17,Q_BK18,Q_HO,Q_HL,Q_HB,Q_B24,Q_C24,Q_B25,Q_C25,Q_E24,Q_E25,Q_N24,Q_N25,Q_X12_,Q_X13_⟩ hb_ hon hoff
            refine ⟨_,rfl,fun K hK=>?_⟩
            have e113 : a.tmps[113]? = some (.tuple #[.agg #[.int .i64 (j : Int),.int .u16 v1,.int .i64 0,.int .i64 0],.agg #[.int .i64 (T P j 1 k),.int .i64 (((k : Int) - T P j 1 k) + 1)],.int .i64 2,.int .i64 0]):=by rw [ha];exact putSel_on (e:=(7,113,.tuple #[.agg #[.int .i64 (j : Int),.int .u16 v1,.int .i64 0,.int .i64 0],.agg #[.int .i64 (T P j 1 k),.int .i64 (((k : Int) - T P j 1 k) + 1)],.int .i64 2,.int .i64 0])) 4 rfl rfl (hon 7 (by kernel_rfl)) rfl
            replace ha:=Aside0.mk ha
            have Qb:=Aside0.mk Q_BK12
            have Qa:=Aside0.mk Q_BK17
            have Qc:=Aside0.mk Q_BK18
            have HO:=Aside0.mk Q_HO
            have HL:=Aside0.mk Q_HL
            have HB:=Aside0.mk Q_HB
            refine value_ (w1:=w') (v:=.agg #[.int .i64 (j : Int),.int .u16 v1,.int .i64 0,.int .i64 0]) (by rfl) rfl ?_ ?_
            ·go_simp
             (try simp only [i64_w])
             try rfl
            refine hK.out _ _ ⟨g24_,g25_,m12_,m13_,(by rw [ha.out];exact putSel_upk 5 hb_ rfl rfl rfl),Q_BK12,Q_BK17,Q_BK18,Q_HO,Q_HL,Q_HB,Q_B24,fun h0_=>absurd ((hoff 14 (by kernel_rfl)).symm.trans h0_) (by decide),Q_B25,fun h0_=>absurd ((hoff 15 (by kernel_rfl)).symm.trans h0_) (by decide),Q_E24,Q_E25,Q_N24,Q_N25,Q_X12_,Q_X13_⟩
           refine steps_cons ?_ ?_
           ·rintro b a w' ⟨g24_,g25_,m12_,m13_,ha,Q_BK12,Q_BK17,Q_BK18,Q_HO,Q_HL,Q_HB,Q_B24,Q_C24,Q_B25,Q_C25,Q_E24,Q_E25,Q_N24,Q_N25,Q_X12_,Q_X13_⟩ hb_ hon hoff
            refine ⟨_,rfl,fun K hK=>?_⟩
            have e113 : a.tmps[113]? = some (.tuple #[.agg #[.int .i64 (j : Int),.int .u16 v1,.int .i64 0,.int .i64 0],.agg #[.int .i64 (T P j 1 k),.int .i64 (((k : Int) - T P j 1 k) + 1)],.int .i64 2,.int .i64 0]):=by rw [ha];exact putSel_on (e:=(7,113,.tuple #[.agg #[.int .i64 (j : Int),.int .u16 v1,.int .i64 0,.int .i64 0],.agg #[.int .i64 (T P j 1 k),.int .i64 (((k : Int) - T P j 1 k) + 1)],.int .i64 2,.int .i64 0])) 4 rfl rfl (hon 7 (by kernel_rfl)) rfl
            replace ha:=Aside0.mk ha
            have Qb:=Aside0.mk Q_BK12
            have Qa:=Aside0.mk Q_BK17
            have Qc:=Aside0.mk Q_BK18
            have HO:=Aside0.mk Q_HO
            have HL:=Aside0.mk Q_HL
            have HB:=Aside0.mk Q_HB
            refine value_ (w1:=w') (v:=.agg #[.int .i64 (T P j 1 k),.int .i64 (((k : Int) - T P j 1 k) + 1)]) (by rfl) rfl ?_ ?_
            ·go_simp
             (try simp only [i64_w])
             try rfl
            refine hK.out _ _ ⟨g24_,g25_,m12_,m13_,(by rw [ha.out];exact putSel_upk 6 hb_ rfl rfl rfl),Q_BK12,Q_BK17,Q_BK18,Q_HO,Q_HL,Q_HB,Q_B24,Q_C24,Q_B25,fun h0_=>absurd ((hoff 15 (by kernel_rfl)).symm.trans h0_) (by decide),Q_E24,Q_E25,Q_N24,Q_N25,Q_X12_,Q_X13_⟩
           refine steps_cons ?_ ?_
           ·rintro b a w' ⟨g24_,g25_,m12_,m13_,ha,Q_BK12,Q_BK17,Q_BK18,Q_HO,Q_HL,Q_HB,Q_B24,Q_C24,Q_B25,Q_C25,Q_E24,Q_E25,Q_N24,Q_N25,Q_X12_,Q_X13_⟩ hb_ hon hoff
            refine ⟨_,rfl,fun K hK=>?_⟩
            have e113 : a.tmps[113]? = some (.tuple #[.agg #[.int .i64 (j : Int),.int .u16 v1,.int .i64 0,.int .i64 0],.agg #[.int .i64 (T P j 1 k),.int .i64 (((k : Int) - T P j 1 k) + 1)],.int .i64 2,.int .i64 0]):=by rw [ha];exact putSel_on (e:=(7,113,.tuple #[.agg #[.int .i64 (j : Int),.int .u16 v1,.int .i64 0,.int .i64 0],.agg #[.int .i64 (T P j 1 k),.int .i64 (((k : Int) - T P j 1 k) + 1)],.int .i64 2,.int .i64 0])) 4 rfl rfl (hon 7 (by kernel_rfl)) rfl
            replace ha:=Aside0.mk ha
            have Qb:=Aside0.mk Q_BK12
            have Qa:=Aside0.mk Q_BK17
            have Qc:=Aside0.mk Q_BK18
            have HO:=Aside0.mk Q_HO
            have HL:=Aside0.mk Q_HL
            have HB:=Aside0.mk Q_HB
            refine value_ (w1:=w') (v:=.int .i64 2) (by rfl) rfl ?_ ?_
            ·go_simp
             (try simp only [i64_w])
             try rfl
            refine hK.out _ _ ⟨g24_,g25_,m12_,m13_,(by rw [ha.out];exact putSel_upk 7 hb_ rfl rfl rfl),Q_BK12,Q_BK17,Q_BK18,Q_HO,Q_HL,Q_HB,Q_B24,Q_C24,Q_B25,Q_C25,Q_E24,Q_E25,Q_N24,Q_N25,Q_X12_,Q_X13_⟩
           refine steps_cons ?_ ?_
           ·rintro b a w' ⟨g24_,g25_,m12_,m13_,ha,Q_BK12,Q_BK17,Q_BK18,Q_HO,Q_HL,Q_HB,Q_B24,Q_C24,Q_B25,Q_C25,Q_E24,Q_E25,Q_N24,Q_N25,Q_X12_,Q_X13_⟩ hb_ hon hoff
            refine ⟨_,rfl,fun K hK=>?_⟩
            have e113 : a.tmps[113]? = some (.tuple #[.agg #[.int .i64 (j : Int),.int .u16 v1,.int .i64 0,.int .i64 0],.agg #[.int .i64 (T P j 1 k),.int .i64 (((k : Int) - T P j 1 k) + 1)],.int .i64 2,.int .i64 0]):=by rw [ha];exact putSel_on (e:=(7,113,.tuple #[.agg #[.int .i64 (j : Int),.int .u16 v1,.int .i64 0,.int .i64 0],.agg #[.int .i64 (T P j 1 k),.int .i64 (((k : Int) - T P j 1 k) + 1)],.int .i64 2,.int .i64 0])) 4 rfl rfl (hon 7 (by kernel_rfl)) rfl
            replace ha:=Aside0.mk ha
            have Qb:=Aside0.mk Q_BK12
            have Qa:=Aside0.mk Q_BK17
            have Qc:=Aside0.mk Q_BK18
            have HO:=Aside0.mk Q_HO
            have HL:=Aside0.mk Q_HL
            have HB:=Aside0.mk Q_HB
            refine value_ (w1:=w') (v:=.int .i64 0) (by rfl) rfl ?_ ?_
            ·go_simp
             (try simp only [i64_w])
             try rfl
            refine hK.out _ _ ⟨g24_,g25_,m12_,m13_,(by rw [ha.out];exact putSel_upk 8 hb_ rfl rfl rfl),Q_BK12,Q_BK17,Q_BK18,Q_HO,Q_HL,Q_HB,Q_B24,Q_C24,Q_B25,Q_C25,Q_E24,Q_E25,Q_N24,Q_N25,Q_X12_,Q_X13_⟩
           refine steps_cons ?_ ?_
           ·rintro b a w' ⟨g24_,g25_,m12_,m13_,ha,Q_BK12,Q_BK17,Q_BK18,Q_HO,Q_HL,Q_HB,Q_B24,Q_C24,Q_B25,Q_C25,Q_E24,Q_E25,Q_N24,Q_N25,Q_X12_,Q_X13_⟩ hb_ hon hoff
            refine ⟨_,rfl,fun K hK=>?_⟩
            replace ha:=Aside0.mk ha
            have Qb:=Aside0.mk Q_BK12
            have Qa:=Aside0.mk Q_BK17
            have Qc:=Aside0.mk Q_BK18
            have HO:=Aside0.mk Q_HO
            have HL:=Aside0.mk Q_HL
            have HB:=Aside0.mk Q_HB
            refine box_step ?hg (N:=24) ?hd (cs:=#[.int .i64 0,.int .u16 0,.int .i64 0,.int .i64 0]) (t:=34) ?hr ?_;(case hd=>rfl);(case hg=>rfl);(case hr=>first|(go_simp;done)|(go_simp;rfl))
            intro gn hg wn hbox hb
            refine hK.out _ _ ⟨gn,g25_,(.pointer (some ⟨gn,0,none⟩)),m13_,(by rw [ha.out];exact putSel_upk 9 hb_ rfl rfl rfl),blk_below Qb.out hb,blk_below Qa.out hb,blk_below Qc.out hb,Kd.R_below HO.out hb,Kd.R_below HL.out hb,below_step HB.out hb,fun _ _=>hbox,fun h0_=>absurd ((hoff 14 (by kernel_rfl)).symm.trans h0_) (by decide),fun h0_ h1_=>blk_below (Q_B25 h0_ h1_) hb,fun h0_=>absurd ((hoff 15 (by kernel_rfl)).symm.trans h0_) (by decide),fun _=>by rw [hg];exact below_size HB.out,Q_E25,fun _=>⟨by rw [hg];exact Nat.ne_of_lt (blk_lt Qb.out),by rw [hg];exact Nat.ne_of_lt (blk_lt Qa.out),by rw [hg];exact Nat.ne_of_lt (blk_lt Qc.out)⟩,Q_N25,fun _=>rfl,Q_X13_⟩
           refine steps_cons ?_ ?_
           ·rintro b a w' ⟨g24_,g25_,m12_,m13_,ha,Q_BK12,Q_BK17,Q_BK18,Q_HO,Q_HL,Q_HB,Q_B24,Q_C24,Q_B25,Q_C25,Q_E24,Q_E25,Q_N24,Q_N25,Q_X12_,Q_X13_⟩ hb_ hon hoff
            refine ⟨_,rfl,fun K hK=>?_⟩
            replace ha:=Aside0.mk ha
            have Qb:=Aside0.mk Q_BK12
            have Qa:=Aside0.mk Q_BK17
            have Qc:=Aside0.mk Q_BK18
            have HO:=Aside0.mk Q_HO
            have HL:=Aside0.mk Q_HL
            have HB:=Aside0.mk Q_HB
            refine box_step ?hg (N:=25) ?hd (cs:=#[.int .i64 0,.int .i64 0]) (t:=23) ?hr ?_;(case hd=>rfl);(case hg=>rfl);(case hr=>first|(go_simp;done)|(go_simp;rfl))
            intro gn hg wn hbox hb
            refine hK.out _ _ ⟨g24_,gn,m12_,(.pointer (some ⟨gn,0,none⟩)),(by rw [ha.out];exact putSel_upk 10 hb_ rfl rfl rfl),blk_below Qb.out hb,blk_below Qa.out hb,blk_below Qc.out hb,Kd.R_below HO.out hb,Kd.R_below HL.out hb,below_step HB.out hb,fun h0_ h1_=>blk_below (Q_B24 h0_ h1_) hb,fun h0_=>absurd ((hoff 14 (by kernel_rfl)).symm.trans h0_) (by decide),fun _ _=>hbox,fun h0_=>absurd ((hoff 15 (by kernel_rfl)).symm.trans h0_) (by decide),Q_E24,fun _=>by rw [hg];exact below_size HB.out,Q_N24,fun _=>⟨by rw [hg];exact Nat.ne_of_lt (blk_lt Qb.out),by rw [hg];exact Nat.ne_of_lt (blk_lt Qa.out),by rw [hg];exact Nat.ne_of_lt (blk_lt Qc.out)⟩,Q_X12_,fun _=>rfl⟩
           refine steps_cons ?_ ?_
           ·rintro b a w' ⟨g24_,g25_,m12_,m13_,ha,Q_BK12,Q_BK17,Q_BK18,Q_HO,Q_HL,Q_HB,Q_B24,Q_C24,Q_B25,Q_C25,Q_E24,Q_E25,Q_N24,Q_N25,Q_X12_,Q_X13_⟩ hb_ hon hoff
            refine ⟨_,rfl,fun K hK=>?_⟩
            have e24 : a.tmps[24]? = some (m12_):=by rw [ha];exact putSel_on (e:=(12,24,m12_)) 9 rfl rfl (hon 12 (by kernel_rfl)) rfl
            rw [Q_X12_ (hon 12 (by kernel_rfl))] at e24
            have e121 : a.tmps[121]? = some (.agg #[.int .i64 (j : Int),.int .u16 v1,.int .i64 0,.int .i64 0]):=by rw [ha];exact putSel_on (e:=(8,121,.agg #[.int .i64 (j : Int),.int .u16 v1,.int .i64 0,.int .i64 0])) 5 rfl rfl (hon 8 (by kernel_rfl)) rfl
            replace ha:=Aside0.mk ha
            have Qb:=Aside0.mk Q_BK12
            have Qa:=Aside0.mk Q_BK17
            have Qc:=Aside0.mk Q_BK18
            have HO:=Aside0.mk Q_HO
            have HL:=Aside0.mk Q_HL
            have HB:=Aside0.mk Q_HB
            have B24:=Aside0.mk (Q_B24 (hon 12 (by kernel_rfl)) hb_)
            have B25:=Aside0.mk (Q_B25 (hon 13 (by kernel_rfl)) (hoff 15 (by kernel_rfl)))
            have E24:=Aside0.mk (Q_E24 (hon 12 (by kernel_rfl)))
            have E25:=Aside0.mk (Q_E25 (hon 13 (by kernel_rfl)))
            have N24:=Aside0.mk (Q_N24 (hon 12 (by kernel_rfl)))
            have N25:=Aside0.mk (Q_N25 (hon 13 (by kernel_rfl)))
            have hf0_:=blk_frozen B24.out 0
            have hf1_:=blk_frozen B24.out 1
            have hf2_:=blk_frozen B24.out 2
            have hf3_:=blk_frozen B24.out 3
            have hc0_ : w'.cell? ⟨g24_,0,none⟩ = some (.int .i64 0):=(blk_cell B24.out 0).trans rfl
            have hc1_ : w'.cell? ⟨g24_,1,none⟩ = some (.int .u16 0):=(blk_cell B24.out 1).trans rfl
            have hc2_ : w'.cell? ⟨g24_,2,none⟩ = some (.int .i64 0):=(blk_cell B24.out 2).trans rfl
            have hc3_ : w'.cell? ⟨g24_,3,none⟩ = some (.int .i64 0):=(blk_cell B24.out 3).trans rfl
            refine skip_ (w1:=?_) (by rfl) rfl ?_ ?_
            rotate_left
            ·go_simp
             rfl
            refine hK.out _ _ ⟨g24_,g25_,m12_,m13_,(by rw [ha.out];exact putSel_none (v:=undef) rfl),bf4_ Qb.out N24.out.1 _ _ _ _,bf4_ Qa.out N24.out.2.1 _ _ _ _,bf4_ Qc.out N24.out.2.2 _ _ _ _,rf4_ HO.out B24.out (by decide) _ _ _ _,rf4_ HL.out B24.out (by decide) _ _ _ _,below_set (below_set (below_set (below_set HB.out E24.out) E24.out) E24.out) E24.out,fun _ h1_=>absurd ((up_self b 14).symm.trans h1_) (by decide),fun _=>bp4_ B24.out _ _ _ _,fun _ _=>bf4_ B25.out (ne_cells B25.out B24.out (by decide)) _ _ _ _,fun h0_=>absurd ((hoff 15 (by kernel_rfl)).symm.trans h0_) (by decide),Q_E24,Q_E25,Q_N24,Q_N25,Q_X12_,Q_X13_⟩
           refine steps_cons ?_ ?_
           ·rintro b a w' ⟨g24_,g25_,m12_,m13_,ha,Q_BK12,Q_BK17,Q_BK18,Q_HO,Q_HL,Q_HB,Q_B24,Q_C24,Q_B25,Q_C25,Q_E24,Q_E25,Q_N24,Q_N25,Q_X12_,Q_X13_⟩ hb_ hon hoff
            refine ⟨_,rfl,fun K hK=>?_⟩
            have e25 : a.tmps[25]? = some (m13_):=by rw [ha];exact putSel_on (e:=(13,25,m13_)) 10 rfl rfl (hon 13 (by kernel_rfl)) rfl
            rw [Q_X13_ (hon 13 (by kernel_rfl))] at e25
            have e122 : a.tmps[122]? = some (.agg #[.int .i64 (T P j 1 k),.int .i64 (((k : Int) - T P j 1 k) + 1)]):=by rw [ha];exact putSel_on (e:=(9,122,.agg #[.int .i64 (T P j 1 k),.int .i64 (((k : Int) - T P j 1 k) + 1)])) 6 rfl rfl (hon 9 (by kernel_rfl)) rfl
            replace ha:=Aside0.mk ha
            have Qb:=Aside0.mk Q_BK12
            have Qa:=Aside0.mk Q_BK17
            have Qc:=Aside0.mk Q_BK18
            have HO:=Aside0.mk Q_HO
            have HL:=Aside0.mk Q_HL
            have HB:=Aside0.mk Q_HB
            have C24:=Aside0.mk (Q_C24 (hon 14 (by kernel_rfl)))
            have B25:=Aside0.mk (Q_B25 (hon 13 (by kernel_rfl)) hb_)
            have E24:=Aside0.mk (Q_E24 (hon 12 (by kernel_rfl)))
            have E25:=Aside0.mk (Q_E25 (hon 13 (by kernel_rfl)))
            have N24:=Aside0.mk (Q_N24 (hon 12 (by kernel_rfl)))
            have N25:=Aside0.mk (Q_N25 (hon 13 (by kernel_rfl)))
            have hf0_:=blk_frozen B25.out 0
            have hf1_:=blk_frozen B25.out 1
            have hc0_ : w'.cell? ⟨g25_,0,none⟩ = some (.int .i64 0):=(blk_cell B25.out 0).trans rfl
            have hc1_ : w'.cell? ⟨g25_,1,none⟩ = some (.int .i64 0):=(blk_cell B25.out 1).trans rfl
            refine skip_ (w1:=?_) (by rfl) rfl ?_ ?_
            rotate_left
            ·go_simp
             rfl
            refine hK.out _ _ ⟨g24_,g25_,m12_,m13_,(by rw [ha.out];exact putSel_none (v:=undef) rfl),blk_far (blk_far Qb.out N25.out.1 _) N25.out.1 _,blk_far (blk_far Qa.out N25.out.2.1 _) N25.out.2.1 _,blk_far (blk_far Qc.out N25.out.2.2 _) N25.out.2.2 _,rst_ (rst_ HO.out B25.out (by decide) 0 _) (blk_put (cs:=#[.int .i64 0,.int .i64 0]) B25.out 0 _ rfl) (by decide) 1 _,rst_ (rst_ HL.out B25.out (by decide) 0 _) (blk_put (cs:=#[.int .i64 0,.int .i64 0]) B25.out 0 _ rfl) (by decide) 1 _,below_set (below_set HB.out E25.out) E25.out,fun _ h1_=>absurd ((hon 14 (by kernel_rfl)).symm.trans h1_) (by decide),fun _=>blk_far (blk_far C24.out (ne_cells C24.out B25.out (by decide)) _) (ne_cells C24.out B25.out (by decide)) _,fun _ h1_=>absurd ((up_self b 15).symm.trans h1_) (by decide),fun _=>by refine blk_put (cs:=#[.int .i64 (T P j 1 k),.int .i64 0]) ?_ 1 _ rfl;refine blk_put (cs:=#[.int .i64 0,.int .i64 0]) ?_ 0 _ rfl;exact B25.out,Q_E24,Q_E25,Q_N24,Q_N25,Q_X12_,Q_X13_⟩
           refine steps_cons ?_ ?_
           ·rintro b a w' ⟨g24_,g25_,m12_,m13_,ha,Q_BK12,Q_BK17,Q_BK18,Q_HO,Q_HL,Q_HB,Q_B24,Q_C24,Q_B25,Q_C25,Q_E24,Q_E25,Q_N24,Q_N25,Q_X12_,Q_X13_⟩ hb_ hon hoff
            refine ⟨_,rfl,fun K hK=>?_⟩
            have e123 : a.tmps[123]? = some (.int .i64 2):=by rw [ha];exact putSel_on (e:=(10,123,.int .i64 2)) 7 rfl rfl (hon 10 (by kernel_rfl)) rfl
            replace ha:=Aside0.mk ha
            have Qb:=Aside0.mk Q_BK12
            have Qa:=Aside0.mk Q_BK17
            have Qc:=Aside0.mk Q_BK18
            have HO:=Aside0.mk Q_HO
            have HL:=Aside0.mk Q_HL
            have HB:=Aside0.mk Q_HB
            have C24:=Aside0.mk (Q_C24 (hon 14 (by kernel_rfl)))
            have C25:=Aside0.mk (Q_C25 (hon 15 (by kernel_rfl)))
            have E24:=Aside0.mk (Q_E24 (hon 12 (by kernel_rfl)))
            have E25:=Aside0.mk (Q_E25 (hon 13 (by kernel_rfl)))
            have N24:=Aside0.mk (Q_N24 (hon 12 (by kernel_rfl)))
            have N25:=Aside0.mk (Q_N25 (hon 13 (by kernel_rfl)))
            refine value_ (w1:=w') (v:=.int .i64 2) (by rfl) rfl ?_ ?_
            ·go_simp
             (try simp only [i64_w])
             try rfl
            refine hK.out _ _ ⟨g24_,g25_,m12_,m13_,(by rw [ha.out];exact putSel_upk 11 hb_ rfl rfl rfl),Q_BK12,Q_BK17,Q_BK18,Q_HO,Q_HL,Q_HB,fun _ h1_=>absurd ((hon 14 (by kernel_rfl)).symm.trans h1_) (by decide),Q_C24,fun _ h1_=>absurd ((hon 15 (by kernel_rfl)).symm.trans h1_) (by decide),Q_C25,Q_E24,Q_E25,Q_N24,Q_N25,Q_X12_,Q_X13_⟩
           refine steps_cons ?_ ?_
           ·rintro b a w' ⟨g24_,g25_,m12_,m13_,ha,Q_BK12,Q_BK17,Q_BK18,Q_HO,Q_HL,Q_HB,Q_B24,Q_C24,Q_B25,Q_C25,Q_E24,Q_E25,Q_N24,Q_N25,Q_X12_,Q_X13_⟩ hb_ hon hoff
            refine ⟨_,rfl,fun K hK=>?_⟩
            have e124 : a.tmps[124]? = some (.int .i64 0):=by rw [ha];exact putSel_on (e:=(11,124,.int .i64 0)) 8 rfl rfl (hon 11 (by kernel_rfl)) rfl
            replace ha:=Aside0.mk ha
            have Qb:=Aside0.mk Q_BK12
            have Qa:=Aside0.mk Q_BK17
            have Qc:=Aside0.mk Q_BK18
            have HO:=Aside0.mk Q_HO
            have HL:=Aside0.mk Q_HL
            have HB:=Aside0.mk Q_HB
            have C24:=Aside0.mk (Q_C24 (hon 14 (by kernel_rfl)))
            have C25:=Aside0.mk (Q_C25 (hon 15 (by kernel_rfl)))
            have E24:=Aside0.mk (Q_E24 (hon 12 (by kernel_rfl)))
            have E25:=Aside0.mk (Q_E25 (hon 13 (by kernel_rfl)))
            have N24:=Aside0.mk (Q_N24 (hon 12 (by kernel_rfl)))
            have N25:=Aside0.mk (Q_N25 (hon 13 (by kernel_rfl)))
            refine value_ (w1:=w') (v:=.int .i64 0) (by rfl) rfl ?_ ?_
            ·go_simp
             (try simp only [i64_w])
             try rfl
            refine hK.out _ _ ⟨g24_,g25_,m12_,m13_,(by rw [ha.out];exact putSel_upk 12 hb_ rfl rfl rfl),Q_BK12,Q_BK17,Q_BK18,Q_HO,Q_HL,Q_HB,fun _ h1_=>absurd ((hon 14 (by kernel_rfl)).symm.trans h1_) (by decide),Q_C24,fun _ h1_=>absurd ((hon 15 (by kernel_rfl)).symm.trans h1_) (by decide),Q_C25,Q_E24,Q_E25,Q_N24,Q_N25,Q_X12_,Q_X13_⟩
           exact steps_nil
          rintro b a w30 hall ⟨g24_,g25_,m12_,m13_,ha,Q_BK12,Q_BK17,Q_BK18,Q_HO,Q_HL,Q_HB,Q_B24,Q_C24,Q_B25,Q_C25,Q_E24,Q_E25,Q_N24,Q_N25,Q_X12_,Q_X13_⟩
          clear Qb Qa Qc HB HL HO
          have hb0_:=hall 0 (by kernel_rfl)
          have hb1_:=hall 1 (by kernel_rfl)
          have hb5_:=hall 5 (by kernel_rfl)
          have hb6_:=hall 6 (by kernel_rfl)
          have hb7_:=hall 7 (by kernel_rfl)
          have hb8_:=hall 8 (by kernel_rfl)
          have hb9_:=hall 9 (by kernel_rfl)
          have hb10_:=hall 10 (by kernel_rfl)
          have hb11_:=hall 11 (by kernel_rfl)
          have hb12_:=hall 12 (by kernel_rfl)
          have hb13_:=hall 13 (by kernel_rfl)
          have hb14_:=hall 14 (by kernel_rfl)
          have hb15_:=hall 15 (by kernel_rfl)
          have hb16_:=hall 16 (by kernel_rfl)
          have hb17_:=hall 17 (by kernel_rfl)
          subst ha
          obtain rfl:=Q_X12_ hb12_
          obtain rfl:=Q_X13_ hb13_
          simp only [putSel,hb0_,hb1_,hb5_,hb6_,hb7_,hb8_,hb9_,hb10_,hb11_,hb12_,hb13_,hb14_,hb15_,hb16_,hb17_,if_true,Act.put,List.setIfInBounds_toArray,List.set_cons_zero,List.set_cons_succ]
          have Qb:=Aside0.mk Q_BK12
          clear Q_BK12
          have Qa:=Aside0.mk Q_BK17
          clear Q_BK17
          have Qc:=Aside0.mk Q_BK18
          clear Q_BK18
          have HO:=Aside0.mk Q_HO
          clear Q_HO
          have HL:=Aside0.mk Q_HL
          clear Q_HL
          have HB:=Aside0.mk Q_HB
          clear Q_HB
          clear Q_B24
          have C24:=Aside0.mk (Q_C24 hb14_)
          clear Q_C24
          clear Q_B25
          have C25:=Aside0.mk (Q_C25 hb15_)
          clear Q_C25
          have E24:=Aside0.mk (Q_E24 hb12_)
          clear Q_E24
          have E25:=Aside0.mk (Q_E25 hb13_)
          clear Q_E25
          have N24:=Aside0.mk (Q_N24 hb12_)
          clear Q_N24
          have N25:=Aside0.mk (Q_N25 hb13_)
          clear Q_N25
          clear hall hb0_ hb1_ hb5_ hb6_ hb7_ hb8_ hb9_ hb10_ hb11_ hb12_ hb13_ hb14_ hb15_ hb16_ hb17_
          have hcz_0 : w30.cell? ⟨g24_,0,none⟩ = some (.int .i64 (j : Int)):=(blk_cell C24.out 0).trans rfl
          have hcz_1 : w30.cell? ⟨g24_,1,none⟩ = some (.int .u16 v1):=(blk_cell C24.out 1).trans rfl
          have hcz_2 : w30.cell? ⟨g24_,2,none⟩ = some (.int .i64 0):=(blk_cell C24.out 2).trans rfl
          have hcz_3 : w30.cell? ⟨g24_,3,none⟩ = some (.int .i64 0):=(blk_cell C24.out 3).trans rfl
          clear Q_X12_ Q_X13_
          clear b
          go_upto_region 31 with (fail)
          clear hcz_0 hcz_1 hcz_2 hcz_3
          clear HL
          have n0_:=Aside0.mk (blk_drew Qb.out);have n1_:=Aside0.mk (blk_drew Qa.out);have n2_:=Aside0.mk (blk_drew Qc.out);have n3_:=Aside0.mk (Kd.R_drew HO.out);have n4_:=Aside0.mk (blk_drew C24.out);have n5_:=Aside0.mk (blk_drew C25.out);have n6_:=Aside0.mk (below_drew1 HB.out);clear Qb Qa Qc HO HB C24 C25;have Qb:=n0_;have Qa:=n1_;have Qc:=n2_;have HO:=n3_;have C24:=n4_;have C25:=n5_;have HB:=n6_;clear n0_ n1_ n2_ n3_ n4_ n5_ n6_
          refine start_ (n:=4) (S:=fun w'=>True) (ds:=[]) #[false,false,false,false] (by kernel_rfl) rfl rfl trivial (fun hHeld=>?_)
          refine with_tabW cliqueParties.tab31 cliqueParties.bits31 (fun HT_ HW_=>?_)
          generalize w30.drew = w31 at Qb Qa Qc HO HB C24 C25 ⊢
          refine inv_at [0,1,2,3] (fun a0_ b a w'=>a = putSel a0_ b [(0,131,.agg #[.int .i64 (j : Int),.int .u16 v1,.int .i64 0,.int .i64 0]),(1,132,.agg #[.int .i64 (T P j 1 k),.int .i64 (((k : Int) - T P j 1 k) + 1)])]∧(w'.heap[g12]? = some (.cells #[.int .u16 v0,.int .u16 v1] 47 (0,0)))∧(w'.heap[g17]? = some (.cells #[.int .i64 (j : Int),.int .u16 v1,.int .i64 0,.int .i64 0] 34 (0,0)))∧(b 3 = false→w'.heap[g18]? = some (.cells #[.int .i64 (T P j 1 k),.int .i64 ((k : Int) - T P j 1 k)] 23 (0,0)))∧(b 3 = true→w'.heap[g18]? = some (.cells #[.int .i64 (T P j 1 k),.int .i64 (((k : Int) - T P j 1 k) + 1)] 23 (0,0)))∧(Kd.R (Kd.int .i64) 3 w' w.heap.size (fun _=>True) (.slice (some ad85) P.length co) P)∧(Below w.heap.size w w')∧(b 3 = false→w'.heap[g24_]? = some (.cells #[.int .i64 (j : Int),.int .u16 v1,.int .i64 0,.int .i64 0] 34 (0,0)))∧(b 3 = false→w'.heap[g25_]? = some (.cells #[.int .i64 (T P j 1 k),.int .i64 (((k : Int) - T P j 1 k) + 1)] 23 (0,0)))) HT_.out HW_.out (by kernel_rfl) (by kernel_rfl) ?_ ?_ ?_
          ·exact ⟨by simp only [putSel,Bool.false_eq_true,if_false],Qb.out,Qa.out,fun _=>Qc.out,fun h_=>absurd h_ (by decide),HO.out,HB.out,fun _=>C24.out,fun _=>C25.out⟩
          ·skip
           clear Qb Qa Qc C24 C25 HB HO
           refine steps_cons ?_ ?_
           ·rintro b a w' ⟨ha,Q_BK12,Q_BK17,Q_BK18,Q_NW18,Q_HO,Q_HB,Q_C24,Q_C25⟩ hb_ hon hoff
            refine ⟨_,rfl,fun K hK=>?_⟩
            have e24 : a.tmps[24]? = some (.pointer (some ⟨g24_,0,none⟩)):=by rw [ha];exact (putSel_off rfl).trans rfl
            replace ha:=Aside0.mk ha
            have Qb:=Aside0.mk Q_BK12
            have Qa:=Aside0.mk Q_BK17
            have Qc:=Aside0.mk (Q_BK18 (hoff 3 (by kernel_rfl)))
            have HO:=Aside0.mk Q_HO
            have HB:=Aside0.mk Q_HB
            have C24:=Aside0.mk (Q_C24 (hoff 3 (by kernel_rfl)))
            have C25:=Aside0.mk (Q_C25 (hoff 3 (by kernel_rfl)))
            have hc0_ : w'.cell? ⟨g24_,0,none⟩ = some (.int .i64 (j : Int)):=(blk_cell C24.out 0).trans rfl
            have hc1_ : w'.cell? ⟨g24_,1,none⟩ = some (.int .u16 v1):=(blk_cell C24.out 1).trans rfl
            have hc2_ : w'.cell? ⟨g24_,2,none⟩ = some (.int .i64 0):=(blk_cell C24.out 2).trans rfl
            have hc3_ : w'.cell? ⟨g24_,3,none⟩ = some (.int .i64 0):=(blk_cell C24.out 3).trans rfl
            refine value_ (w1:=w') (v:=.agg #[.int .i64 (j : Int),.int .u16 v1,.int .i64 0,.int .i64 0]) (by rfl) rfl ?_ ?_
            ·go_simp
             (try simp only [i64_w])
             try rfl
            refine hK.out _ _ ⟨(by rw [ha.out];exact putSel_upk 0 hb_ rfl rfl rfl),Q_BK12,Q_BK17,Q_BK18,fun h0_=>absurd ((hoff 3 (by kernel_rfl)).symm.trans h0_) (by decide),Q_HO,Q_HB,Q_C24,Q_C25⟩
           refine steps_cons ?_ ?_
           ·rintro b a w' ⟨ha,Q_BK12,Q_BK17,Q_BK18,Q_NW18,Q_HO,Q_HB,Q_C24,Q_C25⟩ hb_ hon hoff
            refine ⟨_,rfl,fun K hK=>?_⟩
            have e25 : a.tmps[25]? = some (.pointer (some ⟨g25_,0,none⟩)):=by rw [ha];exact (putSel_off rfl).trans rfl
            replace ha:=Aside0.mk ha
            have Qb:=Aside0.mk Q_BK12
            have Qa:=Aside0.mk Q_BK17
            have Qc:=Aside0.mk (Q_BK18 (hoff 3 (by kernel_rfl)))
            have HO:=Aside0.mk Q_HO
            have HB:=Aside0.mk Q_HB
            have C24:=Aside0.mk (Q_C24 (hoff 3 (by kernel_rfl)))
            have C25:=Aside0.mk (Q_C25 (hoff 3 (by kernel_rfl)))
            have hc0_ : w'.cell? ⟨g25_,0,none⟩ = some (.int .i64 (T P j 1 k)):=(blk_cell C25.out 0).trans rfl
            have hc1_ : w'.cell? ⟨g25_,1,none⟩ = some (.int .i64 (((k : Int) - T P j 1 k) + 1)):=(blk_cell C25.out 1).trans rfl
            refine value_ (w1:=w') (v:=.agg #[.int .i64 (T P j 1 k),.int .i64 (((k : Int) - T P j 1 k) + 1)]) (by rfl) rfl ?_ ?_
            ·go_simp
             (try simp only [i64_w])
             try rfl
            refine hK.out _ _ ⟨(by rw [ha.out];exact putSel_upk 1 hb_ rfl rfl rfl),Q_BK12,Q_BK17,Q_BK18,fun h0_=>absurd ((hoff 3 (by kernel_rfl)).symm.trans h0_) (by decide),Q_HO,Q_HB,Q_C24,Q_C25⟩
           refine steps_cons ?_ ?_
           ·rintro b a w' ⟨ha,Q_BK12,Q_BK17,Q_BK18,Q_NW18,Q_HO,Q_HB,Q_C24,Q_C25⟩ hb_ hon hoff
            refine ⟨_,rfl,fun K hK=>?_⟩
            have e17 : a.tmps[17]? = some (.pointer (some ⟨g17,0,none⟩)):=by rw [ha];exact (putSel_off rfl).trans rfl
            have e131 : a.tmps[131]? = some (.agg #[.int .i64 (j : Int),.int .u16 v1,.int .i64 0,.int .i64 0]):=by rw [ha];exact putSel_on (e:=(0,131,.agg #[.int .i64 (j : Int),.int .u16 v1,.int .i64 0,.int .i64 0])) 0 rfl rfl (hon 0 (by kernel_rfl)) rfl
            replace ha:=Aside0.mk ha
            have Qb:=Aside0.mk Q_BK12
            have Qa:=Aside0.mk Q_BK17
            have Qc:=Aside0.mk (Q_BK18 (hoff 3 (by kernel_rfl)))
            have HO:=Aside0.mk Q_HO
            have HB:=Aside0.mk Q_HB
            have C24:=Aside0.mk (Q_C24 (hoff 3 (by kernel_rfl)))
            have C25:=Aside0.mk (Q_C25 (hoff 3 (by kernel_rfl)))
            have hf0_:=blk_frozen Qa.out 0
            have hf1_:=blk_frozen Qa.out 1
            have hf2_:=blk_frozen Qa.out 2
            have hf3_:=blk_frozen Qa.out 3
            have hc0_ : w'.cell? ⟨g17,0,none⟩ = some (.int .i64 (j : Int)):=(blk_cell Qa.out 0).trans rfl
            have hc1_ : w'.cell? ⟨g17,1,none⟩ = some (.int .u16 v1):=(blk_cell Qa.out 1).trans rfl
            have hc2_ : w'.cell? ⟨g17,2,none⟩ = some (.int .i64 0):=(blk_cell Qa.out 2).trans rfl
            have hc3_ : w'.cell? ⟨g17,3,none⟩ = some (.int .i64 0):=(blk_cell Qa.out 3).trans rfl
            refine skip_ (w1:=?_) (by rfl) rfl ?_ ?_
            rotate_left
            ·go_simp
             rfl
            refine hK.out _ _ ⟨(by rw [ha.out];exact putSel_none (v:=undef) rfl),bf4_ Qb.out NB17.out _ _ _ _,bq4_ Qa.out _ _ _ _,fun _=>bf4_ Qc.out NE.out _ _ _ _,fun h0_=>absurd ((hoff 3 (by kernel_rfl)).symm.trans h0_) (by decide),rf4_ HO.out Qa.out (by decide) _ _ _ _,below_set (below_set (below_set (below_set HB.out Qe.out) Qe.out) Qe.out) Qe.out,fun _=>bf4_ C24.out (Ne.symm N24.out.2.1) _ _ _ _,fun _=>bf4_ C25.out (Ne.symm N25.out.2.1) _ _ _ _⟩
           refine steps_cons ?_ ?_
           ·rintro b a w' ⟨ha,Q_BK12,Q_BK17,Q_BK18,Q_NW18,Q_HO,Q_HB,Q_C24,Q_C25⟩ hb_ hon hoff
            refine ⟨_,rfl,fun K hK=>?_⟩
            have e18 : a.tmps[18]? = some (.pointer (some ⟨g18,0,none⟩)):=by rw [ha];exact (putSel_off rfl).trans rfl
            have e132 : a.tmps[132]? = some (.agg #[.int .i64 (T P j 1 k),.int .i64 (((k : Int) - T P j 1 k) + 1)]):=by rw [ha];exact putSel_on (e:=(1,132,.agg #[.int .i64 (T P j 1 k),.int .i64 (((k : Int) - T P j 1 k) + 1)])) 1 rfl rfl (hon 1 (by kernel_rfl)) rfl
            replace ha:=Aside0.mk ha
            have Qb:=Aside0.mk Q_BK12
            have Qa:=Aside0.mk Q_BK17
            have Qc:=Aside0.mk (Q_BK18 hb_)
            have HO:=Aside0.mk Q_HO
            have HB:=Aside0.mk Q_HB
            have C24:=Aside0.mk (Q_C24 hb_)
            have C25:=Aside0.mk (Q_C25 hb_)
            have hf0_:=blk_frozen Qc.out 0
            have hf1_:=blk_frozen Qc.out 1
            have hc0_ : w'.cell? ⟨g18,0,none⟩ = some (.int .i64 (T P j 1 k)):=(blk_cell Qc.out 0).trans rfl
            have hc1_ : w'.cell? ⟨g18,1,none⟩ = some (.int .i64 ((k : Int) - T P j 1 k)):=(blk_cell Qc.out 1).trans rfl
            refine skip_ (w1:=?_) (by rfl) rfl ?_ ?_
            rotate_left
            ·go_simp
             rfl
            refine hK.out _ _ ⟨(by rw [ha.out];exact putSel_none (v:=undef) rfl),blk_far (blk_far Qb.out NB18.out _) NB18.out _,blk_far (blk_far Qa.out ND.out _) ND.out _,fun h0_=>absurd ((up_self b 3).symm.trans h0_) (by decide),fun _=>by refine blk_put (cs:=#[.int .i64 (T P j 1 k),.int .i64 ((k : Int) - T P j 1 k)]) ?_ 1 _ rfl;refine blk_put (cs:=#[.int .i64 (T P j 1 k),.int .i64 ((k : Int) - T P j 1 k)]) ?_ 0 _ rfl;exact Qc.out,rst_ (rst_ HO.out Qc.out (by decide) 0 _) (blk_put (cs:=#[.int .i64 (T P j 1 k),.int .i64 ((k : Int) - T P j 1 k)]) Qc.out 0 _ rfl) (by decide) 1 _,below_set (below_set HB.out Qf.out) Qf.out,fun h0_=>absurd ((up_self b 3).symm.trans h0_) (by decide),fun h0_=>absurd ((up_self b 3).symm.trans h0_) (by decide)⟩
           exact steps_nil
          rintro b a w32 hall ⟨ha,Q_BK12,Q_BK17,Q_BK18,Q_NW18,Q_HO,Q_HB,Q_C24,Q_C25⟩
          clear Qb Qa Qc C24 C25 HB HO
          have hb0_:=hall 0 (by kernel_rfl)
          have hb1_:=hall 1 (by kernel_rfl)
          have hb2_:=hall 2 (by kernel_rfl)
          have hb3_:=hall 3 (by kernel_rfl)
          subst ha
          simp only [putSel,hb0_,hb1_,hb2_,hb3_,if_true,Act.put,List.setIfInBounds_toArray,List.set_cons_zero,List.set_cons_succ]
          have Qb:=Aside0.mk Q_BK12
          clear Q_BK12
          have Qa:=Aside0.mk Q_BK17
          clear Q_BK17
          clear Q_BK18
          have NW18:=Aside0.mk (Q_NW18 hb3_)
          clear Q_NW18
          have HO:=Aside0.mk Q_HO
          clear Q_HO
          have HB:=Aside0.mk Q_HB
          clear Q_HB
          clear Q_C24
          clear Q_C25
          clear hall hb0_ hb1_ hb2_ hb3_
          clear b
          go_wp2
          have hT2 : T P j 1 (k + 1) = T P j 1 k:=by rw [T_succ,← HNODE.out,getD_rd hmn,hy,if_neg (by decide),Int.add_zero]
          have hF2 : ((k + 1 : Nat) : Int) - T P j 1 (k + 1) = ((k : Int) - T P j 1 k) + 1:=by rw [hT2];omega
          go_roundg k3
          case measure=>omega
          case rel=>exact ⟨k + 1,by first|rfl|(simp;done),⟨by have:=HK.out;omega⟩,HO,Qb,Qa,⟨by rw [hF2,hT2];exact NW18.out⟩,HB⟩
        ·rw [hy] at hx108_0
         go_upto_region 28 with (fail)
         have hTb:=T_bounds P j 1 k
         have hA : 0 ≤ (T P j 1 k)∧(T P j 1 k) ≤ 100:=by omega
         have hF : 0 ≤ ((k : Int) - T P j 1 k)∧((k : Int) - T P j 1 k) ≤ 100:=by omega
         have hjb : tb v1 j = true:=own_bit HPI.out.b1 hjP hP16 hx
         have hwv : withG v1 (m : Int) = v1:=with_same HPI.out.g1 (by omega) (own_bit HPI.out.b1 hmn hP16 hy)
         have HRES : Aside0 (vector_Result.f [withG v1 (m : Int)] v1 = some 2):=⟨by rw [hwv];exact result_same v1⟩
         have HFOL:=Aside0.mk (follow_same (j:=j) (m:=m) (A:=(T P j 1 k)) (F:=((k : Int) - T P j 1 k)) (by omega) (by omega) hmj hwv hA hF)
         clear hcz_0 hcz_1
         try clear hcz_2 hcz_3
         have n0_:=Aside0.mk (blk_drew Qb.out);have n1_:=Aside0.mk (blk_drew Qa.out);have n2_:=Aside0.mk (blk_drew Qc.out);have n3_:=Aside0.mk (Kd.R_drew HO.out);have n4_:=Aside0.mk (Kd.R_drew HL.out);have n5_:=Aside0.mk (below_drew1 HB.out);clear Qb Qa Qc HO HL HB;have Qb:=n0_;have Qa:=n1_;have Qc:=n2_;have HO:=n3_;have HL:=n4_;have HB:=n5_;clear n0_ n1_ n2_ n3_ n4_ n5_
         as_aux_lemma =>
          refine start_ (n:=18) (S:=fun w'=>True) (ds:=[]) #[false,false,false,false,false,false,false,false,false,false,false,false,false,false,false,false,false,false] (by kernel_rfl) rfl rfl trivial (fun hHeld=>?_)
          refine with_tabW cliqueParties.tab28 cliqueParties.bits28 (fun HT_ HW_=>?_)
          generalize w26.drew = w27 at Qb Qa Qc HO HL HB ⊢
          refine pure_ (i:=2) (N:=some 116) (v:=?_) (a':=?_) #[false,false,true,false,false,false,false,false,false,false,false,false,false,false,false,false,false,false] rfl rfl (any_of HT_.out (by kernel_rfl)) (fun _ _ _ h=>h) (Or.inl ⟨by rfl,?_⟩) ?_ ?_
          rotate_left
          ·intro w'
           go_simp
           with_reducible rfl
          rotate_left
          ·simp only [Act.put,List.setIfInBounds_toArray,List.set_cons_zero,List.set_cons_succ,i64_w,i32_w]
           rfl
          refine pure_ (i:=3) (N:=some 117) (v:=?_) (a':=?_) #[false,false,true,true,false,false,false,false,false,false,false,false,false,false,false,false,false,false] rfl rfl (any_of HT_.out (by kernel_rfl)) (fun _ _ _ h=>h) (Or.inl ⟨by rfl,?_⟩) ?_ ?_
          rotate_left
          ·intro w'
           go_simp
           with_reducible rfl
          rotate_left
          ·simp only [Act.put,List.setIfInBounds_toArray,List.set_cons_zero,List.set_cons_succ,i64_w,i32_w]
           rfl
          refine pure_ (i:=4) (N:=some 118) (v:=?_) (a':=?_) #[false,false,true,true,true,false,false,false,false,false,false,false,false,false,false,false,false,false] rfl rfl (any_of HT_.out (by kernel_rfl)) (fun _ _ _ h=>h) (Or.inl ⟨by rfl,?_⟩) ?_ ?_
          rotate_left
          ·intro w'
           go_simp
           with_reducible rfl
          rotate_left
          ·simp only [Act.put,List.setIfInBounds_toArray,List.set_cons_zero,List.set_cons_succ,i64_w,i32_w]
           rfl
          refine inv_at [0,1,5,6,7,8,9,10,11,12,13,14,15,16,17] (fun a0_ b a w'=>∃ (g24_ : Nat) (g25_ : Nat) (m12_ : Value) (m13_ : Value),a = putSel a0_ b [(0,114,.agg #[.int .i64 (j : Int),.int .u16 v1,.int .i64 0,.int .i64 0]),(1,115,.agg #[.int .i64 (T P j 1 k),.int .i64 ((k : Int) - T P j 1 k)]),(5,119,.int .i64 2),(6,120,.tuple #[.agg #[.int .i64 (j : Int),.int .u16 v1,.int .i64 0,.int .i64 0],.agg #[.int .i64 ((T P j 1 k) + 1),.int .i64 ((k : Int) - T P j 1 k)],.int .i64 1,.int .i64 0]),(7,113,.tuple #[.agg #[.int .i64 (j : Int),.int .u16 v1,.int .i64 0,.int .i64 0],.agg #[.int .i64 ((T P j 1 k) + 1),.int .i64 ((k : Int) - T P j 1 k)],.int .i64 1,.int .i64 0]),(8,121,.agg #[.int .i64 (j : Int),.int .u16 v1,.int .i64 0,.int .i64 0]),(9,122,.agg #[.int .i64 ((T P j 1 k) + 1),.int .i64 ((k : Int) - T P j 1 k)]),(10,123,.int .i64 1),(11,124,.int .i64 0),(12,24,m12_),(13,25,m13_),(16,26,.int .i64 1),(17,27,.int .i64 0)]∧(w'.heap[g12]? = some (.cells #[.int .u16 v0,.int .u16 v1] 47 (0,0)))∧(w'.heap[g17]? = some (.cells #[.int .i64 (j : Int),.int .u16 v1,.int .i64 0,.int .i64 0] 34 (0,0)))∧(w'.heap[g18]? = some (.cells #[.int .i64 (T P j 1 k),.int .i64 ((k : Int) - T P j 1 k)] 23 (0,0)))∧(Kd.R (Kd.int .i64) 3 w' w.heap.size (fun _=>True) (.slice (some ad85) P.length co) P)∧(Kd.R (Kd.int .u16) 32 w' w.heap.size (fun _=>True) (.slice Al [withG v1 (m : Int)].length cl) [withG v1 (m : Int)])∧(Below w.heap.size w w')∧(b 12 = true→b 14 = false→w'.heap[g24_]? = some (.cells #[.int .i64 0,.int .u16 0,.int .i64 0,.int .i64 0] 34 (0,0)))∧(b 14 = true→w'.heap[g24_]? = some (.cells #[.int .i64 (j : Int),.int .u16 v1,.int .i64 0,.int .i64 0] 34 (0,0)))∧(b 13 = true→b 15 = false→w'.heap[g25_]? = some (.cells #[.int .i64 0,.int .i64 0] 23 (0,0)))∧(b 15 = true→w'.heap[g25_]? = some (.cells #[.int .i64 ((T P j 1 k) + 1),.int .i64 ((k : Int) - T P j 1 k)] 23 (0,0)))∧(b 12 = true→w.heap.size ≤ g24_)∧(b 13 = true→w.heap.size ≤ g25_)∧(b 12 = true→g12 ≠ g24_∧g17 ≠ g24_∧g18 ≠ g24_)∧(b 13 = true→g12 ≠ g25_∧g17 ≠ g25_∧g18 ≠ g25_)∧(b 12 = true→(m12_ : Value) = .pointer (some ⟨g24_,0,none⟩))∧(b 13 = true→(m13_ : Value) = .pointer (some ⟨g25_,0,none⟩))) HT_.out HW_.out (by kernel_rfl) (by kernel_rfl) ?_ ?_ ?_
          ·exact ⟨0,0,.bool false,.bool false,by simp only [putSel,Bool.false_eq_true,if_false],Qb.out,Qa.out,Qc.out,HO.out,HL.out,HB.out,fun h_=>absurd h_ (by decide),fun h_=>absurd h_ (by decide),fun h_=>absurd h_ (by decide),fun h_=>absurd h_ (by decide),fun h_=>absurd h_ (by decide),fun h_=>absurd h_ (by decide),fun h_=>absurd h_ (by decide),fun h_=>absurd h_ (by decide),fun h_=>absurd h_ (by decide),fun h_=>absurd h_ (by decide)⟩
          ·skip
           clear Qb Qa Qc HB HL HO
           refine steps_cons ?_ ?_
           ·rintro b a w' ⟨g24_,g25_,m12_,m13_,ha,Q_BK12,Q_BK17,Q_BK18,Q_HO,Q_HL,Q_HB,Q_B24,Q_C24,Q_B25,Q_C25,Q_E24,Q_E25,Q_N24,Q_N25,Q_X12_,Q_X13_⟩ hb_ hon hoff
            refine ⟨_,rfl,fun K hK=>?_⟩
            have e17 : a.tmps[17]? = some (.pointer (some ⟨g17,0,none⟩)):=by rw [ha];exact (putSel_off rfl).trans rfl
            replace ha:=Aside0.mk ha
            have Qb:=Aside0.mk Q_BK12
            have Qa:=Aside0.mk Q_BK17
            have Qc:=Aside0.mk Q_BK18
            have HO:=Aside0.mk Q_HO
            have HL:=Aside0.mk Q_HL
            have HB:=Aside0.mk Q_HB
            have hc0_ : w'.cell? ⟨g17,0,none⟩ = some (.int .i64 (j : Int)):=(blk_cell Qa.out 0).trans rfl
            have hc1_ : w'.cell? ⟨g17,1,none⟩ = some (.int .u16 v1):=(blk_cell Qa.out 1).trans rfl
            have hc2_ : w'.cell? ⟨g17,2,none⟩ = some (.int .i64 0):=(blk_cell Qa.out 2).trans rfl
            have hc3_ : w'.cell? ⟨g17,3,none⟩ = some (.int .i64 0):=(blk_cell Qa.out 3).trans rfl
            refine value_ (w1:=w') (v:=.agg #[.int .i64 (j : Int),.int .u16 v1,.int .i64 0,.int .i64 0]) (by rfl) rfl ?_ ?_
            ·go_simp
             (try simp only [i64_w])
             try rfl
            refine hK.out _ _ ⟨g24_,g25_,m12_,m13_,(by rw [ha.out];exact putSel_upk 0 hb_ rfl rfl rfl),Q_BK12,Q_BK17,Q_BK18,Q_HO,Q_HL,Q_HB,Q_B24,fun h0_=>absurd ((hoff 14 (by kernel_rfl)).symm.trans h0_) (by decide),Q_B25,fun h0_=>absurd ((hoff 15 (by kernel_rfl)).symm.trans h0_) (by decide),Q_E24,Q_E25,Q_N24,Q_N25,Q_X12_,Q_X13_⟩
           refine steps_cons ?_ ?_
           ·rintro b a w' ⟨g24_,g25_,m12_,m13_,ha,Q_BK12,Q_BK17,Q_BK18,Q_HO,Q_HL,Q_HB,Q_B24,Q_C24,Q_B25,Q_C25,Q_E24,Q_E25,Q_N24,Q_N25,Q_X12_,Q_X13_⟩ hb_ hon hoff
            refine ⟨_,rfl,fun K hK=>?_⟩
            have e18 : a.tmps[18]? = some (.pointer (some ⟨g18,0,none⟩)):=by rw [ha];exact (putSel_off rfl).trans rfl
            replace ha:=Aside0.mk ha
            have Qb:=Aside0.mk Q_BK12
            have Qa:=Aside0.mk Q_BK17
            have Qc:=Aside0.mk Q_BK18
            have HO:=Aside0.mk Q_HO
            have HL:=Aside0.mk Q_HL
            have HB:=Aside0.mk Q_HB
            have hc0_ : w'.cell? ⟨g18,0,none⟩ = some (.int .i64 (T P j 1 k)):=(blk_cell Qc.out 0).trans rfl
            have hc1_ : w'.cell? ⟨g18,1,none⟩ = some (.int .i64 ((k : Int) - T P j 1 k)):=(blk_cell Qc.out 1).trans rfl
            refine value_ (w1:=w') (v:=.agg #[.int .i64 (T P j 1 k),.int .i64 ((k : Int) - T P j 1 k)]) (by rfl) rfl ?_ ?_
            ·go_simp
             (try simp only [i64_w])
             try rfl
            refine hK.out _ _ ⟨g24_,g25_,m12_,m13_,(by rw [ha.out];exact putSel_upk 1 hb_ rfl rfl rfl),Q_BK12,Q_BK17,Q_BK18,Q_HO,Q_HL,Q_HB,Q_B24,fun h0_=>absurd ((hoff 14 (by kernel_rfl)).symm.trans h0_) (by decide),Q_B25,fun h0_=>absurd ((hoff 15 (by kernel_rfl)).symm.trans h0_) (by decide),Q_E24,Q_E25,Q_N24,Q_N25,Q_X12_,Q_X13_⟩
           refine steps_cons ?_ ?_
           ·rintro b a w' ⟨g24_,g25_,m12_,m13_,ha,Q_BK12,Q_BK17,Q_BK18,Q_HO,Q_HL,Q_HB,Q_B24,Q_C24,Q_B25,Q_C25,Q_E24,Q_E25,Q_N24,Q_N25,Q_X12_,Q_X13_⟩ hb_ hon hoff
            refine ⟨_,rfl,fun K hK=>?_⟩
            have e117 : a.tmps[117]? = some (.slice Al [withG v1 (m : Int)].length cl):=by rw [ha];exact (putSel_off rfl).trans rfl
            have e118 : a.tmps[118]? = some (.int .u16 v1):=by rw [ha];exact (putSel_off rfl).trans rfl
            replace ha:=Aside0.mk ha
            have Qb:=Aside0.mk Q_BK12
            have Qa:=Aside0.mk Q_BK17
            have Qc:=Aside0.mk Q_BK18
            have HO:=Aside0.mk Q_HO
            have HL:=Aside0.mk Q_HL
            have HB:=Aside0.mk Q_HB
            refine goes_ Try.func20 (by kernel_rfl) rfl #[.slice Al [withG v1 (m : Int)].length cl,.int .u16 v1] (by rfl) rfl rfl (by first|(simp only [List.map_toArray,List.map_cons,List.map_nil,Act.eval,Array.getD_eq_getD_getElem?,Option.getD_some,e117,e118];done)|(simp only [List.map_toArray,List.map_cons,List.map_nil,Act.eval,Array.getD_eq_getD_getElem?,Option.getD_some,e117,e118];rfl)) ?_
            (refine (vector_Result.calls _ _ [withG v1 (m : Int)] v1 2 _ ?side1 ?side2 HRES.out).mono ?_);(case side1=>exact (Kd.R_reads' HL.out).2.2);(case side2=>exact (Kd.R_reads' HL.out).2.1)
            rintro e w28 ⟨rfl,hb⟩
            refine ⟨_,rfl,?_⟩
            refine hK.out _ _ ⟨g24_,g25_,m12_,m13_,(by rw [ha.out];exact putSel_upk 2 hb_ rfl rfl rfl),blk_below Qb.out hb,blk_below Qa.out hb,blk_below Qc.out hb,Kd.R_below HO.out hb,Kd.R_below HL.out hb,below_step HB.out hb,fun h0_ h1_=>blk_below (Q_B24 h0_ h1_) hb,fun h0_=>absurd ((hoff 14 (by kernel_rfl)).symm.trans h0_) (by decide),fun h0_ h1_=>blk_below (Q_B25 h0_ h1_) hb,fun h0_=>absurd ((hoff 15 (by kernel_rfl)).symm.trans h0_) (by decide),Q_E24,Q_E25,Q_N24,Q_N25,Q_X12_,Q_X13_⟩
           refine steps_cons ?_ ?_
           ·rintro b a w' ⟨g24_,g25_,m12_,m13_,ha,Q_BK12,Q_BK17,Q_BK18,Q_HO,Q_HL,Q_HB,Q_B24,Q_C24,Q_B25,Q_C25,Q_E24,Q_E25,Q_N24,Q_N25,Q_X12_,Q_X13_⟩ hb_ hon hoff
            refine ⟨_,rfl,fun K hK=>?_⟩
            have e114 : a.tmps[114]? = some (.agg #[.int .i64 (j : Int),.int .u16 v1,.int .i64 0,.int .i64 0]):=by rw [ha];exact putSel_on (e:=(0,114,.agg #[.int .i64 (j : Int),.int .u16 v1,.int .i64 0,.int .i64 0])) 0 rfl rfl (hon 0 (by kernel_rfl)) rfl
            have e115 : a.tmps[115]? = some (.agg #[.int .i64 (T P j 1 k),.int .i64 ((k : Int) - T P j 1 k)]):=by rw [ha];exact putSel_on (e:=(1,115,.agg #[.int .i64 (T P j 1 k),.int .i64 ((k : Int) - T P j 1 k)])) 1 rfl rfl (hon 1 (by kernel_rfl)) rfl
            have e116 : a.tmps[116]? = some (.int .i64 (m : Int)):=by rw [ha];exact (putSel_off rfl).trans rfl
            have e119 : a.tmps[119]? = some (.int .i64 2):=by rw [ha];exact putSel_on (e:=(5,119,.int .i64 2)) 2 rfl rfl (hon 5 (by kernel_rfl)) rfl
            replace ha:=Aside0.mk ha
            have Qb:=Aside0.mk Q_BK12
            have Qa:=Aside0.mk Q_BK17
            have Qc:=Aside0.mk Q_BK18
            have HO:=Aside0.mk Q_HO
            have HL:=Aside0.mk Q_HL
            have HB:=Aside0.mk Q_HB
            refine goes_ Try.func12 (by kernel_rfl) rfl #[.agg #[.int .i64 (j : Int),.int .u16 v1,.int .i64 0,.int .i64 0],.agg #[.int .i64 (T P j 1 k),.int .i64 ((k : Int) - T P j 1 k)],.int .i64 (m : Int),.int .i64 2] (by rfl) rfl rfl (by first|(simp only [List.map_toArray,List.map_cons,List.map_nil,Act.eval,Array.getD_eq_getD_getElem?,Option.getD_some,e114,e115,e116,e119];done)|(simp only [List.map_toArray,List.map_cons,List.map_nil,Act.eval,Array.getD_eq_getD_getElem?,Option.getD_some,e114,e115,e116,e119];rfl)) ?_
            (with_reducible refine (clique_Follow.calls _ _ _ _ _ _ _ _ _ _ _ _ _ _ _ _ _ HFOL.out).mono ?_)
            rintro e w29 ⟨rfl,hb⟩
            refine ⟨_,rfl,?_⟩
            refine hK.out _ _ ⟨g24_,g25_,m12_,m13_,(by rw [ha.out];exact putSel_upk 3 hb_ rfl rfl rfl),blk_below Qb.out hb,blk_below Qa.out hb,blk_below Qc.out hb,Kd.R_below HO.out hb,Kd.R_below HL.out hb,below_step HB.out hb,fun h0_ h1_=>blk_below (Q_B24 h0_ h1_) hb,fun h0_=>absurd ((hoff 14 (by kernel_rfl)).symm.trans h0_) (by decide),fun h0_ h1_=>blk_below (Q_B25 h0_ h1_) hb,fun h0_=>absurd ((hoff 15 (by kernel_rfl)).symm.trans h0_) (by decide),Q_E24,Q_E25,Q_N24,Q_N25,Q_X12_,Q_X13_⟩
           refine steps_cons ?_ ?_
           ·rintro b a w' ⟨g24_,g25_,m12_,m13_,ha,Q_BK12,Q_BK17,Q_BK18,Q_HO,Q_HL,Q_HB,Q_B24,Q_C24,Q_B25,Q_C25,Q_E24,Q_E25,Q_N24,Q_N25,Q_X12_,Q_X13_⟩ hb_ hon hoff
            refine ⟨_,rfl,fun K hK=>?_⟩
            have e120 : a.tmps[120]? = some (.tuple #[.agg #[.int .i64 (j : Int),.int .u16 v1,.int .i64 0,.int .i64 0],.agg #[.int .i64 ((T P j 1 k) + 1),.int .i64 ((k : Int) - T P j 1 k)],.int .i64 1,.int .i64 0]):=by rw [ha];exact putSel_on (e:=(6,120,.tuple #[.agg #[.int .i64 (j : Int),.int .u16 v1,.int .i64 0,.int .i64 0],.agg #[.int .i64 ((T P j 1 k) + 1),.int .i64 ((k : Int) - T P j 1 k)],.int .i64 1,.int .i64 0])) 3 rfl rfl (hon 6 (by kernel_rfl)) rfl
            replace ha:=Aside0.mk ha
            have Qb:=Aside0.mk Q_BK12
            have Qa:=Aside0.mk Q_BK17
            have Qc:=Aside0.mk Q_BK18
            have HO:=Aside0.mk Q_HO
            have HL:=Aside0.mk Q_HL
            have HB:=Aside0.mk Q_HB
            refine value_ (w1:=w') (v:=.tuple #[.agg #[.int .i64 (j : Int),.int .u16 v1,.int .i64 0,.int .i64 0],.agg #[.int .i64 ((T P j 1 k) + 1),.int .i64 ((k : Int) - T P j 1 k)],.int .i64 1,.int .i64 0]) (by rfl) rfl ?_ ?_
            ·go_simp
             (try simp only [i64_w])
             try rfl
            refine hK.out _ _ ⟨g24_,g25_,m12_,m13_,(by rw [ha.out];exact putSel_upk 4 hb_ rfl rfl rfl),Q_BK12,Q_BK17,Q_BK18,Q_HO,Q_HL,Q_HB,Q_B24,fun h0_=>absurd ((hoff 14 (by kernel_rfl)).symm.trans h0_) (by decide),Q_B25,fun h0_=>absurd ((hoff 15 (by kernel_rfl)).symm.trans h0_) (by decide),Q_E24,Q_E25,Q_N24,Q_N25,Q_X12_,Q_X13_⟩
           refine steps_cons ?_ ?_
           ·rintro b a w' ⟨g24_,g25_,m12_,m13_,ha,Q_BK12,Q_BK17,Q_BK18,Q_HO,Q_HL,Q_HB,Q_B24,Q_C24,Q_B25,Q_C25,Q_E24,Q_E25,Q_N24,Q_N25,Q_X12_,Q_X13_⟩ hb_ hon hoff
            refine ⟨_,rfl,fun K hK=>?_⟩
            have e113 : a.tmps[113]? = some (.tuple #[.agg #[.int .i64 (j : Int),.int .u16 v1,.int .i64 0,.int .i64 0],.agg #[.int .i64 ((T P j 1 k) + 1),.int .i64 ((k : Int) - T P j 1 k)],.int .i64 1,.int .i64 0]):=by rw [ha];exact putSel_on (e:=(7,113,.tuple #[.agg #[.int .i64 (j : Int),.int .u16 v1,.int .i64 0,.int .i64 0],.agg #[.int .i64 ((T P j 1 k) + 1),.int .i64 ((k : Int) - T P j 1 k)],.int .i64 1,.int .i64 0])) 4 rfl rfl (hon 7 (by kernel_rfl)) rfl
            replace ha:=Aside0.mk ha
            have Qb:=Aside0.mk Q_BK12
            have Qa:=Aside0.mk Q_BK17
            have Qc:=Aside0.mk Q_BK18
            have HO:=Aside0.mk Q_HO
            have HL:=Aside0.mk Q_HL
            have HB:=Aside0.mk Q_HB
            refine value_ (w1:=w') (v:=.agg #[.int .i64 (j : Int),.int .u16 v1,.int .i64 0,.int .i64 0]) (by rfl) rfl ?_ ?_
            ·go_simp
             (try simp only [i64_w])
             try rfl
            refine hK.out _ _ ⟨g24_,g25_,m12_,m13_,(by rw [ha.out];exact putSel_upk 5 hb_ rfl rfl rfl),Q_BK12,Q_BK17,Q_BK18,Q_HO,Q_HL,Q_HB,Q_B24,fun h0_=>absurd ((hoff 14 (by kernel_rfl)).symm.trans h0_) (by decide),Q_B25,fun h0_=>absurd ((hoff 15 (by kernel_rfl)).symm.trans h0_) (by decide),Q_E24,Q_E25,Q_N24,Q_N25,Q_X12_,Q_X13_⟩
           refine steps_cons ?_ ?_
           ·rintro b a w' ⟨g24_,g25_,m12_,m13_,ha,Q_BK12,Q_BK17,Q_BK18,Q_HO,Q_HL,Q_HB,Q_B24,Q_C24,Q_B25,Q_C25,Q_E24,Q_E25,Q_N24,Q_N25,Q_X12_,Q_X13_⟩ hb_ hon hoff
            refine ⟨_,rfl,fun K hK=>?_⟩
            have e113 : a.tmps[113]? = some (.tuple #[.agg #[.int .i64 (j : Int),.int .u16 v1,.int .i64 0,.int .i64 0],.agg #[.int .i64 ((T P j 1 k) + 1),.int .i64 ((k : Int) - T P j 1 k)],.int .i64 1,.int .i64 0]):=by rw [ha];exact putSel_on (e:=(7,113,.tuple #[.agg #[.int .i64 (j : Int),.int .u16 v1,.int .i64 0,.int .i64 0],.agg #[.int .i64 ((T P j 1 k) + 1),.int .i64 ((k : Int) - T P j 1 k)],.int .i64 1,.int .i64 0])) 4 rfl rfl (hon 7 (by kernel_rfl)) rfl
            replace ha:=Aside0.mk ha
            have Qb:=Aside0.mk Q_BK12
            have Qa:=Aside0.mk Q_BK17
            have Qc:=Aside0.mk Q_BK18
            have HO:=Aside0.mk Q_HO
            have HL:=Aside0.mk Q_HL
            have HB:=Aside0.mk Q_HB
            refine value_ (w1:=w') (v:=.agg #[.int .i64 ((T P j 1 k) + 1),.int .i64 ((k : Int) - T P j 1 k)]) (by rfl) rfl ?_ ?_
            ·go_simp
             (try simp only [i64_w])
             try rfl
            refine hK.out _ _ ⟨g24_,g25_,m12_,m13_,(by rw [ha.out];exact putSel_upk 6 hb_ rfl rfl rfl),Q_BK12,Q_BK17,Q_BK18,Q_HO,Q_HL,Q_HB,Q_B24,Q_C24,Q_B25,fun h0_=>absurd ((hoff 15 (by kernel_rfl)).symm.trans h0_) (by decide),Q_E24,Q_E25,Q_N24,Q_N25,Q_X12_,Q_X13_⟩
           refine steps_cons ?_ ?_
           ·rintro b a w' ⟨g24_,g25_,m12_,m13_,ha,Q_BK12,Q_BK17,Q_BK18,Q_HO,Q_HL,Q_HB,Q_B24,Q_C24,Q_B25,Q_C25,Q_E24,Q_E25,Q_N24,Q_N25,Q_X12_,Q_X13_⟩ hb_ hon hoff
            refine ⟨_,rfl,fun K hK=>?_⟩
            have e113 : a.tmps[113]? = some (.tuple #[.agg #[.int .i64 (j : Int),.int .u16 v1,.int .i64 0,.int .i64 0],.agg #[.int .i64 ((T P j 1 k) + 1),.int .i64 ((k : Int) - T P j 1 k)],.int .i64 1,.int .i64 0]):=by rw [ha];exact putSel_on (e:=(7,113,.tuple #[.agg #[.int .i64 (j : Int),.int .u16 v1,.int .i64 0,.int .i64 0],.agg #[.int .i64 ((T P j 1 k) + 1),.int .i64 ((k : Int) - T P j 1 k)],.int .i64 1,.int .i64 0])) 4 rfl rfl (hon 7 (by kernel_rfl)) rfl
            replace ha:=Aside0.mk ha
            have Qb:=Aside0.mk Q_BK12
            have Qa:=Aside0.mk Q_BK17
            have Qc:=Aside0.mk Q_BK18
            have HO:=Aside0.mk Q_HO
            have HL:=Aside0.mk Q_HL
            have HB:=Aside0.mk Q_HB
            refine value_ (w1:=w') (v:=.int .i64 1) (by rfl) rfl ?_ ?_
            ·go_simp
             (try simp only [i64_w])
             try rfl
            refine hK.out _ _ ⟨g24_,g25_,m12_,m13_,(by rw [ha.out];exact putSel_upk 7 hb_ rfl rfl rfl),Q_BK12,Q_BK17,Q_BK18,Q_HO,Q_HL,Q_HB,Q_B24,Q_C24,Q_B25,Q_C25,Q_E24,Q_E25,Q_N24,Q_N25,Q_X12_,Q_X13_⟩
           refine steps_cons ?_ ?_
           ·rintro b a w' ⟨g24_,g25_,m12_,m13_,ha,Q_BK12,Q_BK17,Q_BK18,Q_HO,Q_HL,Q_HB,Q_B24,Q_C24,Q_B25,Q_C25,Q_E24,Q_E25,Q_N24,Q_N25,Q_X12_,Q_X13_⟩ hb_ hon hoff
            refine ⟨_,rfl,fun K hK=>?_⟩
            have e113 : a.tmps[113]? = some (.tuple #[.agg #[.int .i64 (j : Int),.int .u16 v1,.int .i64 0,.int .i64 0],.agg #[.int .i64 ((T P j 1 k) + 1),.int .i64 ((k : Int) - T P j 1 k)],.int .i64 1,.int .i64 0]):=by rw [ha];exact putSel_on (e:=(7,113,.tuple #[.agg #[.int .i64 (j : Int),.int .u16 v1,.int .i64 0,.int .i64 0],.agg #[.int .i64 ((T P j 1 k) + 1),.int .i64 ((k : Int) - T P j 1 k)],.int .i64 1,.int .i64 0])) 4 rfl rfl (hon 7 (by kernel_rfl)) rfl
            replace ha:=Aside0.mk ha
            have Qb:=Aside0.mk Q_BK12
            have Qa:=Aside0.mk Q_BK17
            have Qc:=Aside0.mk Q_BK18
            have HO:=Aside0.mk Q_HO
            have HL:=Aside0.mk Q_HL
            have HB:=Aside0.mk Q_HB
            refine value_ (w1:=w') (v:=.int .i64 0) (by rfl) rfl ?_ ?_
            ·go_simp
             (try simp only [i64_w])
             try rfl
            refine hK.out _ _ ⟨g24_,g25_,m12_,m13_,(by rw [ha.out];exact putSel_upk 8 hb_ rfl rfl rfl),Q_BK12,Q_BK17,Q_BK18,Q_HO,Q_HL,Q_HB,Q_B24,Q_C24,Q_B25,Q_C25,Q_E24,Q_E25,Q_N24,Q_N25,Q_X12_,Q_X13_⟩
           refine steps_cons ?_ ?_
           ·rintro b a w' ⟨g24_,g25_,m12_,m13_,ha,Q_BK12,Q_BK17,Q_BK18,Q_HO,Q_HL,Q_HB,Q_B24,Q_C24,Q_B25,Q_C25,Q_E24,Q_E25,Q_N24,Q_N25,Q_X12_,Q_X13_⟩ hb_ hon hoff
            refine ⟨_,rfl,fun K hK=>?_⟩
            replace ha:=Aside0.mk ha
            have Qb:=Aside0.mk Q_BK12
            have Qa:=Aside0.mk Q_BK17
            have Qc:=Aside0.mk Q_BK18
            have HO:=Aside0.mk Q_HO
            have HL:=Aside0.mk Q_HL
            have HB:=Aside0.mk Q_HB
            refine box_step ?hg (N:=24) ?hd (cs:=#[.int .i64 0,.int .u16 0,.int .i64 0,.int .i64 0]) (t:=34) ?hr ?_;(case hd=>rfl);(case hg=>rfl);(case hr=>first|(go_simp;done)|(go_simp;rfl))
            intro gn hg wn hbox hb
            refine hK.out _ _ ⟨gn,g25_,(.pointer (some ⟨gn,0,none⟩)),m13_,(by rw [ha.out];exact putSel_upk 9 hb_ rfl rfl rfl),blk_below Qb.out hb,blk_below Qa.out hb,blk_below Qc.out hb,Kd.R_below HO.out hb,Kd.R_below HL.out hb,below_step HB.out hb,fun _ _=>hbox,fun h0_=>absurd ((hoff 14 (by kernel_rfl)).symm.trans h0_) (by decide),fun h0_ h1_=>blk_below (Q_B25 h0_ h1_) hb,fun h0_=>absurd ((hoff 15 (by kernel_rfl)).symm.trans h0_) (by decide),fun _=>by rw [hg];exact below_size HB.out,Q_E25,fun _=>⟨by rw [hg];exact Nat.ne_of_lt (blk_lt Qb.out),by rw [hg];exact Nat.ne_of_lt (blk_lt Qa.out),by rw [hg];exact Nat.ne_of_lt (blk_lt Qc.out)⟩,Q_N25,fun _=>rfl,Q_X13_⟩
           refine steps_cons ?_ ?_
           ·rintro b a w' ⟨g24_,g25_,m12_,m13_,ha,Q_BK12,Q_BK17,Q_BK18,Q_HO,Q_HL,Q_HB,Q_B24,Q_C24,Q_B25,Q_C25,Q_E24,Q_E25,Q_N24,Q_N25,Q_X12_,Q_X13_⟩ hb_ hon hoff
            refine ⟨_,rfl,fun K hK=>?_⟩
            replace ha:=Aside0.mk ha
            have Qb:=Aside0.mk Q_BK12
            have Qa:=Aside0.mk Q_BK17
            have Qc:=Aside0.mk Q_BK18
            have HO:=Aside0.mk Q_HO
            have HL:=Aside0.mk Q_HL
            have HB:=Aside0.mk Q_HB
            refine box_step ?hg (N:=25) ?hd (cs:=#[.int .i64 0,.int .i64 0]) (t:=23) ?hr ?_;(case hd=>rfl);(case hg=>rfl);(case hr=>first|(go_simp;done)|(go_simp;rfl))
            intro gn hg wn hbox hb
            refine hK.out _ _ ⟨g24_,gn,m12_,(.pointer (some ⟨gn,0,none⟩)),(by rw [ha.out];exact putSel_upk 10 hb_ rfl rfl rfl),blk_below Qb.out hb,blk_below Qa.out hb,blk_below Qc.out hb,Kd.R_below HO.out hb,Kd.R_below HL.out hb,below_step HB.out hb,fun h0_ h1_=>blk_below (Q_B24 h0_ h1_) hb,fun h0_=>absurd ((hoff 14 (by kernel_rfl)).symm.trans h0_) (by decide),fun _ _=>hbox,fun h0_=>absurd ((hoff 15 (by kernel_rfl)).symm.trans h0_) (by decide),Q_E24,fun _=>by rw [hg];exact below_size HB.out,Q_N24,fun _=>⟨by rw [hg];exact Nat.ne_of_lt (blk_lt Qb.out),by rw [hg];exact Nat.ne_of_lt (blk_lt Qa.out),by rw [hg];exact Nat.ne_of_lt (blk_lt Qc.out)⟩,Q_X12_,fun _=>rfl⟩
           refine steps_cons ?_ ?_
           ·rintro b a w' ⟨g24_,g25_,m12_,m13_,ha,Q_BK12,Q_BK17,Q_BK18,Q_HO,Q_HL,Q_HB,Q_B24,Q_C24,Q_B25,Q_C25,Q_E24,Q_E25,Q_N24,Q_N25,Q_X12_,Q_X13_⟩ hb_ hon hoff
            refine ⟨_,rfl,fun K hK=>?_⟩
            have e24 : a.tmps[24]? = some (m12_):=by rw [ha];exact putSel_on (e:=(12,24,m12_)) 9 rfl rfl (hon 12 (by kernel_rfl)) rfl
            rw [Q_X12_ (hon 12 (by kernel_rfl))] at e24
            have e121 : a.tmps[121]? = some (.agg #[.int .i64 (j : Int),.int .u16 v1,.int .i64 0,.int .i64 0]):=by rw [ha];exact putSel_on (e:=(8,121,.agg #[.int .i64 (j : Int),.int .u16 v1,.int .i64 0,.int .i64 0])) 5 rfl rfl (hon 8 (by kernel_rfl)) rfl
            replace ha:=Aside0.mk ha
            have Qb:=Aside0.mk Q_BK12
            have Qa:=Aside0.mk Q_BK17
            have Qc:=Aside0.mk Q_BK18
            have HO:=Aside0.mk Q_HO
            have HL:=Aside0.mk Q_HL
            have HB:=Aside0.mk Q_HB
            have B24:=Aside0.mk (Q_B24 (hon 12 (by kernel_rfl)) hb_)
            have B25:=Aside0.mk (Q_B25 (hon 13 (by kernel_rfl)) (hoff 15 (by kernel_rfl)))
            have E24:=Aside0.mk (Q_E24 (hon 12 (by kernel_rfl)))
            have E25:=Aside0.mk (Q_E25 (hon 13 (by kernel_rfl)))
            have N24:=Aside0.mk (Q_N24 (hon 12 (by kernel_rfl)))
            have N25:=Aside0.mk (Q_N25 (hon 13 (by kernel_rfl)))
            have hf0_:=blk_frozen B24.out 0
            have hf1_:=blk_frozen B24.out 1
            have hf2_:=blk_frozen B24.out 2
            have hf3_:=blk_frozen B24.out 3
            have hc0_ : w'.cell? ⟨g24_,0,none⟩ = some (.int .i64 0):=(blk_cell B24.out 0).trans rfl
            have hc1_ : w'.cell? ⟨g24_,1,none⟩ = some (.int .u16 0):=(blk_cell B24.out 1).trans rfl
            have hc2_ : w'.cell? ⟨g24_,2,none⟩ = some (.int .i64 0):=(blk_cell B24.out 2).trans rfl
            have hc3_ : w'.cell? ⟨g24_,3,none⟩ = some (.int .i64 0):=(blk_cell B24.out 3).trans rfl
            refine skip_ (w1:=?_) (by rfl) rfl ?_ ?_
            rotate_left
            ·go_simp
             rfl
            refine hK.out _ _ ⟨g24_,g25_,m12_,m13_,(by rw [ha.out];exact putSel_none (v:=undef) rfl),bf4_ Qb.out N24.out.1 _ _ _ _,bf4_ Qa.out N24.out.2.1 _ _ _ _,bf4_ Qc.out N24.out.2.2 _ _ _ _,rf4_ HO.out B24.out (by decide) _ _ _ _,rf4_ HL.out B24.out (by decide) _ _ _ _,below_set (below_set (below_set (below_set HB.out E24.out) E24.out) E24.out) E24.out,fun _ h1_=>absurd ((up_self b 14).symm.trans h1_) (by decide),fun _=>bp4_ B24.out _ _ _ _,fun _ _=>bf4_ B25.out (ne_cells B25.out B24.out (by decide)) _ _ _ _,fun h0_=>absurd ((hoff 15 (by kernel_rfl)).symm.trans h0_) (by decide),Q_E24,Q_E25,Q_N24,Q_N25,Q_X12_,Q_X13_⟩
           refine steps_cons ?_ ?_
           ·rintro b a w' ⟨g24_,g25_,m12_,m13_,ha,Q_BK12,Q_BK17,Q_BK18,Q_HO,Q_HL,Q_HB,Q_B24,Q_C24,Q_B25,Q_C25,Q_E24,Q_E25,Q_N24,Q_N25,Q_X12_,Q_X13_⟩ hb_ hon hoff
            refine ⟨_,rfl,fun K hK=>?_⟩
            have e25 : a.tmps[25]? = some (m13_):=by rw [ha];exact putSel_on (e:=(13,25,m13_)) 10 rfl rfl (hon 13 (by kernel_rfl)) rfl
            rw [Q_X13_ (hon 13 (by kernel_rfl))] at e25
            have e122 : a.tmps[122]? = some (.agg #[.int .i64 ((T P j 1 k) + 1),.int .i64 ((k : Int) - T P j 1 k)]):=by rw [ha];exact putSel_on (e:=(9,122,.agg #[.int .i64 ((T P j 1 k) + 1),.int .i64 ((k : Int) - T P j 1 k)])) 6 rfl rfl (hon 9 (by kernel_rfl)) rfl
            replace ha:=Aside0.mk ha
            have Qb:=Aside0.mk Q_BK12
            have Qa:=Aside0.mk Q_BK17
            have Qc:=Aside0.mk Q_BK18
            have HO:=Aside0.mk Q_HO
            have HL:=Aside0.mk Q_HL
            have HB:=Aside0.mk Q_HB
            have C24:=Aside0.mk (Q_C24 (hon 14 (by kernel_rfl)))
            have B25:=Aside0.mk (Q_B25 (hon 13 (by kernel_rfl)) hb_)
            have E24:=Aside0.mk (Q_E24 (hon 12 (by kernel_rfl)))
            have E25:=Aside0.mk (Q_E25 (hon 13 (by kernel_rfl)))
            have N24:=Aside0.mk (Q_N24 (hon 12 (by kernel_rfl)))
            have N25:=Aside0.mk (Q_N25 (hon 13 (by kernel_rfl)))
            have hf0_:=blk_frozen B25.out 0
            have hf1_:=blk_frozen B25.out 1
            have hc0_ : w'.cell? ⟨g25_,0,none⟩ = some (.int .i64 0):=(blk_cell B25.out 0).trans rfl
            have hc1_ : w'.cell? ⟨g25_,1,none⟩ = some (.int .i64 0):=(blk_cell B25.out 1).trans rfl
            refine skip_ (w1:=?_) (by rfl) rfl ?_ ?_
            rotate_left
            ·go_simp
             rfl
            refine hK.out _ _ ⟨g24_,g25_,m12_,m13_,(by rw [ha.out];exact putSel_none (v:=undef) rfl),blk_far (blk_far Qb.out N25.out.1 _) N25.out.1 _,blk_far (blk_far Qa.out N25.out.2.1 _) N25.out.2.1 _,blk_far (blk_far Qc.out N25.out.2.2 _) N25.out.2.2 _,rst_ (rst_ HO.out B25.out (by decide) 0 _) (blk_put (cs:=#[.int .i64 0,.int .i64 0]) B25.out 0 _ rfl) (by decide) 1 _,rst_ (rst_ HL.out B25.out (by decide) 0 _) (blk_put (cs:=#[.int .i64 0,.int .i64 0]) B25.out 0 _ rfl) (by decide) 1 _,below_set (below_set HB.out E25.out) E25.out,fun _ h1_=>absurd ((hon 14 (by kernel_rfl)).symm.trans h1_) (by decide),fun _=>blk_far (blk_far C24.out (ne_cells C24.out B25.out (by decide)) _) (ne_cells C24.out B25.out (by decide)) _,fun _ h1_=>absurd ((up_self b 15).symm.trans h1_) (by decide),fun _=>by refine blk_put (cs:=#[.int .i64 ((T P j 1 k) + 1),.int .i64 0]) ?_ 1 _ rfl;refine blk_put (cs:=#[.int .i64 0,.int .i64 0]) ?_ 0 _ rfl;exact B25.out,Q_E24,Q_E25,Q_N24,Q_N25,Q_X12_,Q_X13_⟩
           refine steps_cons ?_ ?_
           ·rintro b a w' ⟨g24_,g25_,m12_,m13_,ha,Q_BK12,Q_BK17,Q_BK18,Q_HO,Q_HL,Q_HB,Q_B24,Q_C24,Q_B25,Q_C25,Q_E24,Q_E25,Q_N24,Q_N25,Q_X12_,Q_X13_⟩ hb_ hon hoff
            refine ⟨_,rfl,fun K hK=>?_⟩
            have e123 : a.tmps[123]? = some (.int .i64 1):=by rw [ha];exact putSel_on (e:=(10,123,.int .i64 1)) 7 rfl rfl (hon 10 (by kernel_rfl)) rfl
            replace ha:=Aside0.mk ha
            have Qb:=Aside0.mk Q_BK12
            have Qa:=Aside0.mk Q_BK17
            have Qc:=Aside0.mk Q_BK18
            have HO:=Aside0.mk Q_HO
            have HL:=Aside0.mk Q_HL
            have HB:=Aside0.mk Q_HB
            have C24:=Aside0.mk (Q_C24 (hon 14 (by kernel_rfl)))
            have C25:=Aside0.mk (Q_C25 (hon 15 (by kernel_rfl)))
            have E24:=Aside0.mk (Q_E24 (hon 12 (by kernel_rfl)))
            have E25:=Aside0.mk (Q_E25 (hon 13 (by kernel_rfl)))
            have N24:=Aside0.mk (Q_N24 (hon 12 (by kernel_rfl)))
            have N25:=Aside0.mk (Q_N25 (hon 13 (by kernel_rfl)))
            refine value_ (w1:=w') (v:=.int .i64 1) (by rfl) rfl ?_ ?_
            ·go_simp
             (try simp only [i64_w])
             try rfl
            refine hK.out _ _ ⟨g24_,g25_,m12_,m13_,(by rw [ha.out];exact putSel_upk 11 hb_ rfl rfl rfl),Q_BK12,Q_BK17,Q_BK18,Q_HO,Q_HL,Q_HB,fun _ h1_=>absurd ((hon 14 (by kernel_rfl)).symm.trans h1_) (by decide),Q_C24,fun _ h1_=>absurd ((hon 15 (by kernel_rfl)).symm.trans h1_) (by decide),Q_C25,Q_E24,Q_E25,Q_N24,Q_N25,Q_X12_,Q_X13_⟩
           refine steps_cons ?_ ?_
           ·rintro b a w' ⟨g24_,g25_,m12_,m13_,ha,Q_BK12,Q_BK17,Q_BK18,Q_HO,Q_HL,Q_HB,Q_B24,Q_C24,Q_B25,Q_C25,Q_E24,Q_E25,Q_N24,Q_N25,Q_X12_,Q_X13_⟩ hb_ hon hoff
            refine ⟨_,rfl,fun K hK=>?_⟩
            have e124 : a.tmps[124]? = some (.int .i64 0):=by rw [ha];exact putSel_on (e:=(11,124,.int .i64 0)) 8 rfl rfl (hon 11 (by kernel_rfl)) rfl
            replace ha:=Aside0.mk ha
            have Qb:=Aside0.mk Q_BK12
            have Qa:=Aside0.mk Q_BK17
            have Qc:=Aside0.mk Q_BK18
            have HO:=Aside0.mk Q_HO
            have HL:=Aside0.mk Q_HL
            have HB:=Aside0.mk Q_HB
            have C24:=Aside0.mk (Q_C24 (hon 14 (by kernel_rfl)))
            have C25:=Aside0.mk (Q_C25 (hon 15 (by kernel_rfl)))
            have E24:=Aside0.mk (Q_E24 (hon 12 (by kernel_rfl)))
            have E25:=Aside0.mk (Q_E25 (hon 13 (by kernel_rfl)))
            have N24:=Aside0.mk (Q_N24 (hon 12 (by kernel_rfl)))
            have N25:=Aside0.mk (Q_N25 (hon 13 (by kernel_rfl)))
            refine value_ (w1:=w') (v:=.int .i64 0) (by rfl) rfl ?_ ?_
            ·go_simp
             (try simp only [i64_w])
             try rfl
            refine hK.out _ _ ⟨g24_,g25_,m12_,m13_,(by rw [ha.out];exact putSel_upk 12 hb_ rfl rfl rfl),Q_BK12,Q_BK17,Q_BK18,Q_HO,Q_HL,Q_HB,fun _ h1_=>absurd ((hon 14 (by kernel_rfl)).symm.trans h1_) (by decide),Q_C24,fun _ h1_=>absurd ((hon 15 (by kernel_rfl)).symm.trans h1_) (by decide),Q_C25,Q_E24,Q_E25,Q_N24,Q_N25,Q_X12_,Q_X13_⟩
           exact steps_nil
          rintro b a w30 hall ⟨g24_,g25_,m12_,m13_,ha,Q_BK12,Q_BK17,Q_BK18,Q_HO,Q_HL,Q_HB,Q_B24,Q_C24,Q_B25,Q_C25,Q_E24,Q_E25,Q_N24,Q_N25,Q_X12_,Q_X13_⟩
          clear Qb Qa Qc HB HL HO
          have hb0_:=hall 0 (by kernel_rfl)
          have hb1_:=hall 1 (by kernel_rfl)
          have hb5_:=hall 5 (by kernel_rfl)
          have hb6_:=hall 6 (by kernel_rfl)
          have hb7_:=hall 7 (by kernel_rfl)
          have hb8_:=hall 8 (by kernel_rfl)
          have hb9_:=hall 9 (by kernel_rfl)
          have hb10_:=hall 10 (by kernel_rfl)
          have hb11_:=hall 11 (by kernel_rfl)
          have hb12_:=hall 12 (by kernel_rfl)
          have hb13_:=hall 13 (by kernel_rfl)
          have hb14_:=hall 14 (by kernel_rfl)
          have hb15_:=hall 15 (by kernel_rfl)
          have hb16_:=hall 16 (by kernel_rfl)
          have hb17_:=hall 17 (by kernel_rfl)
          subst ha
          obtain rfl:=Q_X12_ hb12_
          obtain rfl:=Q_X13_ hb13_
          simp only [putSel,hb0_,hb1_,hb5_,hb6_,hb7_,hb8_,hb9_,hb10_,hb11_,hb12_,hb13_,hb14_,hb15_,hb16_,hb17_,if_true,Act.put,List.setIfInBounds_toArray,List.set_cons_zero,List.set_cons_succ]
          have Qb:=Aside0.mk Q_BK12
          clear Q_BK12
          have Qa:=Aside0.mk Q_BK17
          clear Q_BK17
          have Qc:=Aside0.mk Q_BK18
          clear Q_BK18
          have HO:=Aside0.mk Q_HO
          clear Q_HO
          have HL:=Aside0.mk Q_HL
          clear Q_HL
          have HB:=Aside0.mk Q_HB
          clear Q_HB
          clear Q_B24
          have C24:=Aside0.mk (Q_C24 hb14_)
          clear Q_C24
          clear Q_B25
          have C25:=Aside0.mk (Q_C25 hb15_)
          clear Q_C25
          have E24:=Aside0.mk (Q_E24 hb12_)
          clear Q_E24
          have E25:=Aside0.mk (Q_E25 hb13_)
          clear Q_E25
          have N24:=Aside0.mk (Q_N24 hb12_)
          clear Q_N24
          have N25:=Aside0.mk (Q_N25 hb13_)
          clear Q_N25
          clear hall hb0_ hb1_ hb5_ hb6_ hb7_ hb8_ hb9_ hb10_ hb11_ hb12_ hb13_ hb14_ hb15_ hb16_ hb17_
          have hcz_0 : w30.cell? ⟨g24_,0,none⟩ = some (.int .i64 (j : Int)):=(blk_cell C24.out 0).trans rfl
          have hcz_1 : w30.cell? ⟨g24_,1,none⟩ = some (.int .u16 v1):=(blk_cell C24.out 1).trans rfl
          have hcz_2 : w30.cell? ⟨g24_,2,none⟩ = some (.int .i64 0):=(blk_cell C24.out 2).trans rfl
          have hcz_3 : w30.cell? ⟨g24_,3,none⟩ = some (.int .i64 0):=(blk_cell C24.out 3).trans rfl
          clear Q_X12_ Q_X13_
          clear b
          go_upto_region 31 with (fail)
          clear hcz_0 hcz_1 hcz_2 hcz_3
          clear HL
          have n0_:=Aside0.mk (blk_drew Qb.out);have n1_:=Aside0.mk (blk_drew Qa.out);have n2_:=Aside0.mk (blk_drew Qc.out);have n3_:=Aside0.mk (Kd.R_drew HO.out);have n4_:=Aside0.mk (blk_drew C24.out);have n5_:=Aside0.mk (blk_drew C25.out);have n6_:=Aside0.mk (below_drew1 HB.out);clear Qb Qa Qc HO HB C24 C25;have Qb:=n0_;have Qa:=n1_;have Qc:=n2_;have HO:=n3_;have C24:=n4_;have C25:=n5_;have HB:=n6_;clear n0_ n1_ n2_ n3_ n4_ n5_ n6_
          refine start_ (n:=4) (S:=fun w'=>True) (ds:=[]) #[false,false,false,false] (by kernel_rfl) rfl rfl trivial (fun hHeld=>?_)
          refine with_tabW cliqueParties.tab31 cliqueParties.bits31 (fun HT_ HW_=>?_)
          generalize w30.drew = w31 at Qb Qa Qc HO HB C24 C25 ⊢
          refine inv_at [0,1,2,3] (fun a0_ b a w'=>a = putSel a0_ b [(0,131,.agg #[.int .i64 (j : Int),.int .u16 v1,.int .i64 0,.int .i64 0]),(1,132,.agg #[.int .i64 ((T P j 1 k) + 1),.int .i64 ((k : Int) - T P j 1 k)])]∧(w'.heap[g12]? = some (.cells #[.int .u16 v0,.int .u16 v1] 47 (0,0)))∧(w'.heap[g17]? = some (.cells #[.int .i64 (j : Int),.int .u16 v1,.int .i64 0,.int .i64 0] 34 (0,0)))∧(b 3 = false→w'.heap[g18]? = some (.cells #[.int .i64 (T P j 1 k),.int .i64 ((k : Int) - T P j 1 k)] 23 (0,0)))∧(b 3 = true→w'.heap[g18]? = some (.cells #[.int .i64 ((T P j 1 k) + 1),.int .i64 ((k : Int) - T P j 1 k)] 23 (0,0)))∧(Kd.R (Kd.int .i64) 3 w' w.heap.size (fun _=>True) (.slice (some ad85) P.length co) P)∧(Below w.heap.size w w')∧(b 3 = false→w'.heap[g24_]? = some (.cells #[.int .i64 (j : Int),.int .u16 v1,.int .i64 0,.int .i64 0] 34 (0,0)))∧(b 3 = false→w'.heap[g25_]? = some (.cells #[.int .i64 ((T P j 1 k) + 1),.int .i64 ((k : Int) - T P j 1 k)] 23 (0,0)))) HT_.out HW_.out (by kernel_rfl) (by kernel_rfl) ?_ ?_ ?_
          ·exact ⟨by simp only [putSel,Bool.false_eq_true,if_false],Qb.out,Qa.out,fun _=>Qc.out,fun h_=>absurd h_ (by decide),HO.out,HB.out,fun _=>C24.out,fun _=>C25.out⟩
          ·skip
           clear Qb Qa Qc C24 C25 HB HO
           refine steps_cons ?_ ?_
           ·rintro b a w' ⟨ha,Q_BK12,Q_BK17,Q_BK18,Q_NW18,Q_HO,Q_HB,Q_C24,Q_C25⟩ hb_ hon hoff
            refine ⟨_,rfl,fun K hK=>?_⟩
            have e24 : a.tmps[24]? = some (.pointer (some ⟨g24_,0,none⟩)):=by rw [ha];exact (putSel_off rfl).trans rfl
            replace ha:=Aside0.mk ha
            have Qb:=Aside0.mk Q_BK12
            have Qa:=Aside0.mk Q_BK17
            have Qc:=Aside0.mk (Q_BK18 (hoff 3 (by kernel_rfl)))
            have HO:=Aside0.mk Q_HO
            have HB:=Aside0.mk Q_HB
            have C24:=Aside0.mk (Q_C24 (hoff 3 (by kernel_rfl)))
            have C25:=Aside0.mk (Q_C25 (hoff 3 (by kernel_rfl)))
            have hc0_ : w'.cell? ⟨g24_,0,none⟩ = some (.int .i64 (j : Int)):=(blk_cell C24.out 0).trans rfl
            have hc1_ : w'.cell? ⟨g24_,1,none⟩ = some (.int .u16 v1):=(blk_cell C24.out 1).trans rfl
            have hc2_ : w'.cell? ⟨g24_,2,none⟩ = some (.int .i64 0):=(blk_cell C24.out 2).trans rfl
            have hc3_ : w'.cell? ⟨g24_,3,none⟩ = some (.int .i64 0):=(blk_cell C24.out 3).trans rfl
            refine value_ (w1:=w') (v:=.agg #[.int .i64 (j : Int),.int .u16 v1,.int .i64 0,.int .i64 0]) (by rfl) rfl ?_ ?_
            ·go_simp
             (try simp only [i64_w])
             try rfl
            refine hK.out _ _ ⟨(by rw [ha.out];exact putSel_upk 0 hb_ rfl rfl rfl),Q_BK12,Q_BK17,Q_BK18,fun h0_=>absurd ((hoff 3 (by kernel_rfl)).symm.trans h0_) (by decide),Q_HO,Q_HB,Q_C24,Q_C25⟩
           refine steps_cons ?_ ?_
           ·rintro b a w' ⟨ha,Q_BK12,Q_BK17,Q_BK18,Q_NW18,Q_HO,Q_HB,Q_C24,Q_C25⟩ hb_ hon hoff
            refine ⟨_,rfl,fun K hK=>?_⟩
            have e25 : a.tmps[25]? = some (.pointer (some ⟨g25_,0,none⟩)):=by rw [ha];exact (putSel_off rfl).trans rfl
            replace ha:=Aside0.mk ha
            have Qb:=Aside0.mk Q_BK12
            have Qa:=Aside0.mk Q_BK17
            have Qc:=Aside0.mk (Q_BK18 (hoff 3 (by kernel_rfl)))
            have HO:=Aside0.mk Q_HO
            have HB:=Aside0.mk Q_HB
            have C24:=Aside0.mk (Q_C24 (hoff 3 (by kernel_rfl)))
            have C25:=Aside0.mk (Q_C25 (hoff 3 (by kernel_rfl)))
            have hc0_ : w'.cell? ⟨g25_,0,none⟩ = some (.int .i64 ((T P j 1 k) + 1)):=(blk_cell C25.out 0).trans rfl
            have hc1_ : w'.cell? ⟨g25_,1,none⟩ = some (.int .i64 ((k : Int) - T P j 1 k)):=(blk_cell C25.out 1).trans rfl
            refine value_ (w1:=w') (v:=.agg #[.int .i64 ((T P j 1 k) + 1),.int .i64 ((k : Int) - T P j 1 k)]) (by rfl) rfl ?_ ?_
            ·go_simp
             (try simp only [i64_w])
             try rfl
            refine hK.out _ _ ⟨(by rw [ha.out];exact putSel_upk 1 hb_ rfl rfl rfl),Q_BK12,Q_BK17,Q_BK18,fun h0_=>absurd ((hoff 3 (by kernel_rfl)).symm.trans h0_) (by decide),Q_HO,Q_HB,Q_C24,Q_C25⟩
           refine steps_cons ?_ ?_
           ·rintro b a w' ⟨ha,Q_BK12,Q_BK17,Q_BK18,Q_NW18,Q_HO,Q_HB,Q_C24,Q_C25⟩ hb_ hon hoff
            refine ⟨_,rfl,fun K hK=>?_⟩
            have e17 : a.tmps[17]? = some (.pointer (some ⟨g17,0,none⟩)):=by rw [ha];exact (putSel_off rfl).trans rfl
            have e131 : a.tmps[131]? = some (.agg #[.int .i64 (j : Int),.int .u16 v1,.int .i64 0,.int .i64 0]):=by rw [ha];exact putSel_on (e:=(0,131,.agg #[.int .i64 (j : Int),.int .u16 v1,.int .i64 0,.int .i64 0])) 0 rfl rfl (hon 0 (by kernel_rfl)) rfl
            replace ha:=Aside0.mk ha
            have Qb:=Aside0.mk Q_BK12
            have Qa:=Aside0.mk Q_BK17
            have Qc:=Aside0.mk (Q_BK18 (hoff 3 (by kernel_rfl)))
            have HO:=Aside0.mk Q_HO
            have HB:=Aside0.mk Q_HB
            have C24:=Aside0.mk (Q_C24 (hoff 3 (by kernel_rfl)))
            have C25:=Aside0.mk (Q_C25 (hoff 3 (by kernel_rfl)))
            have hf0_:=blk_frozen Qa.out 0
            have hf1_:=blk_frozen Qa.out 1
            have hf2_:=blk_frozen Qa.out 2
            have hf3_:=blk_frozen Qa.out 3
            have hc0_ : w'.cell? ⟨g17,0,none⟩ = some (.int .i64 (j : Int)):=(blk_cell Qa.out 0).trans rfl
            have hc1_ : w'.cell? ⟨g17,1,none⟩ = some (.int .u16 v1):=(blk_cell Qa.out 1).trans rfl
            have hc2_ : w'.cell? ⟨g17,2,none⟩ = some (.int .i64 0):=(blk_cell Qa.out 2).trans rfl
            have hc3_ : w'.cell? ⟨g17,3,none⟩ = some (.int .i64 0):=(blk_cell Qa.out 3).trans rfl
            refine skip_ (w1:=?_) (by rfl) rfl ?_ ?_
            rotate_left
            ·go_simp
             rfl
            refine hK.out _ _ ⟨(by rw [ha.out];exact putSel_none (v:=undef) rfl),bf4_ Qb.out NB17.out _ _ _ _,bq4_ Qa.out _ _ _ _,fun _=>bf4_ Qc.out NE.out _ _ _ _,fun h0_=>absurd ((hoff 3 (by kernel_rfl)).symm.trans h0_) (by decide),rf4_ HO.out Qa.out (by decide) _ _ _ _,below_set (below_set (below_set (below_set HB.out Qe.out) Qe.out) Qe.out) Qe.out,fun _=>bf4_ C24.out (Ne.symm N24.out.2.1) _ _ _ _,fun _=>bf4_ C25.out (Ne.symm N25.out.2.1) _ _ _ _⟩
           refine steps_cons ?_ ?_
           ·rintro b a w' ⟨ha,Q_BK12,Q_BK17,Q_BK18,Q_NW18,Q_HO,Q_HB,Q_C24,Q_C25⟩ hb_ hon hoff
            refine ⟨_,rfl,fun K hK=>?_⟩
            have e18 : a.tmps[18]? = some (.pointer (some ⟨g18,0,none⟩)):=by rw [ha];exact (putSel_off rfl).trans rfl
            have e132 : a.tmps[132]? = some (.agg #[.int .i64 ((T P j 1 k) + 1),.int .i64 ((k : Int) - T P j 1 k)]):=by rw [ha];exact putSel_on (e:=(1,132,.agg #[.int .i64 ((T P j 1 k) + 1),.int .i64 ((k : Int) - T P j 1 k)])) 1 rfl rfl (hon 1 (by kernel_rfl)) rfl
            replace ha:=Aside0.mk ha
            have Qb:=Aside0.mk Q_BK12
            have Qa:=Aside0.mk Q_BK17
            have Qc:=Aside0.mk (Q_BK18 hb_)
            have HO:=Aside0.mk Q_HO
            have HB:=Aside0.mk Q_HB
            have C24:=Aside0.mk (Q_C24 hb_)
            have C25:=Aside0.mk (Q_C25 hb_)
            have hf0_:=blk_frozen Qc.out 0
            have hf1_:=blk_frozen Qc.out 1
            have hc0_ : w'.cell? ⟨g18,0,none⟩ = some (.int .i64 (T P j 1 k)):=(blk_cell Qc.out 0).trans rfl
            have hc1_ : w'.cell? ⟨g18,1,none⟩ = some (.int .i64 ((k : Int) - T P j 1 k)):=(blk_cell Qc.out 1).trans rfl
            refine skip_ (w1:=?_) (by rfl) rfl ?_ ?_
            rotate_left
            ·go_simp
             rfl
            refine hK.out _ _ ⟨(by rw [ha.out];exact putSel_none (v:=undef) rfl),blk_far (blk_far Qb.out NB18.out _) NB18.out _,blk_far (blk_far Qa.out ND.out _) ND.out _,fun h0_=>absurd ((up_self b 3).symm.trans h0_) (by decide),fun _=>by refine blk_put (cs:=#[.int .i64 ((T P j 1 k) + 1),.int .i64 ((k : Int) - T P j 1 k)]) ?_ 1 _ rfl;refine blk_put (cs:=#[.int .i64 (T P j 1 k),.int .i64 ((k : Int) - T P j 1 k)]) ?_ 0 _ rfl;exact Qc.out,rst_ (rst_ HO.out Qc.out (by decide) 0 _) (blk_put (cs:=#[.int .i64 (T P j 1 k),.int .i64 ((k : Int) - T P j 1 k)]) Qc.out 0 _ rfl) (by decide) 1 _,below_set (below_set HB.out Qf.out) Qf.out,fun h0_=>absurd ((up_self b 3).symm.trans h0_) (by decide),fun h0_=>absurd ((up_self b 3).symm.trans h0_) (by decide)⟩
           exact steps_nil
          rintro b a w32 hall ⟨ha,Q_BK12,Q_BK17,Q_BK18,Q_NW18,Q_HO,Q_HB,Q_C24,Q_C25⟩
          clear Qb Qa Qc C24 C25 HB HO
          have hb0_:=hall 0 (by kernel_rfl)
          have hb1_:=hall 1 (by kernel_rfl)
          have hb2_:=hall 2 (by kernel_rfl)
          have hb3_:=hall 3 (by kernel_rfl)
          subst ha
          simp only [putSel,hb0_,hb1_,hb2_,hb3_,if_true,Act.put,List.setIfInBounds_toArray,List.set_cons_zero,List.set_cons_succ]
          have Qb:=Aside0.mk Q_BK12
          clear Q_BK12
          have Qa:=Aside0.mk Q_BK17
          clear Q_BK17
          clear Q_BK18
          have NW18:=Aside0.mk (Q_NW18 hb3_)
          clear Q_NW18
          have HO:=Aside0.mk Q_HO
          clear Q_HO
          have HB:=Aside0.mk Q_HB
          clear Q_HB
          clear Q_C24
          clear Q_C25
          clear hall hb0_ hb1_ hb2_ hb3_
          clear b
          go_wp2
          have hT2 : T P j 1 (k + 1) = T P j 1 k + 1:=by rw [T_succ,← HNODE.out,getD_rd hmn,hy,if_pos rfl]
          have hF2 : ((k + 1 : Nat) : Int) - T P j 1 (k + 1) = (k : Int) - T P j 1 k:=by rw [hT2];omega
          go_roundg k3
          case measure=>omega
          case rel=>exact ⟨k + 1,by first|rfl|(simp;done),⟨by have:=HK.out;omega⟩,HO,Qb,Qa,⟨by rw [hF2,hT2];exact NW18.out⟩,HB⟩
       ·as_aux_lemma =>
         have hk : k = P.length:=by have:=HK.out;omega
         subst hk
         clear c3
         have hP16 : P.length ≤ 16:=by omega
         have hl01 : l0 = 0∧l1 = 0:=by have:=HPI.out.n0;have:=HPI.out.n1;omega
         have hcx : cn P 1 = b:=by have:=HPI.out.c1;omega
         have n0_ : Aside0 (wr.heap[g18]? = some (.cells #[.int .i64 b,.int .i64 a] 23 (0,0))):=⟨by have h_:=Qc.out;rw [T_all P j 1 hjP,hcx,hi,show a + b - b = a by omega] at h_;exact h_⟩
         clear Qc
         have Qc:=n0_
         clear n0_
         have cb3 : decide ((P.length : Int) < a + b) = false:=decide_eq_false (by omega)
         obtain ⟨ad8,e8,hx8_0⟩:=Kd.at_int (Kd.R_reads' HO.out).2.2 (j : Int) (of_eq_true p85) (of_eq_true q85)
         cases e8
         rw [Int.toNat_natCast,hx] at hx8_0
         go_upto_region 34 with (fail)
         clear hx8_0
         have hw2 : wrap64 (2 * b) = 2 * b:=by unfold wrap64;omega
         have hsub : (a = wrap64 a) = True:=eq_true (by unfold wrap64;omega)
         by_cases c4 : a + b < 2 * b
         ·have cb4 : decide (2 * b > a + b) = true:=decide_eq_true (by omega)
          have cb5 : decide (wrap64 (2 * b) > a + b) = true:=by rw [hw2];exact cb4
          have HTEST : Aside0 (clique_Test.f b a = some 0):=⟨by rw [test_eq (by omega) (by omega)];rw [if_neg (by omega)]⟩
          go_upto_region 36 with (fail)
          have n0_:=Aside0.mk (blk_drew Qb.out);have n1_:=Aside0.mk (blk_drew Qa.out);have n2_:=Aside0.mk (blk_drew Qc.out);have n3_:=Aside0.mk (Kd.R_drew HO.out);have n4_:=Aside0.mk (below_drew1 HB.out);clear Qb Qa Qc HO HB;have Qb:=n0_;have Qa:=n1_;have Qc:=n2_;have HO:=n3_;have HB:=n4_;clear n0_ n1_ n2_ n3_ n4_
          obtain ⟨ad9,e9,hrow⟩:=Kd.at_int (Kd.R_reads' HO.out).2.2 (j : Int) (of_eq_true p85) (of_eq_true q85)
          cases e9
          rw [Int.toNat_natCast,hx] at hrow
          refine start_ (n:=24) (S:=fun w'=>w'.cell? ⟨g18,0,none⟩ = some (.int .i64 b)∧w'.cell? ⟨g18,1,none⟩ = some (.int .i64 a)∧w'.cell? ⟨g17,1,none⟩ = some (.int .u16 v1)∧w'.cell? (ad85.add j) = some (.int .i64 1)∧w'.cell? ⟨g12,1,none⟩ = some (.int .u16 v1)) (ds:=[]) #[false,false,false,false,false,false,false,false,false,false,false,false,false,false,false,false,false,false,false,false,false,false,false,false] (by kernel_rfl) rfl rfl ⟨(blk_cell Qc.out 0).trans rfl,(blk_cell Qc.out 1).trans rfl,(blk_cell Qa.out 1).trans rfl,hrow,(blk_cell Qb.out 1).trans rfl⟩ (fun hHeld=>?_)
          refine with_tabW cliqueParties.tab36 cliqueParties.bits36 (fun HT_ HW_=>?_)
          refine pure_ (i:=1) (N:=some 146) (v:=?_) (a':=?_) #[false,true,false,false,false,false,false,false,false,false,false,false,false,false,false,false,false,false,false,false,false,false,false,false] rfl rfl (any_of HT_.out (by kernel_rfl)) (fun _ _ _ h=>h) (Or.inl ⟨by rfl,?_⟩) ?_ ?_
          rotate_left
          ·intro w'
           go_simp
           with_reducible rfl
          rotate_left
          ·simp only [Act.put,List.setIfInBounds_toArray,List.set_cons_zero,List.set_cons_succ,i64_w,i32_w]
           rfl
          refine pure_ (i:=2) (N:=some 147) (v:=?_) (a':=?_) #[false,true,true,false,false,false,false,false,false,false,false,false,false,false,false,false,false,false,false,false,false,false,false,false] rfl rfl (any_of HT_.out (by kernel_rfl)) (fun _ _ _ h=>h) (Or.inl ⟨by rfl,?_⟩) ?_ ?_
          rotate_left
          ·intro w'
           go_simp
           with_reducible rfl
          rotate_left
          ·simp only [Act.put,List.setIfInBounds_toArray,List.set_cons_zero,List.set_cons_succ,i64_w,i32_w]
           rfl
          refine pure_ (i:=3) (N:=some 148) (v:=?_) (a':=?_) #[false,true,true,true,false,false,false,false,false,false,false,false,false,false,false,false,false,false,false,false,false,false,false,false] rfl rfl (any_of HT_.out (by kernel_rfl)) (fun _ _ _ h=>h) (Or.inl ⟨by rfl,?_⟩) ?_ ?_
          rotate_left
          ·intro w'
           go_simp
           with_reducible rfl
          rotate_left
          ·simp only [Act.put,List.setIfInBounds_toArray,List.set_cons_zero,List.set_cons_succ,i64_w,i32_w]
           rfl
          refine pure_ (i:=4) (N:=some 149) (v:=?_) (a':=?_) #[false,true,true,true,true,false,false,false,false,false,false,false,false,false,false,false,false,false,false,false,false,false,false,false] rfl rfl (any_of HT_.out (by kernel_rfl)) (fun _ _ _ h=>h) (Or.inl ⟨by rfl,?_⟩) ?_ ?_
          rotate_left
          ·intro w'
           go_simp
           with_reducible rfl
          rotate_left
          ·simp only [Act.put,List.setIfInBounds_toArray,List.set_cons_zero,List.set_cons_succ,i64_w,i32_w]
           rfl
          refine pure_ (i:=5) (N:=some 150) (v:=?_) (a':=?_) #[false,true,true,true,true,true,false,false,false,false,false,false,false,false,false,false,false,false,false,false,false,false,false,false] rfl rfl (any_of HT_.out (by kernel_rfl)) (fun _ _ _ h=>h) (Or.inl ⟨by rfl,?_⟩) ?_ ?_
          rotate_left
          ·intro w'
           go_simp
           with_reducible rfl
          rotate_left
          ·simp only [Act.put,List.setIfInBounds_toArray,List.set_cons_zero,List.set_cons_succ,i64_w,i32_w]
           rfl
          refine take_ (i:=0) (N:=some 145) (v:=?_) (a':=?_) #[true,true,true,true,true,true,false,false,false,false,false,false,false,false,false,false,false,false,false,false,false,false,false,false] rfl rfl (take_ofW HT_.out HW_.out (by kernel_rfl)) (fun _ _ _ h=>h) (Or.inl ⟨by rfl,?_⟩) hHeld ?_ ?_
          rotate_left
          ·rintro w' ⟨s0,s1,s2,s3,s4⟩
           go_simp
           with_reducible rfl
          rotate_left
          ·simp only [Act.put,List.setIfInBounds_toArray,List.set_cons_zero,List.set_cons_succ,i64_w,i32_w]
           rfl
          refine pure_ (i:=6) (N:=some 151) (v:=?_) (a':=?_) #[true,true,true,true,true,true,true,false,false,false,false,false,false,false,false,false,false,false,false,false,false,false,false,false] rfl rfl (any_of HT_.out (by kernel_rfl)) (fun _ _ _ h=>h) (Or.inl ⟨by rfl,?_⟩) ?_ ?_
          rotate_left
          ·intro w'
           go_simp
           with_reducible rfl
          rotate_left
          ·simp only [Act.put,List.setIfInBounds_toArray,List.set_cons_zero,List.set_cons_succ,i64_w,i32_w]
           rfl
          refine pure_ (i:=7) (N:=some 152) (v:=?_) (a':=?_) #[true,true,true,true,true,true,true,true,false,false,false,false,false,false,false,false,false,false,false,false,false,false,false,false] rfl rfl (any_of HT_.out (by kernel_rfl)) (fun _ _ _ h=>h) (Or.inl ⟨by rfl,?_⟩) ?_ ?_
          rotate_left
          ·intro w'
           go_simp
           with_reducible rfl
          rotate_left
          ·simp only [Act.put,List.setIfInBounds_toArray,List.set_cons_zero,List.set_cons_succ,i64_w,i32_w]
           rfl
          refine pure_ (i:=10) (N:=some 155) (v:=?_) (a':=?_) #[true,true,true,true,true,true,true,true,false,false,true,false,false,false,false,false,false,false,false,false,false,false,false,false] rfl rfl (any_of HT_.out (by kernel_rfl)) (fun _ _ _ h=>h) (Or.inl ⟨by rfl,?_⟩) ?_ ?_
          rotate_left
          ·intro w'
           go_simp
           with_reducible rfl
          rotate_left
          ·simp only [Act.put,List.setIfInBounds_toArray,List.set_cons_zero,List.set_cons_succ,i64_w,i32_w]
           rfl
          refine take_ (i:=8) (N:=some 153) (v:=?_) (a':=?_) #[true,true,true,true,true,true,true,true,true,false,true,false,false,false,false,false,false,false,false,false,false,false,false,false] rfl rfl (take_ofW HT_.out HW_.out (by kernel_rfl)) (fun _ _ _ h=>h) (Or.inl ⟨by rfl,?_⟩) hHeld ?_ ?_
          rotate_left
          ·rintro w' ⟨s0,s1,s2,s3,s4⟩
           go_simp
           with_reducible rfl
          rotate_left
          ·simp only [Act.put,List.setIfInBounds_toArray,List.set_cons_zero,List.set_cons_succ,i64_w,i32_w]
           rfl
          refine one_ (i:=9) (N:=some 154) #[true,true,true,true,true,true,true,true,true,true,true,false,false,false,false,false,false,false,false,false,false,false,false,false] rfl rfl (one_of HT_.out (by kernel_rfl)) (by decide) (fun K hK=>?_)
          refine goes_ Try.func10 (by kernel_rfl) rfl #[.agg #[.int .i64 b,.int .i64 a]] (by rfl) rfl rfl (by (try simp only [List.map_toArray,List.map_cons,List.map_nil]);first|done|rfl|(simp only [List.length_drop,List.length_take];rfl)) ?_
          with_reducible refine (clique_Test.calls _ _ _ _ HTEST.out).mono ?_
          rintro e w37 ⟨rfl,hb⟩
          refine ⟨_,rfl,?_⟩
          have n0_:=Aside0.mk (blk_below Qb.out hb);have n1_:=Aside0.mk (blk_below Qa.out hb);have n2_:=Aside0.mk (blk_below Qc.out hb);have n3_:=Aside0.mk (Kd.R_below HO.out hb);have n4_:=Aside0.mk (below_step HB.out hb);clear Qb Qa Qc HO HB;have Qb:=n0_;have Qa:=n1_;have Qc:=n2_;have HO:=n3_;have HB:=n4_;clear n0_ n1_ n2_ n3_ n4_ hb
          obtain ⟨ad7,e7,hr7⟩:=Kd.at_int (Kd.R_reads' HO.out).2.2 (j : Int) (of_eq_true p85) (of_eq_true q85)
          cases e7
          rw [Int.toNat_natCast,hx] at hr7
          refine hK.out _ _ ⟨(blk_cell Qc.out 0).trans rfl,(blk_cell Qc.out 1).trans rfl,(blk_cell Qa.out 1).trans rfl,hr7,(blk_cell Qb.out 1).trans rfl⟩ (fun hHeld=>?_)
          clear hK K
          refine norm_ (a':=?_) ?_ ?_
          rotate_left
          ·show Act.put _ (some 154) _ = _
           simp only [Act.put,List.setIfInBounds_toArray,List.set_cons_zero,List.set_cons_succ,i64_w,i32_w]
           rfl
          refine pure_ (i:=11) (N:=some 156) (v:=?_) (a':=?_) #[true,true,true,true,true,true,true,true,true,true,true,true,false,false,false,false,false,false,false,false,false,false,false,false] rfl rfl (any_of HT_.out (by kernel_rfl)) (fun _ _ _ h=>h) (Or.inl ⟨by rfl,?_⟩) ?_ ?_
          rotate_left
          ·intro w'
           go_simp
           with_reducible rfl
          rotate_left
          ·simp only [Act.put,List.setIfInBounds_toArray,List.set_cons_zero,List.set_cons_succ,i64_w,i32_w]
           rfl
          refine pure_ (i:=12) (N:=some 157) (v:=?_) (a':=?_) #[true,true,true,true,true,true,true,true,true,true,true,true,true,false,false,false,false,false,false,false,false,false,false,false] rfl rfl (any_of HT_.out (by kernel_rfl)) (fun _ _ _ h=>h) (Or.inl ⟨by rfl,?_⟩) ?_ ?_
          rotate_left
          ·intro w'
           go_simp
           with_reducible rfl
          rotate_left
          ·simp only [Act.put,List.setIfInBounds_toArray,List.set_cons_zero,List.set_cons_succ,i64_w,i32_w]
           rfl
          refine pure_ (i:=13) (N:=some 158) (v:=?_) (a':=?_) #[true,true,true,true,true,true,true,true,true,true,true,true,true,true,false,false,false,false,false,false,false,false,false,false] rfl rfl (any_of HT_.out (by kernel_rfl)) (fun _ _ _ h=>h) (Or.inl ⟨by rfl,?_⟩) ?_ ?_
          rotate_left
          ·intro w'
           go_simp
           with_reducible rfl
          rotate_left
          ·simp only [Act.put,List.setIfInBounds_toArray,List.set_cons_zero,List.set_cons_succ,i64_w,i32_w]
           rfl
          refine pure_ (i:=14) (N:=some 159) (v:=?_) (a':=?_) #[true,true,true,true,true,true,true,true,true,true,true,true,true,true,true,false,false,false,false,false,false,false,false,false] rfl rfl (any_of HT_.out (by kernel_rfl)) (fun _ _ _ h=>h) (Or.inl ⟨by rfl,?_⟩) ?_ ?_
          rotate_left
          ·intro w'
           go_simp
           with_reducible rfl
          rotate_left
          ·simp only [Act.put,List.setIfInBounds_toArray,List.set_cons_zero,List.set_cons_succ,i64_w,i32_w]
           rfl
          refine pure_ (i:=16) (N:=some 161) (v:=?_) (a':=?_) #[true,true,true,true,true,true,true,true,true,true,true,true,true,true,true,false,true,false,false,false,false,false,false,false] rfl rfl (any_of HT_.out (by kernel_rfl)) (fun _ _ _ h=>h) (Or.inl ⟨by rfl,?_⟩) ?_ ?_
          rotate_left
          ·intro w'
           go_simp
           with_reducible rfl
          rotate_left
          ·simp only [Act.put,List.setIfInBounds_toArray,List.set_cons_zero,List.set_cons_succ,i64_w,i32_w]
           rfl
          refine pure_ (i:=17) (N:=some 162) (v:=?_) (a':=?_) #[true,true,true,true,true,true,true,true,true,true,true,true,true,true,true,false,true,true,false,false,false,false,false,false] rfl rfl (any_of HT_.out (by kernel_rfl)) (fun _ _ _ h=>h) (Or.inl ⟨by rfl,?_⟩) ?_ ?_
          rotate_left
          ·intro w'
           go_simp
           with_reducible rfl
          rotate_left
          ·simp only [Act.put,List.setIfInBounds_toArray,List.set_cons_zero,List.set_cons_succ,i64_w,i32_w]
           rfl
          refine pure_ (i:=18) (N:=some 163) (v:=?_) (a':=?_) #[true,true,true,true,true,true,true,true,true,true,true,true,true,true,true,false,true,true,true,false,false,false,false,false] rfl rfl (any_of HT_.out (by kernel_rfl)) (fun _ _ _ h=>h) (Or.inl ⟨by rfl,?_⟩) ?_ ?_
          rotate_left
          ·intro w'
           go_simp
           with_reducible rfl
          rotate_left
          ·simp only [Act.put,List.setIfInBounds_toArray,List.set_cons_zero,List.set_cons_succ,i64_w,i32_w]
           rfl
          refine take_ (i:=15) (N:=some 160) (v:=?_) (a':=?_) #[true,true,true,true,true,true,true,true,true,true,true,true,true,true,true,true,true,true,true,false,false,false,false,false] rfl rfl (take_ofW HT_.out HW_.out (by kernel_rfl)) (fun _ _ _ h=>h) (Or.inl ⟨by rfl,?_⟩) hHeld ?_ ?_
          rotate_left
          ·rintro w' ⟨s0,s1,s2,s3,s4⟩
           go_simp
           with_reducible rfl
          rotate_left
          ·simp only [Act.put,List.setIfInBounds_toArray,List.set_cons_zero,List.set_cons_succ,i64_w,i32_w]
           rfl
          refine take_ (i:=19) (N:=some 164) (v:=?_) (a':=?_) #[true,true,true,true,true,true,true,true,true,true,true,true,true,true,true,true,true,true,true,true,false,false,false,false] rfl rfl (take_ofW HT_.out HW_.out (by kernel_rfl)) (fun _ _ _ h=>h) (Or.inl ⟨by rfl,?_⟩) hHeld ?_ ?_
          rotate_left
          ·rintro w' ⟨s0,s1,s2,s3,s4⟩
           go_simp
           with_reducible rfl
          rotate_left
          ·simp only [Act.put,List.setIfInBounds_toArray,List.set_cons_zero,List.set_cons_succ,i64_w,i32_w]
           rfl
          refine pure_ (i:=20) (N:=some 165) (v:=?_) (a':=?_) #[true,true,true,true,true,true,true,true,true,true,true,true,true,true,true,true,true,true,true,true,true,false,false,false] rfl rfl (any_of HT_.out (by kernel_rfl)) (fun _ _ _ h=>h) (Or.inl ⟨by rfl,?_⟩) ?_ ?_
          rotate_left
          ·intro w'
           go_simp
           with_reducible rfl
          rotate_left
          ·simp only [Act.put,List.setIfInBounds_toArray,List.set_cons_zero,List.set_cons_succ,i64_w,i32_w]
           rfl
          refine take_ (i:=21) (N:=some 166) (v:=?_) (a':=?_) #[true,true,true,true,true,true,true,true,true,true,true,true,true,true,true,true,true,true,true,true,true,true,false,false] rfl rfl (take_ofW HT_.out HW_.out (by kernel_rfl)) (fun _ _ _ h=>h) (Or.inl ⟨by rfl,?_⟩) hHeld ?_ ?_
          rotate_left
          ·rintro w' ⟨s0,s1,s2,s3,s4⟩
           go_simp
           with_reducible rfl
          rotate_left
          ·simp only [Act.put,List.setIfInBounds_toArray,List.set_cons_zero,List.set_cons_succ,i64_w,i32_w]
           rfl
          refine pure_ (i:=22) (N:=some 167) (v:=?_) (a':=?_) #[true,true,true,true,true,true,true,true,true,true,true,true,true,true,true,true,true,true,true,true,true,true,true,false] rfl rfl (any_of HT_.out (by kernel_rfl)) (fun _ _ _ h=>h) (Or.inl ⟨by rfl,?_⟩) ?_ ?_
          rotate_left
          ·intro w'
           go_simp
           with_reducible rfl
          rotate_left
          ·simp only [Act.put,List.setIfInBounds_toArray,List.set_cons_zero,List.set_cons_succ,i64_w,i32_w]
           rfl
          refine pure_ (i:=23) (N:=some 168) (v:=?_) (a':=?_) #[true,true,true,true,true,true,true,true,true,true,true,true,true,true,true,true,true,true,true,true,true,true,true,true] rfl rfl (any_of HT_.out (by kernel_rfl)) (fun _ _ _ h=>h) (Or.inl ⟨by rfl,?_⟩) ?_ ?_
          rotate_left
          ·intro w'
           go_simp
           with_reducible rfl
          rotate_left
          ·simp only [Act.put,List.setIfInBounds_toArray,List.set_cons_zero,List.set_cons_succ,i64_w,i32_w]
           rfl
          refine done_ (done_of HT_.out (by kernel_rfl)) ?_
          
          go_wp2
          go_roundg k2
          case measure=>omega
          case rel=>exact ⟨j + 1,by first|rfl|(simp;done),⟨by have:=HJ.out;omega⟩,HO,Qb,HB⟩
         ·have cb4 : decide (2 * b > a + b) = false:=decide_eq_false (by omega)
          have cb5 : decide (wrap64 (2 * b) > a + b) = false:=by rw [hw2];exact cb4
          have HTEST : Aside0 (clique_Test.f b a = some 191):=⟨by rw [test_eq (by omega) (by omega)];rw [if_pos (by omega)]⟩
          go_upto_region 36 with (fail)
          have n0_:=Aside0.mk (blk_drew Qb.out);have n1_:=Aside0.mk (blk_drew Qa.out);have n2_:=Aside0.mk (blk_drew Qc.out);have n3_:=Aside0.mk (Kd.R_drew HO.out);have n4_:=Aside0.mk (below_drew1 HB.out);clear Qb Qa Qc HO HB;have Qb:=n0_;have Qa:=n1_;have Qc:=n2_;have HO:=n3_;have HB:=n4_;clear n0_ n1_ n2_ n3_ n4_
          obtain ⟨ad9,e9,hrow⟩:=Kd.at_int (Kd.R_reads' HO.out).2.2 (j : Int) (of_eq_true p85) (of_eq_true q85)
          cases e9
          rw [Int.toNat_natCast,hx] at hrow
          refine start_ (n:=24) (S:=fun w'=>w'.cell? ⟨g18,0,none⟩ = some (.int .i64 b)∧w'.cell? ⟨g18,1,none⟩ = some (.int .i64 a)∧w'.cell? ⟨g17,1,none⟩ = some (.int .u16 v1)∧w'.cell? (ad85.add j) = some (.int .i64 1)∧w'.cell? ⟨g12,1,none⟩ = some (.int .u16 v1)) (ds:=[]) #[false,false,false,false,false,false,false,false,false,false,false,false,false,false,false,false,false,false,false,false,false,false,false,false] (by kernel_rfl) rfl rfl ⟨(blk_cell Qc.out 0).trans rfl,(blk_cell Qc.out 1).trans rfl,(blk_cell Qa.out 1).trans rfl,hrow,(blk_cell Qb.out 1).trans rfl⟩ (fun hHeld=>?_)
          refine with_tabW cliqueParties.tab36 cliqueParties.bits36 (fun HT_ HW_=>?_)
          refine pure_ (i:=1) (N:=some 146) (v:=?_) (a':=?_) #[false,true,false,false,false,false,false,false,false,false,false,false,false,false,false,false,false,false,false,false,false,false,false,false] rfl rfl (any_of HT_.out (by kernel_rfl)) (fun _ _ _ h=>h) (Or.inl ⟨by rfl,?_⟩) ?_ ?_
          rotate_left
          ·intro w'
           go_simp
           with_reducible rfl
          rotate_left
          ·simp only [Act.put,List.setIfInBounds_toArray,List.set_cons_zero,List.set_cons_succ,i64_w,i32_w]
           rfl
          refine pure_ (i:=2) (N:=some 147) (v:=?_) (a':=?_) #[false,true,true,false,false,false,false,false,false,false,false,false,false,false,false,false,false,false,false,false,false,false,false,false] rfl rfl (any_of HT_.out (by kernel_rfl)) (fun _ _ _ h=>h) (Or.inl ⟨by rfl,?_⟩) ?_ ?_
          rotate_left
          ·intro w'
           go_simp
           with_reducible rfl
          rotate_left
          ·simp only [Act.put,List.setIfInBounds_toArray,List.set_cons_zero,List.set_cons_succ,i64_w,i32_w]
           rfl
          refine pure_ (i:=3) (N:=some 148) (v:=?_) (a':=?_) #[false,true,true,true,false,false,false,false,false,false,false,false,false,false,false,false,false,false,false,false,false,false,false,false] rfl rfl (any_of HT_.out (by kernel_rfl)) (fun _ _ _ h=>h) (Or.inl ⟨by rfl,?_⟩) ?_ ?_
          rotate_left
          ·intro w'
           go_simp
           with_reducible rfl
          rotate_left
          ·simp only [Act.put,List.setIfInBounds_toArray,List.set_cons_zero,List.set_cons_succ,i64_w,i32_w]
           rfl
          refine pure_ (i:=4) (N:=some 149) (v:=?_) (a':=?_) #[false,true,true,true,true,false,false,false,false,false,false,false,false,false,false,false,false,false,false,false,false,false,false,false] rfl rfl (any_of HT_.out (by kernel_rfl)) (fun _ _ _ h=>h) (Or.inl ⟨by rfl,?_⟩) ?_ ?_
          rotate_left
          ·intro w'
           go_simp
           with_reducible rfl
          rotate_left
          ·simp only [Act.put,List.setIfInBounds_toArray,List.set_cons_zero,List.set_cons_succ,i64_w,i32_w]
           rfl
          refine pure_ (i:=5) (N:=some 150) (v:=?_) (a':=?_) #[false,true,true,true,true,true,false,false,false,false,false,false,false,false,false,false,false,false,false,false,false,false,false,false] rfl rfl (any_of HT_.out (by kernel_rfl)) (fun _ _ _ h=>h) (Or.inl ⟨by rfl,?_⟩) ?_ ?_
          rotate_left
          ·intro w'
           go_simp
           with_reducible rfl
          rotate_left
          ·simp only [Act.put,List.setIfInBounds_toArray,List.set_cons_zero,List.set_cons_succ,i64_w,i32_w]
           rfl
          refine take_ (i:=0) (N:=some 145) (v:=?_) (a':=?_) #[true,true,true,true,true,true,false,false,false,false,false,false,false,false,false,false,false,false,false,false,false,false,false,false] rfl rfl (take_ofW HT_.out HW_.out (by kernel_rfl)) (fun _ _ _ h=>h) (Or.inl ⟨by rfl,?_⟩) hHeld ?_ ?_
          rotate_left
          ·rintro w' ⟨s0,s1,s2,s3,s4⟩
           go_simp
           with_reducible rfl
          rotate_left
          ·simp only [Act.put,List.setIfInBounds_toArray,List.set_cons_zero,List.set_cons_succ,i64_w,i32_w]
           rfl
          refine pure_ (i:=6) (N:=some 151) (v:=?_) (a':=?_) #[true,true,true,true,true,true,true,false,false,false,false,false,false,false,false,false,false,false,false,false,false,false,false,false] rfl rfl (any_of HT_.out (by kernel_rfl)) (fun _ _ _ h=>h) (Or.inl ⟨by rfl,?_⟩) ?_ ?_
          rotate_left
          ·intro w'
           go_simp
           with_reducible rfl
          rotate_left
          ·simp only [Act.put,List.setIfInBounds_toArray,List.set_cons_zero,List.set_cons_succ,i64_w,i32_w]
           rfl
          refine pure_ (i:=7) (N:=some 152) (v:=?_) (a':=?_) #[true,true,true,true,true,true,true,true,false,false,false,false,false,false,false,false,false,false,false,false,false,false,false,false] rfl rfl (any_of HT_.out (by kernel_rfl)) (fun _ _ _ h=>h) (Or.inl ⟨by rfl,?_⟩) ?_ ?_
          rotate_left
          ·intro w'
           go_simp
           with_reducible rfl
          rotate_left
          ·simp only [Act.put,List.setIfInBounds_toArray,List.set_cons_zero,List.set_cons_succ,i64_w,i32_w]
           rfl
          refine pure_ (i:=10) (N:=some 155) (v:=?_) (a':=?_) #[true,true,true,true,true,true,true,true,false,false,true,false,false,false,false,false,false,false,false,false,false,false,false,false] rfl rfl (any_of HT_.out (by kernel_rfl)) (fun _ _ _ h=>h) (Or.inl ⟨by rfl,?_⟩) ?_ ?_
          rotate_left
          ·intro w'
           go_simp
           with_reducible rfl
          rotate_left
          ·simp only [Act.put,List.setIfInBounds_toArray,List.set_cons_zero,List.set_cons_succ,i64_w,i32_w]
           rfl
          refine take_ (i:=8) (N:=some 153) (v:=?_) (a':=?_) #[true,true,true,true,true,true,true,true,true,false,true,false,false,false,false,false,false,false,false,false,false,false,false,false] rfl rfl (take_ofW HT_.out HW_.out (by kernel_rfl)) (fun _ _ _ h=>h) (Or.inl ⟨by rfl,?_⟩) hHeld ?_ ?_
          rotate_left
          ·rintro w' ⟨s0,s1,s2,s3,s4⟩
           go_simp
           with_reducible rfl
          rotate_left
          ·simp only [Act.put,List.setIfInBounds_toArray,List.set_cons_zero,List.set_cons_succ,i64_w,i32_w]
           rfl
          refine one_ (i:=9) (N:=some 154) #[true,true,true,true,true,true,true,true,true,true,true,false,false,false,false,false,false,false,false,false,false,false,false,false] rfl rfl (one_of HT_.out (by kernel_rfl)) (by decide) (fun K hK=>?_)
          refine goes_ Try.func10 (by kernel_rfl) rfl #[.agg #[.int .i64 b,.int .i64 a]] (by rfl) rfl rfl (by (try simp only [List.map_toArray,List.map_cons,List.map_nil]);first|done|rfl|(simp only [List.length_drop,List.length_take];rfl)) ?_
          with_reducible refine (clique_Test.calls _ _ _ _ HTEST.out).mono ?_
          rintro e w37 ⟨rfl,hb⟩
          refine ⟨_,rfl,?_⟩
          have n0_:=Aside0.mk (blk_below Qb.out hb);have n1_:=Aside0.mk (blk_below Qa.out hb);have n2_:=Aside0.mk (blk_below Qc.out hb);have n3_:=Aside0.mk (Kd.R_below HO.out hb);have n4_:=Aside0.mk (below_step HB.out hb);clear Qb Qa Qc HO HB;have Qb:=n0_;have Qa:=n1_;have Qc:=n2_;have HO:=n3_;have HB:=n4_;clear n0_ n1_ n2_ n3_ n4_ hb
          obtain ⟨ad7,e7,hr7⟩:=Kd.at_int (Kd.R_reads' HO.out).2.2 (j : Int) (of_eq_true p85) (of_eq_true q85)
          cases e7
          rw [Int.toNat_natCast,hx] at hr7
          refine hK.out _ _ ⟨(blk_cell Qc.out 0).trans rfl,(blk_cell Qc.out 1).trans rfl,(blk_cell Qa.out 1).trans rfl,hr7,(blk_cell Qb.out 1).trans rfl⟩ (fun hHeld=>?_)
          clear hK K
          refine norm_ (a':=?_) ?_ ?_
          rotate_left
          ·show Act.put _ (some 154) _ = _
           simp only [Act.put,List.setIfInBounds_toArray,List.set_cons_zero,List.set_cons_succ,i64_w,i32_w]
           rfl
          refine pure_ (i:=11) (N:=some 156) (v:=?_) (a':=?_) #[true,true,true,true,true,true,true,true,true,true,true,true,false,false,false,false,false,false,false,false,false,false,false,false] rfl rfl (any_of HT_.out (by kernel_rfl)) (fun _ _ _ h=>h) (Or.inl ⟨by rfl,?_⟩) ?_ ?_
          rotate_left
          ·intro w'
           go_simp
           with_reducible rfl
          rotate_left
          ·simp only [Act.put,List.setIfInBounds_toArray,List.set_cons_zero,List.set_cons_succ,i64_w,i32_w]
           rfl
          refine pure_ (i:=12) (N:=some 157) (v:=?_) (a':=?_) #[true,true,true,true,true,true,true,true,true,true,true,true,true,false,false,false,false,false,false,false,false,false,false,false] rfl rfl (any_of HT_.out (by kernel_rfl)) (fun _ _ _ h=>h) (Or.inl ⟨by rfl,?_⟩) ?_ ?_
          rotate_left
          ·intro w'
           go_simp
           with_reducible rfl
          rotate_left
          ·simp only [Act.put,List.setIfInBounds_toArray,List.set_cons_zero,List.set_cons_succ,i64_w,i32_w]
           rfl
          refine pure_ (i:=13) (N:=some 158) (v:=?_) (a':=?_) #[true,true,true,true,true,true,true,true,true,true,true,true,true,true,false,false,false,false,false,false,false,false,false,false] rfl rfl (any_of HT_.out (by kernel_rfl)) (fun _ _ _ h=>h) (Or.inl ⟨by rfl,?_⟩) ?_ ?_
          rotate_left
          ·intro w'
           go_simp
           with_reducible rfl
          rotate_left
          ·simp only [Act.put,List.setIfInBounds_toArray,List.set_cons_zero,List.set_cons_succ,i64_w,i32_w]
           rfl
          refine pure_ (i:=14) (N:=some 159) (v:=?_) (a':=?_) #[true,true,true,true,true,true,true,true,true,true,true,true,true,true,true,false,false,false,false,false,false,false,false,false] rfl rfl (any_of HT_.out (by kernel_rfl)) (fun _ _ _ h=>h) (Or.inl ⟨by rfl,?_⟩) ?_ ?_
          rotate_left
          ·intro w'
           go_simp
           with_reducible rfl
          rotate_left
          ·simp only [Act.put,List.setIfInBounds_toArray,List.set_cons_zero,List.set_cons_succ,i64_w,i32_w]
           rfl
          refine pure_ (i:=16) (N:=some 161) (v:=?_) (a':=?_) #[true,true,true,true,true,true,true,true,true,true,true,true,true,true,true,false,true,false,false,false,false,false,false,false] rfl rfl (any_of HT_.out (by kernel_rfl)) (fun _ _ _ h=>h) (Or.inl ⟨by rfl,?_⟩) ?_ ?_
          rotate_left
          ·intro w'
           go_simp
           with_reducible rfl
          rotate_left
          ·simp only [Act.put,List.setIfInBounds_toArray,List.set_cons_zero,List.set_cons_succ,i64_w,i32_w]
           rfl
          refine pure_ (i:=17) (N:=some 162) (v:=?_) (a':=?_) #[true,true,true,true,true,true,true,true,true,true,true,true,true,true,true,false,true,true,false,false,false,false,false,false] rfl rfl (any_of HT_.out (by kernel_rfl)) (fun _ _ _ h=>h) (Or.inl ⟨by rfl,?_⟩) ?_ ?_
          rotate_left
          ·intro w'
           go_simp
           with_reducible rfl
          rotate_left
          ·simp only [Act.put,List.setIfInBounds_toArray,List.set_cons_zero,List.set_cons_succ,i64_w,i32_w]
           rfl
          refine pure_ (i:=18) (N:=some 163) (v:=?_) (a':=?_) #[true,true,true,true,true,true,true,true,true,true,true,true,true,true,true,false,true,true,true,false,false,false,false,false] rfl rfl (any_of HT_.out (by kernel_rfl)) (fun _ _ _ h=>h) (Or.inl ⟨by rfl,?_⟩) ?_ ?_
          rotate_left
          ·intro w'
           go_simp
           with_reducible rfl
          rotate_left
          ·simp only [Act.put,List.setIfInBounds_toArray,List.set_cons_zero,List.set_cons_succ,i64_w,i32_w]
           rfl
          refine take_ (i:=15) (N:=some 160) (v:=?_) (a':=?_) #[true,true,true,true,true,true,true,true,true,true,true,true,true,true,true,true,true,true,true,false,false,false,false,false] rfl rfl (take_ofW HT_.out HW_.out (by kernel_rfl)) (fun _ _ _ h=>h) (Or.inl ⟨by rfl,?_⟩) hHeld ?_ ?_
          rotate_left
          ·rintro w' ⟨s0,s1,s2,s3,s4⟩
           go_simp
           with_reducible rfl
          rotate_left
          ·simp only [Act.put,List.setIfInBounds_toArray,List.set_cons_zero,List.set_cons_succ,i64_w,i32_w]
           rfl
          refine take_ (i:=19) (N:=some 164) (v:=?_) (a':=?_) #[true,true,true,true,true,true,true,true,true,true,true,true,true,true,true,true,true,true,true,true,false,false,false,false] rfl rfl (take_ofW HT_.out HW_.out (by kernel_rfl)) (fun _ _ _ h=>h) (Or.inl ⟨by rfl,?_⟩) hHeld ?_ ?_
          rotate_left
          ·rintro w' ⟨s0,s1,s2,s3,s4⟩
           go_simp
           with_reducible rfl
          rotate_left
          ·simp only [Act.put,List.setIfInBounds_toArray,List.set_cons_zero,List.set_cons_succ,i64_w,i32_w]
           rfl
          refine pure_ (i:=20) (N:=some 165) (v:=?_) (a':=?_) #[true,true,true,true,true,true,true,true,true,true,true,true,true,true,true,true,true,true,true,true,true,false,false,false] rfl rfl (any_of HT_.out (by kernel_rfl)) (fun _ _ _ h=>h) (Or.inl ⟨by rfl,?_⟩) ?_ ?_
          rotate_left
          ·intro w'
           go_simp
           with_reducible rfl
          rotate_left
          ·simp only [Act.put,List.setIfInBounds_toArray,List.set_cons_zero,List.set_cons_succ,i64_w,i32_w]
           rfl
          refine take_ (i:=21) (N:=some 166) (v:=?_) (a':=?_) #[true,true,true,true,true,true,true,true,true,true,true,true,true,true,true,true,true,true,true,true,true,true,false,false] rfl rfl (take_ofW HT_.out HW_.out (by kernel_rfl)) (fun _ _ _ h=>h) (Or.inl ⟨by rfl,?_⟩) hHeld ?_ ?_
          rotate_left
          ·rintro w' ⟨s0,s1,s2,s3,s4⟩
           go_simp
           with_reducible rfl
          rotate_left
          ·simp only [Act.put,List.setIfInBounds_toArray,List.set_cons_zero,List.set_cons_succ,i64_w,i32_w]
           rfl
          refine pure_ (i:=22) (N:=some 167) (v:=?_) (a':=?_) #[true,true,true,true,true,true,true,true,true,true,true,true,true,true,true,true,true,true,true,true,true,true,true,false] rfl rfl (any_of HT_.out (by kernel_rfl)) (fun _ _ _ h=>h) (Or.inl ⟨by rfl,?_⟩) ?_ ?_
          rotate_left
          ·intro w'
           go_simp
           with_reducible rfl
          rotate_left
          ·simp only [Act.put,List.setIfInBounds_toArray,List.set_cons_zero,List.set_cons_succ,i64_w,i32_w]
           rfl
          refine pure_ (i:=23) (N:=some 168) (v:=?_) (a':=?_) #[true,true,true,true,true,true,true,true,true,true,true,true,true,true,true,true,true,true,true,true,true,true,true,true] rfl rfl (any_of HT_.out (by kernel_rfl)) (fun _ _ _ h=>h) (Or.inl ⟨by rfl,?_⟩) ?_ ?_
          rotate_left
          ·intro w'
           go_simp
           with_reducible rfl
          rotate_left
          ·simp only [Act.put,List.setIfInBounds_toArray,List.set_cons_zero,List.set_cons_succ,i64_w,i32_w]
           rfl
          refine done_ (done_of HT_.out (by kernel_rfl)) ?_
          
          go_wp2
          go_roundg k2
          case measure=>omega
          case rel=>exact ⟨j + 1,by first|rfl|(simp;done),⟨by have:=HJ.out;omega⟩,HO,Qb,HB⟩
    ·have cb2 : decide ((j : Int) < a + b) = false:=decide_eq_false c2
     go_wp2
     go_ret
     exact ⟨by first|rfl|(simp;done),HB.out⟩
theorem wf8_ {v : Int} (hv : (Lit.int .u8 v).wf = true) : 0 ≤ v∧v ≤ 255:=by
 rw [show (Lit.int .u8 v).wf = (decide (IntKind.u8.min ≤ v) && decide (v ≤ IntKind.u8.max)) from rfl,show IntKind.u8.min = 0 by decide,show IntKind.u8.max = 255 by decide] at hv
 simpa using hv
theorem wf16_ {v : Int} (hv : (Lit.int .u16 v).wf = true) : 0 ≤ v∧v ≤ 65535:=by
 rw [show (Lit.int .u16 v).wf = (decide (IntKind.u16.min ≤ v) && decide (v ≤ IntKind.u16.max)) from rfl,show IntKind.u16.min = 0 by decide,show IntKind.u16.max = 65535 by decide] at hv
 simpa using hv
end Go.Proofs.Ytjdojhioifelnaa.Hand
