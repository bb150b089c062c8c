/- What resync.Fold computes, by hand: a range over the rounds, each told behind what was done so far. First: the words, and the iterator. -/
import Derived.Test.YtnmephdamgofnaaHandOrdA
import Derived.Test.YtnmephdamgofnaaHandPlan0
import Derived.Test.YtnmephdamgofnaaPBx0
import Derived.Test.YtnmephdamgofnaaPBx3
set_option linter.unusedVariables false
set_option linter.unusedSimpArgs false
namespace Go.Proofs.Ytnmephdamgofnaa.Hand
open Go.RowKit Go.Shelf Go.Proofs.Ytnmephdamgofnaa.PA Go.Proofs.Ytnmephdamgofnaa.PB Go.Proofs.YtnmephdamgofnaaW.PrintWords Go.Proofs.YtnmephdamgofnaaW.PrintMore
attribute [local go_sem] Oper.semAt_some

theorem under_planF : Try.prog.underlying 23 = some (match Try.prog.underlying 23 with | some d => d | none => .string) := by kernel_rfl
theorem row_planF : (match Try.prog.underlying 23 with | some d => d | none => .string).isRow = true := by kernel_rfl
theorem size_planF : (Try.prog.info? 23).map (·.size) = some 16 := by kernel_rfl
abbrev TS := Int × Int × Int × Bool
abbrev RF := Int × Int × Int × Bool × Int × Int
def stC (s : TS) : Array Value := #[.int .i64 s.1, .int .i64 s.2.1, .int .i64 s.2.2.1, .bool s.2.2.2]
def encT (x : TS × Int) : Array Value := #[.agg (stC x.1), .int .i64 x.2]
def lastT (pre : List (TS × Int)) : TS := match pre.getLast? with | some x => x.1 | none => (0, 0, 0, false)
theorem lastT_append (pre : List (TS × Int)) (x : TS × Int) : lastT (pre ++ [x]) = x.1 := by simp [lastT]
def foldG (T : TS → List Int → Option RF) : List (List Int) → TS → Option (TS × Int)
  | [], s => some (s, 0)
  | l :: ls, s => (T s l).bind fun r => if r.2.2.2.2.2 = 0 then foldG T ls (r.1, r.2.1, r.2.2.1, r.2.2.2.1) else some ((r.1, r.2.1, r.2.2.1, r.2.2.2.1), r.2.2.2.2.2)
def turnP (k : Nat) (p : Pl) (s : TS) (l : List Int) : Option RF := resync_Turn.f k p.a0 p.a1 p.a2 p.a3 p.a4 p.a5 p.a6 p.a7 p.a8 p.a9 p.a10 p.a11 p.a12 p.a13 p.a14 p.a15 s.1 s.2.1 s.2.2.1 s.2.2.2 l
theorem foldG_step {T : TS → List Int → Option RF} {ls : List (List Int)} {n : Nat} {s : TS} {res : TS × Int} (h : foldG T (ls.drop n) s = some res) (hn : n < ls.length) :
    ∃ (s' : TS) (y e : Int), T s (PB.rd_L2 ls (n : Int)) = some (s'.1, s'.2.1, s'.2.2.1, s'.2.2.2, y, e) ∧ (if e = 0 then foldG T (ls.drop (n + 1)) s' = some res else res = (s', e)) := by
  rw [List.drop_eq_getElem_cons hn] at h
  have hr : PB.rd_L2 ls (n : Int) = ls[n] := by unfold PB.rd_L2; rw [Int.toNat_natCast, List.getD_eq_getElem?_getD, List.getElem?_eq_getElem hn]; rfl
  simp only [foldG] at h
  rw [hr]
  cases hT : T s ls[n] with
  | none => rw [hT] at h; cases h
  | some r =>
    rw [hT, Option.bind_some] at h
    refine ⟨(r.1, r.2.1, r.2.2.1, r.2.2.2.1), r.2.2.2.2.1, r.2.2.2.2.2, rfl, ?_⟩
    by_cases h0 : r.2.2.2.2.2 = 0
    · rw [if_pos h0] at h ⊢; exact h
    · rw [if_neg h0] at h ⊢; exact (Option.some.inj h).symm
/-- All cells but those of two blocks stay, and all that lay below. -/
def KF (b c n0 : Nat) (A B : World) : Prop := (∀ k o, A.heap[k]? = some o → o.isCells = true → k ≠ b → k ≠ c → B.heap[k]? = some o) ∧ Below n0 A B
theorem kf_t {b c n0 : Nat} {A B C : World} (h : KF b c n0 A B) (k : KF b c n0 B C) : KF b c n0 A C := ⟨fun i o q d n m => k.1 i o (h.1 i o q d n m) d n m, h.2.trans k.2⟩
theorem kf_b {b c n0 n : Nat} (hn : n0 ≤ n) (W : World) (l : Nat) (o o' : Obj) (hl : n ≤ l) (h : W.heap[l]? = some o) (ho : o.isCells = false) (_ : o.isWalk = false) : KF b c n0 W (W.putObj l o') :=
  ⟨fun i q hq hc _ _ => (World.putObj_heap_other (fun e => by subst e; rw [h] at hq; cases hq; rw [ho] at hc; cases hc)).trans hq,
    (Below.refl _ W).grown (grownBy_putObj' W l o') (by have := (Array.getElem?_eq_some_iff.1 h).1; omega) (fun k e => by cases e; omega)⟩
theorem kb_below0 {w w1 : World} (h : Below w.heap.size w w1) : w.grownBy w1 none := ⟨h.os, h.tape, h.output, h.size, fun k hk _ => h.block k hk⟩
theorem meas_lt (a b : Nat) (h : a < b) : b + 1 - ((a : Int) + 1).toNat < b + 1 - ((a : Nat) : Int).toNat := by omega
def nextT (T : TS → List Int → Option RF) (ls : List (List Int)) (pre : List (TS × Int)) (x : TS × Int) : Prop := pre.length < ls.length ∧ ∃ y, T (lastT pre) (PB.rd_L2 ls (pre.length : Int)) = some (x.1.1, x.1.2.1, x.1.2.2.1, x.1.2.2.2, y, x.2)
def goodT (T : TS → List Int → Option RF) (ls : List (List Int)) (res : TS × Int) (pre : List (TS × Int)) : Prop := foldG T (ls.drop pre.length) (lastT pre) = some res
set_option maxRecDepth 100000 in
set_option maxHeartbeats 8000000 in
theorem turns1_in (m b c Br Bp k : Nat) (p : Pl) (A : Option Addr) (cp : Nat) (ls : List (List Int)) (res : TS × Int) (wi w : World) (hwi : Below wi.heap.size wi w) (hM : Kd.C (Kd.slice 2 (Kd.int .i64)) wi A ls.length ls) (hcp : ls.length ≤ cp) (hbig : ls.length ≤ 1000000)
    (hBr : w.heap[Br]? = some (.cells #[.slice A ls.length cp] 27 (0, 0))) (hBp : w.heap[Bp]? = some (.cells (planC p) 23 (0, 0))) (hb : b < w.heap.size) (hc : c < w.heap.size) (hbr : Br ≠ b ∧ Br ≠ c ∧ Bp ≠ b ∧ Bp ≠ c) :
    SeqOrdA Fence.wide m Try.prog 32 #[.pointer (some ⟨Br, 0, none⟩), .pointer (some ⟨Bp, 0, none⟩)] encT (KF b c wi.heap.size) (goodT (turnP k p) ls res) (fun xs => xs.length = ls.length) (fun _ => True) (nextT (turnP k p) ls) w := by
  intro l J Jx W hW hJ hJx hG h0 hY
  have hR0 := (hW.block Br (blk_lt hBr)).trans hBr
  have hP0 := (hW.block Bp (blk_lt hBp)).trans hBp
  have h16 := take16 p
  have hp16 := planC_size p
  have hbW : b < W.heap.size := Nat.lt_of_lt_of_le hb hW.size
  have hcW : c < W.heap.size := Nat.lt_of_lt_of_le hc hW.size
  have hBrW := blk_lt hR0
  have hBpW := blk_lt hP0
  have hwiW : Below wi.heap.size wi W := hwi.trans (hW.mono hwi.size)
  show CallsIn Fence.wide m Try.prog 32 #[.func (.yield l) #[] #[], .pointer (some ⟨Br, 0, none⟩), .pointer (some ⟨Bp, 0, none⟩)] W _
  refine callsIn_of_wp Try.func32 rfl trivial ?_ rfl
  simp only [Try.ntmps32, List.size_toArray, List.length_cons, List.length_nil, Nat.reduceAdd, Nat.reduceSub, Array.replicate_succ, Array.replicate_zero, List.push_toArray, List.append_toArray, List.nil_append, List.cons_append]
  have hcr := blk_cell hR0 0
  gi_wp2
  gi_loopw [12] (fun i wr => ∃ pre : List (TS × Int), pre.length ≤ ls.length ∧ i = .int .i64 ((pre.length : Nat) : Int) ∧ J pre wr ∧ wr.heap[W.heap.size]? = some (.cells (stC (lastT pre)) 25 (0, 0)) ∧ wr.heap[Br]? = some (.cells #[.slice A ls.length cp] 27 (0, 0)) ∧ wr.heap[Bp]? = some (.cells (planC p) 23 (0, 0)) ∧ Below wi.heap.size wi wr) (fun i _ => ls.length + 1 - (intOf i).toNat)
  case atStart => exact ⟨[], Nat.zero_le _, rfl, hJ _ _ _ none h0 ⟨rfl, rfl, rfl, by simp, fun i hi _ => Below.heap_alloc W _ i hi⟩ (fun _ e => nomatch e), blk_new _ _, blk_alloc hR0 _, blk_alloc hP0 _, hwiW.alloc hwiW.size _⟩
  case round =>
    obtain ⟨pre, hk, rfl, hJ1, hS, hR1, hP1, hBe⟩ := hrel
    by_cases hlt : pre.length < ls.length
    · have hg := hG pre wr hJ1
      unfold goodT at hg
      obtain ⟨s', y, e, hT, hif⟩ := foldG_step hg hlt
      have hN : nextT (turnP k p) ls pre (s', e) := ⟨hlt, y, hT⟩
      clear hif hg
      obtain ⟨ad, A0, c0, rfl, hcell, hc0, hrow⟩ := Go.Proofs.Ytnmephdamgofnaa.PB.at_L2 (Kd.C_below hM hBe) (pre.length : Int) (by omega) (by omega)
      rw [Int.toNat_natCast] at hcell
      generalize Go.Proofs.Ytnmephdamgofnaa.PB.rd_L2 ls (pre.length : Int) = row at hT hcell hc0 hrow
      generalize lastT pre = st at hT hS
      obtain ⟨s1, s2, s3, s4⟩ := st
      obtain ⟨n1, n2, n3, n4⟩ := s'
      unfold turnP at hT
      have hs0 : wr.cell? ⟨W.heap.size, 0, none⟩ = some (.int .i64 s1) := blk_cell hS 0
      have hs1 : wr.cell? ⟨W.heap.size, 1, none⟩ = some (.int .i64 s2) := blk_cell hS 1
      have hs2 : wr.cell? ⟨W.heap.size, 2, none⟩ = some (.int .i64 s3) := blk_cell hS 2
      have hs3 : wr.cell? ⟨W.heap.size, 3, none⟩ = some (.bool s4) := blk_cell hS 3
      have g1 : (0 : Int) ≤ (pre.length : Int) := by omega
      have g2 : (pre.length : Int) < (ls.length : Int) := by omega
      gi_wp2_with (first
        | (refine wpListIn_load_blk rfl 23 _ rfl Bp 0 16 rfl hP1 (by rw [hp16]; omega) _ under_planF row_planF size_planF ?_; rw [h16])
        | (refine ⟨trivial, fun h => (by cases h), ?_⟩; refine (callsIn_wide.2 (resync_Turn.calls k p.a0 p.a1 p.a2 p.a3 p.a4 p.a5 p.a6 p.a7 p.a8 p.a9 p.a10 p.a11 p.a12 p.a13 p.a14 p.a15 s1 s2 s3 s4 A0 c0 row n1 n2 n3 n4 y e _ hrow hc0 hT)).mono ?_; rintro e1 w1 ⟨rfl, hb1⟩))
      have hJV : J pre (w1.alloc (.cells #[.int .i64 n1, .int .i64 n2, .int .i64 n3, .bool n4] 25)) :=
        hJ _ _ _ none (hJ _ _ _ none hJ1 (kb_below0 hb1) (fun _ e => nomatch e)) ⟨rfl, rfl, rfl, by simp, fun i hi _ => Below.heap_alloc w1 _ i hi⟩ (fun _ e => nomatch e)
      obtain ⟨fn, tmps, assign, body, hy, hR⟩ := hY pre ((n1, n2, n3, n4), e) _ hN hJV
      have hS1 := blk_alloc (blk_below hS hb1) (.cells #[.int .i64 n1, .int .i64 n2, .int .i64 n3, .bool n4] 25)
      have hR2 := blk_alloc (blk_below hR1 hb1) (.cells #[.int .i64 n1, .int .i64 n2, .int .i64 n3, .bool n4] 25)
      have hP2 := blk_alloc (blk_below hP1 hb1) (.cells #[.int .i64 n1, .int .i64 n2, .int .i64 n3, .bool n4] 25)
      have hN7 := blk_new w1 (.cells #[.int .i64 n1, .int .i64 n2, .int .i64 n3, .bool n4] 25)
      have hz1 := hb1.size
      have hz2 := blk_lt hS
      have hBV : Below wi.heap.size wi (w1.alloc (.cells #[.int .i64 n1, .int .i64 n2, .int .i64 n3, .bool n4] 25)) := (hBe.trans (hb1.mono hBe.size)).alloc (Nat.le_trans hBe.size hz1) _
      generalize w1.alloc (.cells #[.int .i64 n1, .int .i64 n2, .int .i64 n3, .bool n4] 25) = V at hy hR hS1 hR2 hP2 hN7 hBV ⊢
      unfold encT stC at hy
      dsimp only at hy
      rw [hy]
      gi_wp2
      refine ⟨fun h => (by cases h), hR.mono ?_⟩
      rintro e2 W3 (⟨rfl, hJ3, hk3⟩ | ⟨rfl, hJx3⟩)
      · have hS3 := hk3.1 _ _ hS1 rfl (by omega) (by omega)
        have hR3 := hk3.1 _ _ hR2 rfl hbr.1 hbr.2.1
        have hP3 := hk3.1 _ _ hP2 rfl hbr.2.2.1 hbr.2.2.2
        have hN3 := hk3.1 _ _ hN7 rfl (by omega) (by omega)
        have hB3 := hBV.trans hk3.2
        generalize w1.heap.size = Bn at hN3 hz1 ⊢
        have a0 : W3.cell? ⟨Bn, 0, none⟩ = some (.int .i64 n1) := blk_cell hN3 0
        have a1 : W3.cell? ⟨Bn, 1, none⟩ = some (.int .i64 n2) := blk_cell hN3 1
        have a2 : W3.cell? ⟨Bn, 2, none⟩ = some (.int .i64 n3) := blk_cell hN3 2
        have a3 : W3.cell? ⟨Bn, 3, none⟩ = some (.bool n4) := blk_cell hN3 3
        have b0 : W3.cell? ⟨W.heap.size, 0, none⟩ = some (.int .i64 s1) := blk_cell hS3 0
        have b1 : W3.cell? ⟨W.heap.size, 1, none⟩ = some (.int .i64 s2) := blk_cell hS3 1
        have b2 : W3.cell? ⟨W.heap.size, 2, none⟩ = some (.int .i64 s3) := blk_cell hS3 2
        have b3 : W3.cell? ⟨W.heap.size, 3, none⟩ = some (.bool s4) := blk_cell hS3 3
        have f0 := blk_frozen hS3 0
        have f1 := blk_frozen hS3 1
        have f2 := blk_frozen hS3 2
        have f3 := blk_frozen hS3 3
        gi_wp2
        go_roundw
        case rel =>
          have hg4 : W3.grownBy ((((W3.setCell ⟨W.heap.size, 0, none⟩ (.int .i64 n1)).setCell ⟨W.heap.size, 1, none⟩ (.int .i64 n2)).setCell ⟨W.heap.size, 2, none⟩ (.int .i64 n3)).setCell ⟨W.heap.size, 3, none⟩ (.bool n4)) (some W.heap.size) := setCells_grown W3 W.heap.size 0 [.int .i64 n1, .int .i64 n2, .int .i64 n3, .bool n4]
          have hs4 := blk_set (blk_set (blk_set (blk_set hS3 0 (.int .i64 n1)) 1 (.int .i64 n2)) 2 (.int .i64 n3)) 3 (.bool n4)
          generalize (((W3.setCell ⟨W.heap.size, 0, none⟩ (.int .i64 n1)).setCell ⟨W.heap.size, 1, none⟩ (.int .i64 n2)).setCell ⟨W.heap.size, 2, none⟩ (.int .i64 n3)).setCell ⟨W.heap.size, 3, none⟩ (.bool n4) = W4 at hg4 hs4 ⊢
          refine ⟨pre ++ [((n1, n2, n3, n4), e)], by simp; omega, ?_, hJ _ _ _ _ hJ3 hg4 (fun r q => by cases q; exact Nat.le_refl _), ?_, blk_grown hR3 hg4 (fun q => by injection q with q; omega), blk_grown hP3 hg4 (fun q => by injection q with q; omega), hB3.grown hg4 (Nat.le_of_lt (Nat.lt_of_le_of_lt hwiW.size (blk_lt hS3))) (fun r q => by cases q; exact hwiW.size)⟩
          · rw [List.length_append, List.length_singleton]
            go_num
          · rw [lastT_append]
            simpa [stC] using hs4
        case measure =>
          simp only [intOf]
          exact meas_lt _ _ hlt
      · gi_wp2
        refine bodyPost_ret (results_none rfl _ _ _) rfl ?_
        exact ⟨⟨_, rfl⟩, .inr ⟨_, trivial, hJx3⟩⟩
    · have hk11 : pre.length = ls.length := by omega
      gi_wp2
      go_end0
      exact ⟨⟨_, rfl⟩, .inl ⟨_, hk11, hJ1⟩⟩
end Go.Proofs.Ytnmephdamgofnaa.Hand
