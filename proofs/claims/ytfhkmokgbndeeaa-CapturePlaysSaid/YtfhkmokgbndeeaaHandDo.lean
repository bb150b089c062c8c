/- One call of both captures: 'play.do'. -/
import Derived.Test.YtfhkmokgbndeeaaHandRef5
set_option linter.unusedVariables false
set_option linter.unusedSimpArgs false
namespace Go.Proofs.Ytfhkmokgbndeeaa.Hand
open Go.RowKit Go.Proofs.Ytfhkmokgbndeeaa.Cap Go.Proofs.Ytfhkmokgbndeeaa.PA Go.Proofs.Ytfhkmokgbndeeaa.PB Go.Proofs.YtfhkmokgbndeeaaW.PrintWords Go.Proofs.YtfhkmokgbndeeaaW.PrintLast Go.Proofs.YtfhkmokgbndeeaaW.PrintMore
open Go.Proofs.Ytfhkmokgbndeeaa.PC (S68 k68 z68 rd_T68 at_T68 k68_mkM k68_open)
attribute [local go_sem] Oper.semAt_some

def okP (gp gc gr : Nat) (k : Nat) : Prop := k ≠ gp ∧ k ≠ gc ∧ k ≠ gr
structure PlayAt (w : World) (gp gc gr base : Nat) (v : Value) (m : Cp) (l : List S68) : Prop where
  blk : w.heap[gp]? = some (.cells #[.pointer (some ⟨gc, 0, none⟩), .pointer (some ⟨gr, 0, none⟩)] 56 (0, 0))
  cap : CapAt w gc m
  ref : RefAt w gr base (okP gp gc gr) v l
  is : RefIs m l
  fit : FitM m
  ne : gp ≠ gc ∧ gp ≠ gr ∧ gc ≠ gr
  low : base ≤ gp ∧ base ≤ gc ∧ base ≤ gr
theorem PlayAt.below {w w1 : World} {gp gc gr base : Nat} {v : Value} {m : Cp} {l : List S68} (h : PlayAt w gp gc gr base v m l) (hb : Below w.heap.size w w1) : PlayAt w1 gp gc gr base v m l := ⟨blk_below h.1 hb, h.2.below hb, h.3.below hb, h.4, h.5, h.6, h.7⟩
set_option maxRecDepth 100000 in
set_option maxHeartbeats 4000000 in
theorem do_note (gp gc gr base : Nat) (v : Value) (m : Cp) (l : List S68) (n ch by_ : Int) (w : World) (hP : PlayAt w gp gc gr base v m l) :
    Calls Try.prog 18 #[.pointer (some ⟨gp, 0, none⟩), .agg #[.int .i64 0, .int .i64 n, .int .i64 ch, .int .i64 by_]] w fun e w' => e = .returned (.bool true) ∧ Below base w w' ∧ ∃ v' l', PlayAt w' gp gc gr base v' (noteM m n ch by_) l' := by
  obtain ⟨n1, n2, n3⟩ := hP.ne
  obtain ⟨b1, b2, b3⟩ := hP.low
  have hlp := blk_lt hP.blk
  have hlc := hP.cap.lt
  have hlr := hP.ref.lt
  have hA := (Below.refl w.heap.size w).alloc (Nat.le_refl _) (.cells #[.int .i64 0, .int .i64 n, .int .i64 ch, .int .i64 by_] 32)
  have hbx := heap_alloc_new w (.cells #[.int .i64 0, .int .i64 n, .int .i64 ch, .int .i64 by_] 32)
  have hR0 : RefAt w gr base (fun k => okP gp gc gr k ∧ k ≠ w.heap.size) v l := ⟨hP.ref.blk, Kd.R_mono (Kd.R_bound hP.ref.row) (fun k hk => ⟨hk.1, by have := hk.2.2.1; omega⟩), fun h => h.1.2.2 rfl⟩
  have hR1 := hR0.below hA
  have hC1 := hP.cap.below hA
  have hp1 := blk_below hP.blk hA
  have hfit := hP.fit
  have his := hP.is
  clear hP hR0
  go_enter Try.func18, Try.ntmps18
  go_upto_region 3 with (fail)
  have hs1 : (w.alloc (.cells #[.int .i64 0, .int .i64 n, .int .i64 ch, .int .i64 by_] 32)).heap.size = w.heap.size + 1 := by simp
  generalize w.alloc (.cells #[.int .i64 0, .int .i64 n, .int .i64 ch, .int .i64 by_] 32) = W1 at *
  obtain ⟨gb, hgb⟩ : ∃ gb, w.heap.size = gb := ⟨_, rfl⟩
  rw [hgb] at hbx hR1 hs1 hlp hlc hlr hA ⊢
  obtain ⟨E, hE⟩ : ∃ E, noteE m n ch by_ = E := ⟨_, rfl⟩
  have fN := fun w hC => note_core gc n ch by_ m w hC
  have fR := fun w (hok : ∀ k, w.heap.size ≤ k → (fun k => okP gp gc gr k ∧ k ≠ gb) k) hR => rnote_core gr base (fun k => okP gp gc gr k ∧ k ≠ gb) v l m n ch by_ his w hok b3 hR
  rw [hE] at fN fR
  have hall : ∀ W : World, W.heap[gp]? = some (.cells #[.pointer (some ⟨gc, 0, none⟩), .pointer (some ⟨gr, 0, none⟩)] 56 (0, 0)) → W.heap[gb]? = some (.cells #[.int .i64 0, .int .i64 n, .int .i64 ch, .int .i64 by_] 32 (0, 0)) →
      W.cell? ⟨gp, 0, none⟩ = some (.pointer (some ⟨gc, 0, none⟩)) ∧ W.cell? ⟨gp, 1, none⟩ = some (.pointer (some ⟨gr, 0, none⟩)) ∧ W.cell? ⟨gb, 1, none⟩ = some (.int .i64 n) ∧ W.cell? ⟨gb, 2, none⟩ = some (.int .i64 ch) ∧ W.cell? ⟨gb, 3, none⟩ = some (.int .i64 by_) := fun W h1 h2 =>
    ⟨(blk_cell h1 0).trans rfl, (blk_cell h1 1).trans rfl, (blk_cell h2 1).trans rfl, (blk_cell h2 2).trans rfl, (blk_cell h2 3).trans rfl⟩
  have hS1 := hall W1.drew hp1 hbx
  have hC2 := hC1.below (below_drew (Below.refl _ _))
  have hR2 := hR1.below (below_drew (Below.refl _ _))
  have hB2 : Below base w W1.drew := (hA.mono (by omega)).drew
  have hs2 : W1.drew.heap.size = gb + 1 := hs1
  go_region_held3 (fun W => W.cell? ⟨gp, 0, none⟩ = some (.pointer (some ⟨gc, 0, none⟩)) ∧ W.cell? ⟨gp, 1, none⟩ = some (.pointer (some ⟨gr, 0, none⟩)) ∧ W.cell? ⟨gb, 1, none⟩ = some (.int .i64 n) ∧ W.cell? ⟨gb, 2, none⟩ = some (.int .i64 ch) ∧ W.cell? ⟨gb, 3, none⟩ = some (.int .i64 by_)) (first | (exact hS6) | (exact hS5) | (exact hS1)) ((first
    | (go_at_call 10; refine (fN W1.drew hC2).mono ?_; rintro e w5 ⟨rfl, hC5, hG5⟩; have hp5 := blk_grown (show W1.drew.heap[gp]? = _ from hp1) hG5 (by intro q; cases q; exact n1 rfl); have hb5 := blk_grown (show W1.drew.heap[gb]? = _ from hbx) hG5 (by intro q; cases q; omega); have hS5 := hall w5 hp5 hb5; have hR5 : RefAt w5 gr base (fun k => okP gp gc gr k ∧ k ≠ gb) v l := ⟨blk_grown hR2.blk hG5 (by intro q; cases q; exact n3 rfl), R_keepB hR2.row hG5 (fun k hk => hk.1.2.1), hR2.ne⟩; have hB5 := hB2.grown hG5 (by have := hB2.size; omega) (fun j q => by cases q; exact b2); have hs5 := hG5.size)
    | (go_at_call 27; refine (fR w5 (fun k hk => ⟨⟨by omega, by omega, by omega⟩, by omega⟩) hR5).mono ?_; rintro e w6 ⟨rfl, ⟨v6, l6, hR6, hI6⟩, hB6, hK6⟩; have hp6 := (hK6 gp (blk_lt hp5) n2 (fun h => h.1.1 rfl)).trans hp5; have hb6 := (hK6 gb (blk_lt hb5) (by omega) (fun h => h.2 rfl)).trans hb5; have hC6 : CapAt w6 gc (noteM m n ch by_) := ⟨hC5.1, (hK6 gc hC5.lt n3 (fun h => h.1.2.1 rfl)).trans hC5.2⟩; have hS6 := hall w6 hp6 hb6)))
  all_goals
    go_wp2
    go_ret
    exact ⟨rfl, hB5.trans hB6, v6, l6, ⟨hp6, hC6, ⟨hR6.blk, Kd.R_mono hR6.row (fun k hk => hk.1), fun h => h.2.2 rfl⟩, hI6, hfit.note _ _ _, ⟨n1, n2, n3⟩, ⟨b1, b2, b3⟩⟩⟩
set_option maxRecDepth 100000 in
set_option maxHeartbeats 4000000 in
theorem do_forget (gp gc gr base : Nat) (v : Value) (m : Cp) (l : List S68) (n ch by_ : Int) (w : World) (hP : PlayAt w gp gc gr base v m l) :
    Calls Try.prog 18 #[.pointer (some ⟨gp, 0, none⟩), .agg #[.int .i64 1, .int .i64 n, .int .i64 ch, .int .i64 by_]] w fun e w' => e = .returned (.bool true) ∧ Below base w w' ∧ ∃ v' l', PlayAt w' gp gc gr base v' (forgetM m n) l' := by
  obtain ⟨n1, n2, n3⟩ := hP.ne
  obtain ⟨b1, b2, b3⟩ := hP.low
  have hlp := blk_lt hP.blk
  have hlc := hP.cap.lt
  have hlr := hP.ref.lt
  have hA := (Below.refl w.heap.size w).alloc (Nat.le_refl _) (.cells #[.int .i64 1, .int .i64 n, .int .i64 ch, .int .i64 by_] 32)
  have hbx := heap_alloc_new w (.cells #[.int .i64 1, .int .i64 n, .int .i64 ch, .int .i64 by_] 32)
  have hR0 : RefAt w gr base (fun k => okP gp gc gr k ∧ k ≠ w.heap.size) v l := ⟨hP.ref.blk, Kd.R_mono (Kd.R_bound hP.ref.row) (fun k hk => ⟨hk.1, by have := hk.2.2.1; omega⟩), fun h => h.1.2.2 rfl⟩
  have hR1 := hR0.below hA
  have hC1 := hP.cap.below hA
  have hp1 := blk_below hP.blk hA
  have hfit := hP.fit
  have his := hP.is
  clear hP hR0
  go_enter Try.func18, Try.ntmps18
  go_upto_region 5 with (fail)
  have hs1 : (w.alloc (.cells #[.int .i64 1, .int .i64 n, .int .i64 ch, .int .i64 by_] 32)).heap.size = w.heap.size + 1 := by simp
  generalize w.alloc (.cells #[.int .i64 1, .int .i64 n, .int .i64 ch, .int .i64 by_] 32) = W1 at *
  obtain ⟨gb, hgb⟩ : ∃ gb, w.heap.size = gb := ⟨_, rfl⟩
  rw [hgb] at hbx hR1 hs1 hlp hlc hlr hA ⊢
  obtain ⟨E, hE⟩ : ∃ E, (ofR m n).2 = E := ⟨_, rfl⟩
  have fN := fun w hC => forget_core gc n m hfit w hC
  have fR := fun w (hok : ∀ k, w.heap.size ≤ k → (fun k => okP gp gc gr k ∧ k ≠ gb) k) hR => rforget_core gr base (fun k => okP gp gc gr k ∧ k ≠ gb) v l m n his w hok b3 hR
  rw [hE] at fN fR
  have hall : ∀ W : World, W.heap[gp]? = some (.cells #[.pointer (some ⟨gc, 0, none⟩), .pointer (some ⟨gr, 0, none⟩)] 56 (0, 0)) → W.heap[gb]? = some (.cells #[.int .i64 1, .int .i64 n, .int .i64 ch, .int .i64 by_] 32 (0, 0)) →
      W.cell? ⟨gp, 0, none⟩ = some (.pointer (some ⟨gc, 0, none⟩)) ∧ W.cell? ⟨gp, 1, none⟩ = some (.pointer (some ⟨gr, 0, none⟩)) ∧ W.cell? ⟨gb, 1, none⟩ = some (.int .i64 n) ∧ W.cell? ⟨gb, 2, none⟩ = some (.int .i64 ch) ∧ W.cell? ⟨gb, 3, none⟩ = some (.int .i64 by_) := fun W h1 h2 =>
    ⟨(blk_cell h1 0).trans rfl, (blk_cell h1 1).trans rfl, (blk_cell h2 1).trans rfl, (blk_cell h2 2).trans rfl, (blk_cell h2 3).trans rfl⟩
  have hS1 := hall W1.drew hp1 hbx
  have hC2 := hC1.below (below_drew (Below.refl _ _))
  have hR2 := hR1.below (below_drew (Below.refl _ _))
  have hB2 : Below base w W1.drew := (hA.mono (by omega)).drew
  have hs2 : W1.drew.heap.size = gb + 1 := hs1
  go_region_held3 (fun W => W.cell? ⟨gp, 0, none⟩ = some (.pointer (some ⟨gc, 0, none⟩)) ∧ W.cell? ⟨gp, 1, none⟩ = some (.pointer (some ⟨gr, 0, none⟩)) ∧ W.cell? ⟨gb, 1, none⟩ = some (.int .i64 n) ∧ W.cell? ⟨gb, 2, none⟩ = some (.int .i64 ch) ∧ W.cell? ⟨gb, 3, none⟩ = some (.int .i64 by_)) (first | (exact hS6) | (exact hS5) | (exact hS1)) ((first
    | (go_at_call 17; refine (fN W1.drew hC2).mono ?_; rintro e w5 ⟨rfl, hC5, hG5⟩; have hp5 := blk_grown (show W1.drew.heap[gp]? = _ from hp1) hG5 (by intro q; cases q; exact n1 rfl); have hb5 := blk_grown (show W1.drew.heap[gb]? = _ from hbx) hG5 (by intro q; cases q; omega); have hS5 := hall w5 hp5 hb5; have hR5 : RefAt w5 gr base (fun k => okP gp gc gr k ∧ k ≠ gb) v l := ⟨blk_grown hR2.blk hG5 (by intro q; cases q; exact n3 rfl), R_keepB hR2.row hG5 (fun k hk => hk.1.2.1), hR2.ne⟩; have hB5 := hB2.grown hG5 (by have := hB2.size; omega) (fun j q => by cases q; exact b2); have hs5 := hG5.size)
    | (go_at_call 28; refine (fR w5 (fun k hk => ⟨⟨by omega, by omega, by omega⟩, by omega⟩) hR5).mono ?_; rintro e w6 ⟨rfl, ⟨v6, l6, hR6, hI6⟩, hB6, hK6⟩; have hp6 := (hK6 gp (blk_lt hp5) n2 (fun h => h.1.1 rfl)).trans hp5; have hb6 := (hK6 gb (blk_lt hb5) (by omega) (fun h => h.2 rfl)).trans hb5; have hC6 : CapAt w6 gc (forgetM m n) := ⟨hC5.1, (hK6 gc hC5.lt n3 (fun h => h.1.2.1 rfl)).trans hC5.2⟩; have hS6 := hall w6 hp6 hb6)))
  all_goals
    go_wp2
    go_ret
    exact ⟨rfl, hB5.trans hB6, v6, l6, ⟨hp6, hC6, ⟨hR6.blk, Kd.R_mono hR6.row (fun k hk => hk.1), fun h => h.2.2 rfl⟩, hI6, hfit.forget _, ⟨n1, n2, n3⟩, ⟨b1, b2, b3⟩⟩⟩
set_option maxRecDepth 100000 in
set_option maxHeartbeats 4000000 in
theorem do_clear (gp gc gr base : Nat) (v : Value) (m : Cp) (l : List S68) (n ch by_ : Int) (w : World) (hP : PlayAt w gp gc gr base v m l) :
    Calls Try.prog 18 #[.pointer (some ⟨gp, 0, none⟩), .agg #[.int .i64 2, .int .i64 n, .int .i64 ch, .int .i64 by_]] w fun e w' => e = .returned (.bool true) ∧ Below base w w' ∧ ∃ v' l', PlayAt w' gp gc gr base v' none32 l' := by
  obtain ⟨n1, n2, n3⟩ := hP.ne
  obtain ⟨b1, b2, b3⟩ := hP.low
  have hlp := blk_lt hP.blk
  have hlc := hP.cap.lt
  have hlr := hP.ref.lt
  have hA := (Below.refl w.heap.size w).alloc (Nat.le_refl _) (.cells #[.int .i64 2, .int .i64 n, .int .i64 ch, .int .i64 by_] 32)
  have hbx := heap_alloc_new w (.cells #[.int .i64 2, .int .i64 n, .int .i64 ch, .int .i64 by_] 32)
  have hR0 : RefAt w gr base (fun k => okP gp gc gr k ∧ k ≠ w.heap.size) v l := ⟨hP.ref.blk, Kd.R_mono (Kd.R_bound hP.ref.row) (fun k hk => ⟨hk.1, by have := hk.2.2.1; omega⟩), fun h => h.1.2.2 rfl⟩
  have hR1 := hR0.below hA
  have hC1 := hP.cap.below hA
  have hp1 := blk_below hP.blk hA
  have hfit := hP.fit
  have his := hP.is
  clear hP hR0
  go_enter Try.func18, Try.ntmps18
  go_upto_region 7 with (fail)
  have hs1 : (w.alloc (.cells #[.int .i64 2, .int .i64 n, .int .i64 ch, .int .i64 by_] 32)).heap.size = w.heap.size + 1 := by simp
  generalize w.alloc (.cells #[.int .i64 2, .int .i64 n, .int .i64 ch, .int .i64 by_] 32) = W1 at *
  obtain ⟨gb, hgb⟩ : ∃ gb, w.heap.size = gb := ⟨_, rfl⟩
  rw [hgb] at hbx hR1 hs1 hlp hlc hlr hA ⊢
  obtain ⟨E, hE⟩ : ∃ E, ((devL m (List.range 16)).length : Int) = E := ⟨_, rfl⟩
  have fN := fun w hC => clear_core gc m hfit w hC
  have fR := fun w (hok : ∀ k, w.heap.size ≤ k → (fun k => okP gp gc gr k ∧ k ≠ gb) k) hR => rclear_core gr base (fun k => okP gp gc gr k ∧ k ≠ gb) v l m his w hok b3 hR
  rw [hE] at fN fR
  have hall : ∀ W : World, W.heap[gp]? = some (.cells #[.pointer (some ⟨gc, 0, none⟩), .pointer (some ⟨gr, 0, none⟩)] 56 (0, 0)) → W.heap[gb]? = some (.cells #[.int .i64 2, .int .i64 n, .int .i64 ch, .int .i64 by_] 32 (0, 0)) →
      W.cell? ⟨gp, 0, none⟩ = some (.pointer (some ⟨gc, 0, none⟩)) ∧ W.cell? ⟨gp, 1, none⟩ = some (.pointer (some ⟨gr, 0, none⟩)) ∧ W.cell? ⟨gb, 1, none⟩ = some (.int .i64 n) ∧ W.cell? ⟨gb, 2, none⟩ = some (.int .i64 ch) ∧ W.cell? ⟨gb, 3, none⟩ = some (.int .i64 by_) := fun W h1 h2 =>
    ⟨(blk_cell h1 0).trans rfl, (blk_cell h1 1).trans rfl, (blk_cell h2 1).trans rfl, (blk_cell h2 2).trans rfl, (blk_cell h2 3).trans rfl⟩
  have hS1 := hall W1.drew hp1 hbx
  have hC2 := hC1.below (below_drew (Below.refl _ _))
  have hR2 := hR1.below (below_drew (Below.refl _ _))
  have hB2 : Below base w W1.drew := (hA.mono (by omega)).drew
  have hs2 : W1.drew.heap.size = gb + 1 := hs1
  go_region_held3 (fun W => W.cell? ⟨gp, 0, none⟩ = some (.pointer (some ⟨gc, 0, none⟩)) ∧ W.cell? ⟨gp, 1, none⟩ = some (.pointer (some ⟨gr, 0, none⟩)) ∧ W.cell? ⟨gb, 1, none⟩ = some (.int .i64 n) ∧ W.cell? ⟨gb, 2, none⟩ = some (.int .i64 ch) ∧ W.cell? ⟨gb, 3, none⟩ = some (.int .i64 by_)) (first | (exact hS6) | (exact hS5) | (exact hS1)) ((first
    | (go_at_call 23; refine (fN W1.drew hC2).mono ?_; rintro e w5 ⟨rfl, hC5, hG5⟩; have hp5 := blk_grown (show W1.drew.heap[gp]? = _ from hp1) hG5 (by intro q; cases q; exact n1 rfl); have hb5 := blk_grown (show W1.drew.heap[gb]? = _ from hbx) hG5 (by intro q; cases q; omega); have hS5 := hall w5 hp5 hb5; have hR5 : RefAt w5 gr base (fun k => okP gp gc gr k ∧ k ≠ gb) v l := ⟨blk_grown hR2.blk hG5 (by intro q; cases q; exact n3 rfl), R_keepB hR2.row hG5 (fun k hk => hk.1.2.1), hR2.ne⟩; have hB5 := hB2.grown hG5 (by have := hB2.size; omega) (fun j q => by cases q; exact b2); have hs5 := hG5.size)
    | (go_at_call 29; refine (fR w5 (fun k hk => ⟨⟨by omega, by omega, by omega⟩, by omega⟩) hR5).mono ?_; rintro e w6 ⟨rfl, ⟨v6, l6, hR6, hI6⟩, hB6, hK6⟩; have hp6 := (hK6 gp (blk_lt hp5) n2 (fun h => h.1.1 rfl)).trans hp5; have hb6 := (hK6 gb (blk_lt hb5) (by omega) (fun h => h.2 rfl)).trans hb5; have hC6 : CapAt w6 gc none32 := ⟨hC5.1, (hK6 gc hC5.lt n3 (fun h => h.1.2.1 rfl)).trans hC5.2⟩; have hS6 := hall w6 hp6 hb6)))
  all_goals
    go_wp2
    go_ret
    exact ⟨rfl, hB5.trans hB6, v6, l6, ⟨hp6, hC6, ⟨hR6.blk, Kd.R_mono hR6.row (fun k hk => hk.1), fun h => h.2.2 rfl⟩, hI6, FitM.none, ⟨n1, n2, n3⟩, ⟨b1, b2, b3⟩⟩⟩
end Go.Proofs.Ytfhkmokgbndeeaa.Hand
