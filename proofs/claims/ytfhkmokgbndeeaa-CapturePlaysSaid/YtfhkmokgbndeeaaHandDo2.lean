/- 'play.do': a copy goes on; nothing; all kinds. -/
import Derived.Test.YtfhkmokgbndeeaaHandDo
set_option linter.unusedVariables false
set_option linter.unusedSimpArgs false
namespace Go.Proofs.Ytfhkmokgbndeeaa.Hand
open Go.RowKit Go.Proofs.Ytfhkmokgbndeeaa.Cap Go.Proofs.Ytfhkmokgbndeeaa.PA Go.Proofs.Ytfhkmokgbndeeaa.PB Go.Proofs.YtfhkmokgbndeeaaW.PrintWords Go.Proofs.YtfhkmokgbndeeaaW.PrintLast Go.Proofs.YtfhkmokgbndeeaaW.PrintMore
open Go.Proofs.Ytfhkmokgbndeeaa.PC (S68 k68 z68 rd_T68 at_T68 k68_mkM k68_open)
attribute [local go_sem] Oper.semAt_some

theorem do_other (gp gc gr base : Nat) (v : Value) (m : Cp) (l : List S68) (k n ch by_ : Int) (w : World) (hP : PlayAt w gp gc gr base v m l) (hk : k ≠ 0 ∧ k ≠ 1 ∧ k ≠ 2 ∧ k ≠ 3) :
    Calls Try.prog 18 #[.pointer (some ⟨gp, 0, none⟩), .agg #[.int .i64 k, .int .i64 n, .int .i64 ch, .int .i64 by_]] w fun e w' => e = .returned (.bool true) ∧ Below base w w' ∧ ∃ gc' gr' v' l', PlayAt w' gp gc' gr' base v' m l' := by
  have k0 : (k == 0) = false := by simpa using hk.1
  have k1 : (k == 1) = false := by simpa using hk.2.1
  have k2 : (k == 2) = false := by simpa using hk.2.2.1
  have k3 : (k == 3) = false := by simpa using hk.2.2.2
  have hA := (Below.refl w.heap.size w).alloc (Nat.le_refl _) (.cells #[.int .i64 k, .int .i64 n, .int .i64 ch, .int .i64 by_] 32)
  have hP1 := hP.below hA
  have hlp := blk_lt hP.blk
  have hlow := hP.low
  clear hk
  go_enter Try.func18, Try.ntmps18
  go_wp2
  go_ret
  exact ⟨rfl, hA.mono (by omega), gc, gr, v, l, hP1⟩
set_option maxRecDepth 100000 in
set_option maxHeartbeats 4000000 in
theorem do_copy (gp gc gr base : Nat) (v : Value) (m : Cp) (l : List S68) (n ch by_ : Int) (w : World) (hP : PlayAt w gp gc gr base v m l) :
    Calls Try.prog 18 #[.pointer (some ⟨gp, 0, none⟩), .agg #[.int .i64 3, .int .i64 n, .int .i64 ch, .int .i64 by_]] w fun e w' => e = .returned (.bool true) ∧ Below base w w' ∧ ∃ gc' gr' v' l', PlayAt w' gp gc' gr' base v' m l' := by
  obtain ⟨n1, n2, n3⟩ := hP.ne
  obtain ⟨b1, b2, b3⟩ := hP.low
  have hlp := blk_lt hP.blk
  have hlc := hP.cap.lt
  have hlr := hP.ref.lt
  have hA := (Below.refl w.heap.size w).alloc (Nat.le_refl _) (.cells #[.int .i64 3, .int .i64 n, .int .i64 ch, .int .i64 by_] 32)
  have hs1 : (w.alloc (.cells #[.int .i64 3, .int .i64 n, .int .i64 ch, .int .i64 by_] 32)).heap.size = w.heap.size + 1 := by simp
  have hP1 := hP.below hA
  have hfit := hP.fit
  have his := hP.is
  clear hP
  go_enter Try.func18, Try.ntmps18
  go_upto_region 9 with (fail)
  generalize w.alloc (.cells #[.int .i64 3, .int .i64 n, .int .i64 ch, .int .i64 by_] 32) = W1 at *
  have c0 : W1.cell? ⟨gp, 0, none⟩ = some (.pointer (some ⟨gc, 0, none⟩)) := (blk_cell hP1.blk 0).trans rfl
  go_upto_region 11 with (go_at_call 22; refine (copy_core gc m _ hP1.cap).mono ?_; rintro e w5 ⟨rfl, hC5, hB5⟩; have hp5 := blk_below hP1.blk hB5; have d0 : w5.cell? ⟨gp, 0, none⟩ = some (.pointer (some ⟨gc, 0, none⟩)) := (blk_cell hp5 0).trans rfl; have df := blk_frozen hp5 0)
  obtain ⟨gc', hgc⟩ : ∃ x, w.heap.size + 1 = x := ⟨_, rfl⟩
  have hl5 := hC5.lt
  rw [hs1, hgc] at hC5 hl5
  rw [hgc]
  have hC0 := hP1.cap.below hB5
  have hR5 := hP1.ref.below hB5
  have hp6 := blk_put hp5 0 (.pointer (some ⟨gc', 0, none⟩)) rfl
  have hC6 : CapAt (w5.setCell ⟨gp, 0, none⟩ (.pointer (some ⟨gc', 0, none⟩))) gc' m := ⟨hC5.1, blk_far hC5.2 (show gc' ≠ gp by omega) _⟩
  have hC06 : CapAt (w5.setCell ⟨gp, 0, none⟩ (.pointer (some ⟨gc', 0, none⟩))) gc m := ⟨hC0.1, blk_far hC0.2 (show gc ≠ gp from fun q => n1 q.symm) _⟩
  have hR6 : RefAt (w5.setCell ⟨gp, 0, none⟩ (.pointer (some ⟨gc', 0, none⟩))) gr base (okP gp gc gr) v l := ⟨blk_far hR5.blk (show gr ≠ gp from fun q => n2 q.symm) _, Kd.R_far (p := ⟨gp, 0, none⟩) hR5.row (fun k hk => hk.1) _, hR5.ne⟩
  have hB6 : Below base w (w5.setCell ⟨gp, 0, none⟩ (.pointer (some ⟨gc', 0, none⟩))) := ((below_step hA hB5).mono (by omega)).setCell (p := ⟨gp, 0, none⟩) b1 _
  generalize w5.setCell ⟨gp, 0, none⟩ (.pointer (some ⟨gc', 0, none⟩)) = W6 at *
  simp only [List.setIfInBounds_toArray, List.set_cons_zero] at hp6
  have c1 : W6.cell? ⟨gp, 1, none⟩ = some (.pointer (some ⟨gr, 0, none⟩)) := (blk_cell hp6 1).trans rfl
  go_upto_region 12 with (go_at_call 30; refine (rcopy_core gr base _ v l his.length _ hR6).mono ?_; rintro e w7 ⟨rfl, ⟨v7, hR7⟩, hB7⟩; have hp7 := blk_below hp6 hB7; have d1 : w7.cell? ⟨gp, 1, none⟩ = some (.pointer (some ⟨gr, 0, none⟩)) := (blk_cell hp7 1).trans rfl; have df1 := blk_frozen hp7 1)
  obtain ⟨gr', hgr⟩ : ∃ x, W6.heap.size = x := ⟨_, rfl⟩
  have hl7 := hR7.lt
  have hq6 := hC6.lt
  have hq06 := hC06.lt
  have hqp6 := blk_lt hp6
  have hrow := Kd.R_mono (Kd.R_bound hR7.row) (ok' := fun k => okP gp gc' gr' k ∧ k ≠ gc) (fun k hk => ⟨⟨by have := hk.2.1; omega, by have := hk.2.1; omega, by rw [← hgr]; exact hk.1⟩, by have := hk.2.1; omega⟩)
  have hrb := hR7.blk
  rw [hgr] at hl7 hrow hrb ⊢
  have hC7 := hC6.below hB7
  have hC07 := hC06.below hB7
  have hp8 := blk_put hp7 1 (.pointer (some ⟨gr', 0, none⟩)) rfl
  simp only [List.setIfInBounds_toArray, List.set_cons_succ, List.set_cons_zero] at hp8
  have hC8 : CapAt (w7.setCell ⟨gp, 1, none⟩ (.pointer (some ⟨gr', 0, none⟩))) gc' m := ⟨hC7.1, blk_far hC7.2 (show gc' ≠ gp by omega) _⟩
  have hC08 : CapAt (w7.setCell ⟨gp, 1, none⟩ (.pointer (some ⟨gr', 0, none⟩))) gc m := ⟨hC07.1, blk_far hC07.2 (show gc ≠ gp from fun q => n1 q.symm) _⟩
  have hrb8 := blk_far hrb (p := ⟨gp, 1, none⟩) (show gr' ≠ gp by omega) (.pointer (some ⟨gr', 0, none⟩))
  have hrow8 := Kd.R_far (p := ⟨gp, 1, none⟩) hrow (fun k hk => hk.1.1) (.pointer (some ⟨gr', 0, none⟩))
  have hB8 : Below base w (w7.setCell ⟨gp, 1, none⟩ (.pointer (some ⟨gr', 0, none⟩))) := (hB6.trans (hB7.mono (by omega))).setCell (p := ⟨gp, 1, none⟩) b1 _
  generalize w7.setCell ⟨gp, 1, none⟩ (.pointer (some ⟨gr', 0, none⟩)) = W8 at *
  go_wp2_with (go_at_call 23; refine (clear_core gc m hfit _ hC08).mono ?_; rintro e w9 ⟨rfl, hC9, hG9⟩)
  go_ret
  exact ⟨rfl, hB8.grown hG9 (by have := hB8.size; omega) (fun j q => by cases q; exact b2), gc', gr', _, l, ⟨blk_grown hp8 hG9 (by intro q; cases q; exact n1 rfl), hC8.grown hG9 (by intro q; cases q; omega), ⟨blk_grown hrb8 hG9 (by intro q; cases q; omega), Kd.R_mono (R_keepB (Kd.R_lower hrow8 (by omega)) hG9 (fun k hk => hk.2)) (fun k hk => hk.1), fun h => h.2.2 rfl⟩, his, hfit, ⟨by omega, by omega, by omega⟩, ⟨b1, by omega, by omega⟩⟩⟩
theorem do_core (gp gc gr base : Nat) (v : Value) (m : Cp) (l : List S68) (k n ch by_ : Int) (w : World) (hP : PlayAt w gp gc gr base v m l) :
    Calls Try.prog 18 #[.pointer (some ⟨gp, 0, none⟩), .agg #[.int .i64 k, .int .i64 n, .int .i64 ch, .int .i64 by_]] w fun e w' => e = .returned (.bool true) ∧ Below base w w' ∧ ∃ gc' gr' v' m' l', PlayAt w' gp gc' gr' base v' m' l' := by
  by_cases h0 : k = 0
  · subst h0
    exact (do_note gp gc gr base v m l n ch by_ w hP).mono fun e w' ⟨h1, h2, v', l', h⟩ => ⟨h1, h2, gc, gr, v', _, l', h⟩
  by_cases h1 : k = 1
  · subst h1
    exact (do_forget gp gc gr base v m l n ch by_ w hP).mono fun e w' ⟨h1, h2, v', l', h⟩ => ⟨h1, h2, gc, gr, v', _, l', h⟩
  by_cases h2 : k = 2
  · subst h2
    exact (do_clear gp gc gr base v m l n ch by_ w hP).mono fun e w' ⟨h1, h2, v', l', h⟩ => ⟨h1, h2, gc, gr, v', _, l', h⟩
  by_cases h3 : k = 3
  · subst h3
    exact (do_copy gp gc gr base v m l n ch by_ w hP).mono fun e w' ⟨h1, h2, gc', gr', v', l', h⟩ => ⟨h1, h2, gc', gr', v', m, l', h⟩
  exact (do_other gp gc gr base v m l k n ch by_ w hP ⟨h0, h1, h2, h3⟩).mono fun e w' ⟨h1, h2, gc', gr', v', l', h⟩ => ⟨h1, h2, gc', gr', v', m, l', h⟩
end Go.Proofs.Ytfhkmokgbndeeaa.Hand
