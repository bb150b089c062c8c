/- What plan.Fails computes, by hand: a range over the conditions. -/
import Derived.Test.YtnmephdamgofnaaHandPlan0
set_option linter.unusedVariables false
set_option linter.unusedSimpArgs false
namespace Go.Proofs.Ytnmephdamgofnaa.Hand
open Go.RowKit Go.Shelf Go.Proofs.Ytnmephdamgofnaa.PA Go.Proofs.YtnmephdamgofnaaW.PrintWords Go.Proofs.YtnmephdamgofnaaW.PrintMore
attribute [local go_sem] Oper.semAt_some

/-- The first of the conditions from j on (k of them) that does not hold; 0: all hold. -/
def failsC (condO : Nat → Option Bool) : Nat → Nat → Option Int
  | 0, _ => some 0
  | k + 1, j => (condO j).bind fun b => if b = true then failsC condO k (j + 1) else some (j : Int)
theorem failsC_step {c : Nat → Option Bool} {k j : Nat} {r : Int} (h : failsC c (k + 1) j = some r) : ∃ b, c j = some b ∧ (if b = true then failsC c k (j + 1) = some r else (j : Int) = r) := by
  unfold failsC at h
  cases hc : c j with
  | none => rw [hc] at h; cases h
  | some b =>
    rw [hc] at h
    refine ⟨b, rfl, ?_⟩
    cases b
    · simpa using h
    · simpa using h
theorem conditions_in (m : Nat) (p : Pl) (w : World) : CallsIn Fence.wide m Try.prog 35 #[.agg (planC p)] w fun e w' => e = .returned (.func (.func 44) #[] #[.pointer (some ⟨w.heap.size, 0, none⟩)]) ∧ w' = w.alloc (.cells (planC p) 72) := by
  refine callsIn_of_wp Try.func35 rfl trivial ?_ rfl
  simp only [Try.ntmps35, List.size_toArray, List.length_cons, List.length_nil, Nat.reduceAdd, Nat.reduceSub, Array.replicate_succ, Array.replicate_zero, List.push_toArray, List.append_toArray, List.nil_append, List.cons_append]
  unfold planC
  gi_wp2
  go_ret
  exact ⟨rfl, rfl⟩
theorem kb_below {w w1 : World} (h : Below w.heap.size w w1) : w.grownBy w1 none := ⟨h.os, h.tape, h.output, h.size, fun k hk _ => h.block k hk⟩
/-- The contracts of the conditions. -/
def CondsAt (p : Pl) (c : Nat → Option Bool) : Prop := ∀ x, 1 ≤ x → x ≤ 11 → (∀ args w, (callFunc (cid x) args).run Try.prog w = .ok (.enter (cid x) args) w) ∧ ∀ (r : Bool) (w : World), c x = some r → Calls Try.prog (cid x) #[.agg (planC p)] w fun e w' => e = .returned (.bool r) ∧ Below w.heap.size w w'
set_option maxRecDepth 100000 in
set_option maxHeartbeats 8000000 in
theorem fails_in (p : Pl) (c : Nat → Option Bool) (hc : CondsAt p c) (r : Int) (hr : failsC c 11 1 = some r) (w : World) : CallsIn Fence.wide 3 Try.prog 26 #[.agg (planC p)] w fun e W' => e = .returned (.int .i64 r) ∧ Below w.heap.size w W' := by
  have hp16 := planC_size p
  have hR := Lib.hid hr
  clear hr
  refine callsIn_of_wp_marks Try.func26 rfl trivial ?_ rfl
  simp only [Try.ntmps26, List.size_toArray, List.length_cons, List.length_nil, Nat.reduceAdd, Nat.reduceSub, Array.replicate_succ, Array.replicate_zero, List.push_toArray, List.append_toArray, List.nil_append, List.cons_append]
  unfold planC
  gi_wp2
  refine wpIn_wide.2 (wp_scope_straight ((wpIn_wide (n := 3)).1 ?_))
  gi_wp2
  refine wpIn_label ?_
  gi_wp2_with (refine ⟨trivial, ?_⟩; gi_at_call 35; refine (conditions_in 2 p _).mono ?_; rintro e w' ⟨rfl, rfl⟩)
  obtain ⟨V, hV⟩ : ∃ V, ((w.alloc (.cells (planC p) 23)).alloc (.cells #[.int .i64 0] 3)).alloc (.cells (planC p) 72) = V := ⟨_, rfl⟩
  have hsz : V.heap.size = w.heap.size + 3 := by rw [← hV]; simp
  have hb3 : V.heap[w.heap.size + 1]? = some (.cells #[.int .i64 0] 3 (0, 0)) := by
    rw [← hV]
    have := blk_new (w.alloc (.cells (planC p) 23)) (.cells #[.int .i64 0] 3)
    rw [World.size_alloc] at this
    exact blk_alloc this _
  have hbl : V.heap[w.heap.size + 2]? = some (.cells (planC p) 72 (0, 0)) := by
    rw [← hV]
    have := blk_new ((w.alloc (.cells (planC p) 23)).alloc (.cells #[.int .i64 0] 3)) (.cells (planC p) 72)
    rwa [World.size_alloc, World.size_alloc] at this
  have hBV : Below w.heap.size w V := by rw [← hV]; exact (((Below.refl _ w).alloc (Nat.le_refl _) _).alloc (by simp) _).alloc (by simp <;> omega) _
  rw [show ((w.alloc (.cells #[.int .i64 p.a0, .int .i64 p.a1, .int .i64 p.a2, .int .i64 p.a3, .int .i64 p.a4, .int .i64 p.a5, .int .i64 p.a6, .int .i64 p.a7, .int .i64 p.a8, .int .i64 p.a9, .int .i64 p.a10, .int .i64 p.a11, .int .i64 p.a12, .int .i64 p.a13, .int .i64 p.a14, .int .i64 p.a15] 23)).alloc (.cells #[.int .i64 0] 3)).alloc (.cells (planC p) 72) = V from hV]
  refine wpIn_rangeFunc_ord rfl (by omega) (gf := 44) (lb := #[.pointer (some ⟨w.heap.size + 2, 0, none⟩)]) rfl trivial (enters_of Try.func44 (by kernel_rfl) rfl)
    (conds1_in 2 (w.heap.size + 1) (w.heap.size + 2) p V hbl (by omega)) kbut_t kbut_b (Below.refl _ _) (fun _ => rfl)
    (fun pre W => (W.heap[w.heap.size + 1]? = some (.cells #[.int .i64 0] 3 (0, 0)) ∧ failsC c (11 - pre.length) (pre.length + 1) = some r) ∧ Below w.heap.size w W)
    (fun cd pre W => (W.heap[w.heap.size + 1]? = some (.cells #[.int .i64 r] 3 (0, 0)) ∧ cd = .exit 0) ∧ Below w.heap.size w W)
    (OwnFrom.and (Own.from (fun s A B row hs hg hr => ⟨blk_grown hs.1 hg (fun q => by obtain ⟨o, ho, hcl⟩ := hr _ q.symm; rw [hs.1] at ho; cases ho; cases hcl), hs.2⟩) _) (ownFrom_below (Nat.le_refl _) (by omega)))
    (fun cd => OwnFrom.and (Own.from (fun s A B row hs hg hr => ⟨blk_grown hs.1 hg (fun q => by obtain ⟨o, ho, hcl⟩ := hr _ q.symm; rw [hs.1] at ho; cases ho; cases hcl), hs.2⟩) _) (ownFrom_below (Nat.le_refl _) (by omega)))
    ⟨⟨hb3, hR.out⟩, hBV⟩
    (fun x a' _ => a' = { tmps := #[.agg (planC p), .pointer (some ⟨w.heap.size, 0, none⟩), .int .i64 0, .pointer (some ⟨w.heap.size + 1, 0, none⟩), .int .i64 x, condV p x, .agg (planC p), .agg (planC p), .func (.func 44) #[] #[.pointer (some ⟨w.heap.size + 2, 0, none⟩)], .int .i64 x, condV p x, undef, undef, undef, undef, undef], defers := [] })
    (fun x a' => ownFrom_pure _ _) ?assign ?body ?done ?stop
  case assign =>
    intro l0 pre x W K hN hI hK
    unfold encC
    gi_wp2
    exact hK _ _ (KeepsFrom.refl _ _) (kbut_refl _ _) hI rfl
  case body =>
    rintro l0 pre x a' W ⟨hN1, hN2⟩ ⟨⟨hb0, hfl⟩, hB⟩ rfl
    have hlen : (pre ++ [x]).length = pre.length + 1 := by simp
    rw [show 11 - pre.length = (11 - (pre.length + 1)) + 1 by omega] at hfl
    obtain ⟨bx, hcx, hif⟩ := failsC_step hfl
    rw [← hN2] at hcx hif
    have hent := (hc x (by omega) (by omega)).1
    have hc1 := (hc x (by omega) (by omega)).2 bx
    have hcc : ∀ W, Calls Try.prog (cid x) #[.agg (planC p)] W fun e w' => e = .returned (.bool bx) ∧ Below W.heap.size W w' := fun W => hc1 W hcx
    clear hc1 hc
    have h1 : 1 ≤ x := by omega
    have h11 : x ≤ 11 := by omega
    have hX : x = pre.length + 1 := hN2
    have HX := Lib.hid hX
    clear hX hN2 hN1 hfl hcx
    unfold condV planV
    generalize cid x = f at hcc hent ⊢
    cases bx with
    | true =>
      have HI := Lib.hid hif
      clear hif
      gi_wp2_with (refine ⟨trivial, ?_⟩; refine (CallsIn.inRound l0 (callsIn_wide.2 (hcc _))).mono ?_; rintro e w1 ⟨rfl, hb1⟩)
      exact ⟨KeepsFrom.of_grownBy (kb_below hb1) (fun j q => by cases q), kbut_below hb1, ⟨blk_below hb0 hb1, by have := HI.out; rw [hlen, ← HX.out]; simpa using this⟩, hB.trans (hb1.mono hB.size)⟩
    | false =>
      have hrx : (x : Int) = r := by simpa using hif
      subst hrx
      clear hif
      gi_wp2_with (refine ⟨trivial, ?_⟩; refine (CallsIn.inRound l0 (callsIn_wide.2 (hcc _))).mono ?_; rintro e w1 ⟨rfl, hb1⟩; have hq1 := blk_below hb0 hb1; have hc2 := blk_cell hq1 0; have hf2 := blk_frozen hq1 0)
      have hg2 := grownBy_setCell' w1 (w.heap.size + 1) (.int .i64 (x : Int))
      refine ⟨(KeepsFrom.of_grownBy (kb_below hb1) (fun j q => by cases q)).trans (KeepsFrom.of_grownBy hg2 (fun j q => by injection q with q; omega)), ⟨by simpa using blk_set hq1 0 (.int .i64 (x : Int)), rfl⟩, (hB.trans (hb1.mono hB.size)).grown hg2 (by have := hB.size; have := hb1.size; omega) (fun j q => by injection q with q; omega)⟩
  case done =>
    rintro D xs W hD hS ⟨⟨hb0, hfl⟩, hB⟩ hK
    rw [hS] at hfl
    have hr0 : r = 0 := by
      have : some (0 : Int) = some r := hfl
      injection this with this
      exact this.symm
    subst hr0
    have hc := blk_cell hb0 0
    gi_wp2
    refine ⟨by simp, .inl ⟨_, _, rfl, run_takeDeferred hK, ?_⟩⟩
    exact ⟨_, results_tmp rfl _ _ _, rfl, hB.trans (belowK_b (w := w) (Nat.le_refl _) W D _ _ (by omega) hK rfl rfl)⟩
  case stop =>
    rintro D cd pre W hD _ ⟨⟨hb0, rfl⟩, hB⟩ hK
    have hc := blk_cell hb0 0
    gi_wp2
    refine ⟨by simp, .inl ⟨_, _, rfl, run_takeDeferred hK, ?_⟩⟩
    exact ⟨_, results_tmp rfl _ _ _, rfl, hB.trans (belowK_b (w := w) (Nat.le_refl _) W D _ _ (by omega) hK rfl rfl)⟩
end Go.Proofs.Ytnmephdamgofnaa.Hand
