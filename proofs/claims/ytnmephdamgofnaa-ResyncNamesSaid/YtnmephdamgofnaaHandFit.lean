/- plan.Fit at the chapter's wishes, by hand. -/
import Derived.Test.YtnmephdamgofnaaHandPlan
set_option linter.unusedVariables false
set_option linter.unusedSimpArgs false
namespace Go.Proofs.Ytnmephdamgofnaa.Hand
open Go.RowKit Go.Shelf Go.Proofs.Ytnmephdamgofnaa.PA Go.Proofs.YtnmephdamgofnaaW.PrintWords Go.Proofs.YtnmephdamgofnaaW.PrintMore

set_option maxRecDepth 100000 in
set_option maxHeartbeats 4000000 in
theorem known_yes (p : Pl) (h1 : condO p 1 = some true) (h2 : condO p 2 = some true) (h3 : condO p 3 = some true) (w : World) : Calls Try.prog 36 #[.agg (planC p)] w fun e w' => e = .returned (.bool true) ∧ Below w.heap.size w w' := by
  have c1 : ∀ W : World, Calls Try.prog 45 #[.agg (planC p)] W fun e w' => e = .returned (.bool true) ∧ Below W.heap.size W w' := fun W => ((conds_at p) 1 (by omega) (by omega)).2 true W h1
  have c2 : ∀ W : World, Calls Try.prog 46 #[.agg (planC p)] W fun e w' => e = .returned (.bool true) ∧ Below W.heap.size W w' := fun W => ((conds_at p) 2 (by omega) (by omega)).2 true W h2
  have c3 : ∀ W : World, Calls Try.prog 47 #[.agg (planC p)] W fun e w' => e = .returned (.bool true) ∧ Below W.heap.size W w' := fun W => ((conds_at p) 3 (by omega) (by omega)).2 true W h3
  clear h1 h2 h3
  have hp16 := planC_size p
  have h16 := take16 p
  have HB0 := blk_new w (.cells (planC p) 72)
  have HBB := (Below.refl w.heap.size w).alloc (Nat.le_refl _) (.cells (planC p) 72)
  go_enter Try.func36, Try.ntmps36
  go_wp2_with (first
    | (refine wpList_load_blk rfl 72 _ rfl w.heap.size 0 16 rfl HB0 (by rw [hp16]; omega) _ under_look row_look size_look ?_; rw [h16])
    | (go_at_call 45; refine (c1 _).mono ?_; rintro e w1 ⟨rfl, hb1⟩; have HB1 := blk_below HB0 hb1)
    | (refine gate_guard (by rfl) ?_; refine wpList_load_blk rfl 72 _ rfl w.heap.size 0 16 rfl HB1 (by rw [hp16]; omega) _ under_look row_look size_look ?_; rw [h16])
    | (go_at_call 46; refine (c2 _).mono ?_; rintro e w2 ⟨rfl, hb2⟩; have HB2 := blk_below HB1 hb2)
    | (refine gate_guard (by rfl) ?_; refine wpList_load_blk rfl 72 _ rfl w.heap.size 0 16 rfl HB2 (by rw [hp16]; omega) _ under_look row_look size_look ?_; rw [h16])
    | (go_at_call 47; refine (c3 _).mono ?_; rintro e w3 ⟨rfl, hb3⟩))
  go_ret
  exact ⟨rfl, ((HBB.trans (hb1.mono HBB.size)).trans (hb2.mono (by have := HBB.size; have := hb1.size; omega))).trans (hb3.mono (by have := HBB.size; have := hb1.size; have := hb2.size; omega))⟩
theorem trans_below {n : Nat} {a b c : World} (h : Below n a b) (hn : n ≤ b.heap.size) (k : Below b.heap.size b c) : Below n a c := h.trans (k.mono hn)
set_option maxRecDepth 100000 in
set_option maxHeartbeats 4000000 in
theorem least_core (g : Nat) (p : Pl) (v0 v1 v2 v3 v4 v5r : Int) (h0 : plan_look_leastPi.f p.a0 p.a1 p.a2 p.a3 p.a4 p.a5 p.a6 p.a7 p.a8 p.a9 p.a10 p.a11 p.a12 p.a13 p.a14 p.a15 = some v0) (h1 : plan_look_leastWindow.f ({ p with a9 := v0 } : Pl).a0 ({ p with a9 := v0 } : Pl).a1 ({ p with a9 := v0 } : Pl).a2 ({ p with a9 := v0 } : Pl).a3 ({ p with a9 := v0 } : Pl).a4 ({ p with a9 := v0 } : Pl).a5 ({ p with a9 := v0 } : Pl).a6 ({ p with a9 := v0 } : Pl).a7 ({ p with a9 := v0 } : Pl).a8 ({ p with a9 := v0 } : Pl).a9 ({ p with a9 := v0 } : Pl).a10 ({ p with a9 := v0 } : Pl).a11 ({ p with a9 := v0 } : Pl).a12 ({ p with a9 := v0 } : Pl).a13 ({ p with a9 := v0 } : Pl).a14 ({ p with a9 := v0 } : Pl).a15 = some v1) (h2 : plan_look_leastCap.f ({ p with a9 := v0, a4 := v1 } : Pl).a0 ({ p with a9 := v0, a4 := v1 } : Pl).a1 ({ p with a9 := v0, a4 := v1 } : Pl).a2 ({ p with a9 := v0, a4 := v1 } : Pl).a3 ({ p with a9 := v0, a4 := v1 } : Pl).a4 ({ p with a9 := v0, a4 := v1 } : Pl).a5 ({ p with a9 := v0, a4 := v1 } : Pl).a6 ({ p with a9 := v0, a4 := v1 } : Pl).a7 ({ p with a9 := v0, a4 := v1 } : Pl).a8 ({ p with a9 := v0, a4 := v1 } : Pl).a9 ({ p with a9 := v0, a4 := v1 } : Pl).a10 ({ p with a9 := v0, a4 := v1 } : Pl).a11 ({ p with a9 := v0, a4 := v1 } : Pl).a12 ({ p with a9 := v0, a4 := v1 } : Pl).a13 ({ p with a9 := v0, a4 := v1 } : Pl).a14 ({ p with a9 := v0, a4 := v1 } : Pl).a15 = some v2) (h3 : plan_look_leastOff.f ({ p with a9 := v0, a4 := v1, a10 := v2 } : Pl).a0 ({ p with a9 := v0, a4 := v1, a10 := v2 } : Pl).a1 ({ p with a9 := v0, a4 := v1, a10 := v2 } : Pl).a2 ({ p with a9 := v0, a4 := v1, a10 := v2 } : Pl).a3 ({ p with a9 := v0, a4 := v1, a10 := v2 } : Pl).a4 ({ p with a9 := v0, a4 := v1, a10 := v2 } : Pl).a5 ({ p with a9 := v0, a4 := v1, a10 := v2 } : Pl).a6 ({ p with a9 := v0, a4 := v1, a10 := v2 } : Pl).a7 ({ p with a9 := v0, a4 := v1, a10 := v2 } : Pl).a8 ({ p with a9 := v0, a4 := v1, a10 := v2 } : Pl).a9 ({ p with a9 := v0, a4 := v1, a10 := v2 } : Pl).a10 ({ p with a9 := v0, a4 := v1, a10 := v2 } : Pl).a11 ({ p with a9 := v0, a4 := v1, a10 := v2 } : Pl).a12 ({ p with a9 := v0, a4 := v1, a10 := v2 } : Pl).a13 ({ p with a9 := v0, a4 := v1, a10 := v2 } : Pl).a14 ({ p with a9 := v0, a4 := v1, a10 := v2 } : Pl).a15 = some v3) (h4 : plan_look_leastDelta.f ({ p with a9 := v0, a4 := v1, a10 := v2, a3 := v3 } : Pl).a0 ({ p with a9 := v0, a4 := v1, a10 := v2, a3 := v3 } : Pl).a1 ({ p with a9 := v0, a4 := v1, a10 := v2, a3 := v3 } : Pl).a2 ({ p with a9 := v0, a4 := v1, a10 := v2, a3 := v3 } : Pl).a3 ({ p with a9 := v0, a4 := v1, a10 := v2, a3 := v3 } : Pl).a4 ({ p with a9 := v0, a4 := v1, a10 := v2, a3 := v3 } : Pl).a5 ({ p with a9 := v0, a4 := v1, a10 := v2, a3 := v3 } : Pl).a6 ({ p with a9 := v0, a4 := v1, a10 := v2, a3 := v3 } : Pl).a7 ({ p with a9 := v0, a4 := v1, a10 := v2, a3 := v3 } : Pl).a8 ({ p with a9 := v0, a4 := v1, a10 := v2, a3 := v3 } : Pl).a9 ({ p with a9 := v0, a4 := v1, a10 := v2, a3 := v3 } : Pl).a10 ({ p with a9 := v0, a4 := v1, a10 := v2, a3 := v3 } : Pl).a11 ({ p with a9 := v0, a4 := v1, a10 := v2, a3 := v3 } : Pl).a12 ({ p with a9 := v0, a4 := v1, a10 := v2, a3 := v3 } : Pl).a13 ({ p with a9 := v0, a4 := v1, a10 := v2, a3 := v3 } : Pl).a14 ({ p with a9 := v0, a4 := v1, a10 := v2, a3 := v3 } : Pl).a15 = some v4) (h5 : plan_look_round.f ({ p with a9 := v0, a4 := v1, a10 := v2, a3 := v3, a11 := v4 } : Pl).a0 ({ p with a9 := v0, a4 := v1, a10 := v2, a3 := v3, a11 := v4 } : Pl).a1 ({ p with a9 := v0, a4 := v1, a10 := v2, a3 := v3, a11 := v4 } : Pl).a2 ({ p with a9 := v0, a4 := v1, a10 := v2, a3 := v3, a11 := v4 } : Pl).a3 ({ p with a9 := v0, a4 := v1, a10 := v2, a3 := v3, a11 := v4 } : Pl).a4 ({ p with a9 := v0, a4 := v1, a10 := v2, a3 := v3, a11 := v4 } : Pl).a5 ({ p with a9 := v0, a4 := v1, a10 := v2, a3 := v3, a11 := v4 } : Pl).a6 ({ p with a9 := v0, a4 := v1, a10 := v2, a3 := v3, a11 := v4 } : Pl).a7 ({ p with a9 := v0, a4 := v1, a10 := v2, a3 := v3, a11 := v4 } : Pl).a8 ({ p with a9 := v0, a4 := v1, a10 := v2, a3 := v3, a11 := v4 } : Pl).a9 ({ p with a9 := v0, a4 := v1, a10 := v2, a3 := v3, a11 := v4 } : Pl).a10 ({ p with a9 := v0, a4 := v1, a10 := v2, a3 := v3, a11 := v4 } : Pl).a11 ({ p with a9 := v0, a4 := v1, a10 := v2, a3 := v3, a11 := v4 } : Pl).a12 ({ p with a9 := v0, a4 := v1, a10 := v2, a3 := v3, a11 := v4 } : Pl).a13 ({ p with a9 := v0, a4 := v1, a10 := v2, a3 := v3, a11 := v4 } : Pl).a14 ({ p with a9 := v0, a4 := v1, a10 := v2, a3 := v3, a11 := v4 } : Pl).a15 = some v5r) (w : World) (hg : w.heap[g]? = some (.cells (planC p) 72 (0, 0))) :
    Calls Try.prog 38 #[.pointer (some ⟨g, 0, none⟩)] w fun e w' => e = .returned (.tuple #[]) ∧ w'.heap[g]? = some (.cells (planC { p with a9 := v0, a4 := v1, a10 := v2, a3 := v3, a11 := v4, a15 := wrap64 (40 * v5r) }) 72 (0, 0)) ∧ w.grownBy w' (some g) := by
  obtain ⟨q0, hq0⟩ : ∃ q : Pl, q = p := ⟨_, rfl⟩
  obtain ⟨q1, hq1⟩ : ∃ q : Pl, q = { p with a9 := v0 } := ⟨_, rfl⟩
  obtain ⟨q2, hq2⟩ : ∃ q : Pl, q = { p with a9 := v0, a4 := v1 } := ⟨_, rfl⟩
  obtain ⟨q3, hq3⟩ : ∃ q : Pl, q = { p with a9 := v0, a4 := v1, a10 := v2 } := ⟨_, rfl⟩
  obtain ⟨q4, hq4⟩ : ∃ q : Pl, q = { p with a9 := v0, a4 := v1, a10 := v2, a3 := v3 } := ⟨_, rfl⟩
  obtain ⟨q5, hq5⟩ : ∃ q : Pl, q = { p with a9 := v0, a4 := v1, a10 := v2, a3 := v3, a11 := v4 } := ⟨_, rfl⟩
  obtain ⟨q6, hq6⟩ : ∃ q : Pl, q = { p with a9 := v0, a4 := v1, a10 := v2, a3 := v3, a11 := v4, a15 := wrap64 (40 * v5r) } := ⟨_, rfl⟩
  have c0 : ∀ W : World, Calls Try.prog 56 #[.agg (planC q0)] W fun e w' => e = .returned (.int .i64 v0) ∧ Below W.heap.size W w' := fun W => by rw [hq0]; exact plan_look_leastPi.calls p.a0 p.a1 p.a2 p.a3 p.a4 p.a5 p.a6 p.a7 p.a8 p.a9 p.a10 p.a11 p.a12 p.a13 p.a14 p.a15 _ W h0
  have c1 : ∀ W : World, Calls Try.prog 57 #[.agg (planC q1)] W fun e w' => e = .returned (.int .i64 v1) ∧ Below W.heap.size W w' := fun W => by rw [hq1]; exact plan_look_leastWindow.calls ({ p with a9 := v0 } : Pl).a0 ({ p with a9 := v0 } : Pl).a1 ({ p with a9 := v0 } : Pl).a2 ({ p with a9 := v0 } : Pl).a3 ({ p with a9 := v0 } : Pl).a4 ({ p with a9 := v0 } : Pl).a5 ({ p with a9 := v0 } : Pl).a6 ({ p with a9 := v0 } : Pl).a7 ({ p with a9 := v0 } : Pl).a8 ({ p with a9 := v0 } : Pl).a9 ({ p with a9 := v0 } : Pl).a10 ({ p with a9 := v0 } : Pl).a11 ({ p with a9 := v0 } : Pl).a12 ({ p with a9 := v0 } : Pl).a13 ({ p with a9 := v0 } : Pl).a14 ({ p with a9 := v0 } : Pl).a15 _ W h1
  have c2 : ∀ W : World, Calls Try.prog 58 #[.agg (planC q2)] W fun e w' => e = .returned (.int .i64 v2) ∧ Below W.heap.size W w' := fun W => by rw [hq2]; exact plan_look_leastCap.calls ({ p with a9 := v0, a4 := v1 } : Pl).a0 ({ p with a9 := v0, a4 := v1 } : Pl).a1 ({ p with a9 := v0, a4 := v1 } : Pl).a2 ({ p with a9 := v0, a4 := v1 } : Pl).a3 ({ p with a9 := v0, a4 := v1 } : Pl).a4 ({ p with a9 := v0, a4 := v1 } : Pl).a5 ({ p with a9 := v0, a4 := v1 } : Pl).a6 ({ p with a9 := v0, a4 := v1 } : Pl).a7 ({ p with a9 := v0, a4 := v1 } : Pl).a8 ({ p with a9 := v0, a4 := v1 } : Pl).a9 ({ p with a9 := v0, a4 := v1 } : Pl).a10 ({ p with a9 := v0, a4 := v1 } : Pl).a11 ({ p with a9 := v0, a4 := v1 } : Pl).a12 ({ p with a9 := v0, a4 := v1 } : Pl).a13 ({ p with a9 := v0, a4 := v1 } : Pl).a14 ({ p with a9 := v0, a4 := v1 } : Pl).a15 _ W h2
  have c3 : ∀ W : World, Calls Try.prog 59 #[.agg (planC q3)] W fun e w' => e = .returned (.int .i64 v3) ∧ Below W.heap.size W w' := fun W => by rw [hq3]; exact plan_look_leastOff.calls ({ p with a9 := v0, a4 := v1, a10 := v2 } : Pl).a0 ({ p with a9 := v0, a4 := v1, a10 := v2 } : Pl).a1 ({ p with a9 := v0, a4 := v1, a10 := v2 } : Pl).a2 ({ p with a9 := v0, a4 := v1, a10 := v2 } : Pl).a3 ({ p with a9 := v0, a4 := v1, a10 := v2 } : Pl).a4 ({ p with a9 := v0, a4 := v1, a10 := v2 } : Pl).a5 ({ p with a9 := v0, a4 := v1, a10 := v2 } : Pl).a6 ({ p with a9 := v0, a4 := v1, a10 := v2 } : Pl).a7 ({ p with a9 := v0, a4 := v1, a10 := v2 } : Pl).a8 ({ p with a9 := v0, a4 := v1, a10 := v2 } : Pl).a9 ({ p with a9 := v0, a4 := v1, a10 := v2 } : Pl).a10 ({ p with a9 := v0, a4 := v1, a10 := v2 } : Pl).a11 ({ p with a9 := v0, a4 := v1, a10 := v2 } : Pl).a12 ({ p with a9 := v0, a4 := v1, a10 := v2 } : Pl).a13 ({ p with a9 := v0, a4 := v1, a10 := v2 } : Pl).a14 ({ p with a9 := v0, a4 := v1, a10 := v2 } : Pl).a15 _ W h3
  have c4 : ∀ W : World, Calls Try.prog 60 #[.agg (planC q4)] W fun e w' => e = .returned (.int .i64 v4) ∧ Below W.heap.size W w' := fun W => by rw [hq4]; exact plan_look_leastDelta.calls ({ p with a9 := v0, a4 := v1, a10 := v2, a3 := v3 } : Pl).a0 ({ p with a9 := v0, a4 := v1, a10 := v2, a3 := v3 } : Pl).a1 ({ p with a9 := v0, a4 := v1, a10 := v2, a3 := v3 } : Pl).a2 ({ p with a9 := v0, a4 := v1, a10 := v2, a3 := v3 } : Pl).a3 ({ p with a9 := v0, a4 := v1, a10 := v2, a3 := v3 } : Pl).a4 ({ p with a9 := v0, a4 := v1, a10 := v2, a3 := v3 } : Pl).a5 ({ p with a9 := v0, a4 := v1, a10 := v2, a3 := v3 } : Pl).a6 ({ p with a9 := v0, a4 := v1, a10 := v2, a3 := v3 } : Pl).a7 ({ p with a9 := v0, a4 := v1, a10 := v2, a3 := v3 } : Pl).a8 ({ p with a9 := v0, a4 := v1, a10 := v2, a3 := v3 } : Pl).a9 ({ p with a9 := v0, a4 := v1, a10 := v2, a3 := v3 } : Pl).a10 ({ p with a9 := v0, a4 := v1, a10 := v2, a3 := v3 } : Pl).a11 ({ p with a9 := v0, a4 := v1, a10 := v2, a3 := v3 } : Pl).a12 ({ p with a9 := v0, a4 := v1, a10 := v2, a3 := v3 } : Pl).a13 ({ p with a9 := v0, a4 := v1, a10 := v2, a3 := v3 } : Pl).a14 ({ p with a9 := v0, a4 := v1, a10 := v2, a3 := v3 } : Pl).a15 _ W h4
  have c5 : ∀ W : World, Calls Try.prog 61 #[.agg (planC q5)] W fun e w' => e = .returned (.int .i64 v5r) ∧ Below W.heap.size W w' := fun W => by rw [hq5]; exact plan_look_round.calls ({ p with a9 := v0, a4 := v1, a10 := v2, a3 := v3, a11 := v4 } : Pl).a0 ({ p with a9 := v0, a4 := v1, a10 := v2, a3 := v3, a11 := v4 } : Pl).a1 ({ p with a9 := v0, a4 := v1, a10 := v2, a3 := v3, a11 := v4 } : Pl).a2 ({ p with a9 := v0, a4 := v1, a10 := v2, a3 := v3, a11 := v4 } : Pl).a3 ({ p with a9 := v0, a4 := v1, a10 := v2, a3 := v3, a11 := v4 } : Pl).a4 ({ p with a9 := v0, a4 := v1, a10 := v2, a3 := v3, a11 := v4 } : Pl).a5 ({ p with a9 := v0, a4 := v1, a10 := v2, a3 := v3, a11 := v4 } : Pl).a6 ({ p with a9 := v0, a4 := v1, a10 := v2, a3 := v3, a11 := v4 } : Pl).a7 ({ p with a9 := v0, a4 := v1, a10 := v2, a3 := v3, a11 := v4 } : Pl).a8 ({ p with a9 := v0, a4 := v1, a10 := v2, a3 := v3, a11 := v4 } : Pl).a9 ({ p with a9 := v0, a4 := v1, a10 := v2, a3 := v3, a11 := v4 } : Pl).a10 ({ p with a9 := v0, a4 := v1, a10 := v2, a3 := v3, a11 := v4 } : Pl).a11 ({ p with a9 := v0, a4 := v1, a10 := v2, a3 := v3, a11 := v4 } : Pl).a12 ({ p with a9 := v0, a4 := v1, a10 := v2, a3 := v3, a11 := v4 } : Pl).a13 ({ p with a9 := v0, a4 := v1, a10 := v2, a3 := v3, a11 := v4 } : Pl).a14 ({ p with a9 := v0, a4 := v1, a10 := v2, a3 := v3, a11 := v4 } : Pl).a15 _ W h5
  have e0 : (planC q0).setIfInBounds 9 (.int .i64 v0) = planC q1 := by rw [hq0, hq1]; rfl
  have s0 := planC_size q0
  have t0 := take16 q0
  have e1 : (planC q1).setIfInBounds 4 (.int .i64 v1) = planC q2 := by rw [hq1, hq2]; rfl
  have s1 := planC_size q1
  have t1 := take16 q1
  have e2 : (planC q2).setIfInBounds 10 (.int .i64 v2) = planC q3 := by rw [hq2, hq3]; rfl
  have s2 := planC_size q2
  have t2 := take16 q2
  have e3 : (planC q3).setIfInBounds 3 (.int .i64 v3) = planC q4 := by rw [hq3, hq4]; rfl
  have s3 := planC_size q3
  have t3 := take16 q3
  have e4 : (planC q4).setIfInBounds 11 (.int .i64 v4) = planC q5 := by rw [hq4, hq5]; rfl
  have s4 := planC_size q4
  have t4 := take16 q4
  have e5 : (planC q5).setIfInBounds 15 (.int .i64 (wrap64 (40 * v5r))) = planC q6 := by rw [hq5, hq6]; rfl
  have s5 := planC_size q5
  have t5 := take16 q5
  rw [← hq6]
  have HA : w.heap[g]? = some (.cells (planC q0) 72 (0, 0)) := by rw [hq0]; exact hg
  clear h0 h1 h2 h3 h4 h5 hq0 hq1 hq2 hq3 hq4 hq5 hq6 hg
  have HG : w.grownBy w (some g) := World.grownBy.refl w _
  have hgl : g < w.heap.size := blk_lt HA
  go_enter Try.func38, Try.ntmps38
  have hcn := Lib.hid (blk_cell HA 0)
  have hnil : w.cell? ⟨g, 0, none⟩ = some (.int .i64 q0.a0) := hcn.out
  go_upto_region 1 with (first | (refine wpList_load_blk rfl 72 _ rfl g 0 16 rfl HA (by rw [s0]; omega) _ under_look row_look size_look ?_; rw [t0]) | (go_at_call 56; refine (c0 _).mono ?_; rintro e w0 ⟨rfl, hb0⟩; have HB0 := blk_below HA hb0; have hc0 := blk_cell HB0 9; have hf0 := blk_frozen HB0 9; have hn0 := blk_cell HB0 0; replace hn0 : w0.cell? ⟨g, 0, none⟩ = some (.int .i64 q0.a0) := hn0; replace hc0 : w0.cell? ⟨g, 9, none⟩ = some (.int .i64 q0.a9) := hc0))
  have HC0 := blk_set HB0 9 (.int .i64 v0)
  rw [e0] at HC0
  have HH0 : w.grownBy (w0.setCell ⟨g, 9, none⟩ (.int .i64 v0)) (some g) := (HG.trans (⟨hb0.os, hb0.tape, hb0.output, hb0.size, fun i hi _ => hb0.block i hi⟩ : World.grownBy _ w0 (some g))).trans ⟨rfl, rfl, rfl, by simp [World.setCell], fun i _ hne => Below.heap_setCell w0 ⟨g, 9, none⟩ _ i (fun q => hne (by rw [q]))⟩
  generalize w0.setCell ⟨g, 9, none⟩ (.int .i64 v0) = W0 at HC0 HH0 ⊢
  have hnil0 : W0.cell? ⟨g, 0, none⟩ = some (.int .i64 q1.a0) := blk_cell HC0 0
  clear HA HG hb0 HB0 hc0 hf0 hn0
  have HA := HC0
  have HG := HH0
  clear HC0 HH0
  go_upto_region 2 with (first | (refine wpList_load_blk rfl 72 _ rfl g 0 16 rfl HA (by rw [s1]; omega) _ under_look row_look size_look ?_; rw [t1]) | (go_at_call 57; refine (c1 _).mono ?_; rintro e w1 ⟨rfl, hb1⟩; have HB1 := blk_below HA hb1; have hc1 := blk_cell HB1 4; have hf1 := blk_frozen HB1 4; have hn1 := blk_cell HB1 0; replace hn1 : w1.cell? ⟨g, 0, none⟩ = some (.int .i64 q1.a0) := hn1; replace hc1 : w1.cell? ⟨g, 4, none⟩ = some (.int .i64 q1.a4) := hc1))
  have HC1 := blk_set HB1 4 (.int .i64 v1)
  rw [e1] at HC1
  have HH1 : w.grownBy (w1.setCell ⟨g, 4, none⟩ (.int .i64 v1)) (some g) := (HG.trans (⟨hb1.os, hb1.tape, hb1.output, hb1.size, fun i hi _ => hb1.block i hi⟩ : World.grownBy _ w1 (some g))).trans ⟨rfl, rfl, rfl, by simp [World.setCell], fun i _ hne => Below.heap_setCell w1 ⟨g, 4, none⟩ _ i (fun q => hne (by rw [q]))⟩
  generalize w1.setCell ⟨g, 4, none⟩ (.int .i64 v1) = W1 at HC1 HH1 ⊢
  have hnil1 : W1.cell? ⟨g, 0, none⟩ = some (.int .i64 q2.a0) := blk_cell HC1 0
  clear HA HG hb1 HB1 hc1 hf1 hn1
  have HA := HC1
  have HG := HH1
  clear HC1 HH1
  go_upto_region 3 with (first | (refine wpList_load_blk rfl 72 _ rfl g 0 16 rfl HA (by rw [s2]; omega) _ under_look row_look size_look ?_; rw [t2]) | (go_at_call 58; refine (c2 _).mono ?_; rintro e w2 ⟨rfl, hb2⟩; have HB2 := blk_below HA hb2; have hc2 := blk_cell HB2 10; have hf2 := blk_frozen HB2 10; have hn2 := blk_cell HB2 0; replace hn2 : w2.cell? ⟨g, 0, none⟩ = some (.int .i64 q2.a0) := hn2; replace hc2 : w2.cell? ⟨g, 10, none⟩ = some (.int .i64 q2.a10) := hc2))
  have HC2 := blk_set HB2 10 (.int .i64 v2)
  rw [e2] at HC2
  have HH2 : w.grownBy (w2.setCell ⟨g, 10, none⟩ (.int .i64 v2)) (some g) := (HG.trans (⟨hb2.os, hb2.tape, hb2.output, hb2.size, fun i hi _ => hb2.block i hi⟩ : World.grownBy _ w2 (some g))).trans ⟨rfl, rfl, rfl, by simp [World.setCell], fun i _ hne => Below.heap_setCell w2 ⟨g, 10, none⟩ _ i (fun q => hne (by rw [q]))⟩
  generalize w2.setCell ⟨g, 10, none⟩ (.int .i64 v2) = W2 at HC2 HH2 ⊢
  have hnil2 : W2.cell? ⟨g, 0, none⟩ = some (.int .i64 q3.a0) := blk_cell HC2 0
  clear HA HG hb2 HB2 hc2 hf2 hn2
  have HA := HC2
  have HG := HH2
  clear HC2 HH2
  go_upto_region 4 with (first | (refine wpList_load_blk rfl 72 _ rfl g 0 16 rfl HA (by rw [s3]; omega) _ under_look row_look size_look ?_; rw [t3]) | (go_at_call 59; refine (c3 _).mono ?_; rintro e w3 ⟨rfl, hb3⟩; have HB3 := blk_below HA hb3; have hc3 := blk_cell HB3 3; have hf3 := blk_frozen HB3 3; have hn3 := blk_cell HB3 0; replace hn3 : w3.cell? ⟨g, 0, none⟩ = some (.int .i64 q3.a0) := hn3; replace hc3 : w3.cell? ⟨g, 3, none⟩ = some (.int .i64 q3.a3) := hc3))
  have HC3 := blk_set HB3 3 (.int .i64 v3)
  rw [e3] at HC3
  have HH3 : w.grownBy (w3.setCell ⟨g, 3, none⟩ (.int .i64 v3)) (some g) := (HG.trans (⟨hb3.os, hb3.tape, hb3.output, hb3.size, fun i hi _ => hb3.block i hi⟩ : World.grownBy _ w3 (some g))).trans ⟨rfl, rfl, rfl, by simp [World.setCell], fun i _ hne => Below.heap_setCell w3 ⟨g, 3, none⟩ _ i (fun q => hne (by rw [q]))⟩
  generalize w3.setCell ⟨g, 3, none⟩ (.int .i64 v3) = W3 at HC3 HH3 ⊢
  have hnil3 : W3.cell? ⟨g, 0, none⟩ = some (.int .i64 q4.a0) := blk_cell HC3 0
  clear HA HG hb3 HB3 hc3 hf3 hn3
  have HA := HC3
  have HG := HH3
  clear HC3 HH3
  go_upto_region 5 with (first | (refine wpList_load_blk rfl 72 _ rfl g 0 16 rfl HA (by rw [s4]; omega) _ under_look row_look size_look ?_; rw [t4]) | (go_at_call 60; refine (c4 _).mono ?_; rintro e w4 ⟨rfl, hb4⟩; have HB4 := blk_below HA hb4; have hc4 := blk_cell HB4 11; have hf4 := blk_frozen HB4 11; have hn4 := blk_cell HB4 0; replace hn4 : w4.cell? ⟨g, 0, none⟩ = some (.int .i64 q4.a0) := hn4; replace hc4 : w4.cell? ⟨g, 11, none⟩ = some (.int .i64 q4.a11) := hc4))
  have HC4 := blk_set HB4 11 (.int .i64 v4)
  rw [e4] at HC4
  have HH4 : w.grownBy (w4.setCell ⟨g, 11, none⟩ (.int .i64 v4)) (some g) := (HG.trans (⟨hb4.os, hb4.tape, hb4.output, hb4.size, fun i hi _ => hb4.block i hi⟩ : World.grownBy _ w4 (some g))).trans ⟨rfl, rfl, rfl, by simp [World.setCell], fun i _ hne => Below.heap_setCell w4 ⟨g, 11, none⟩ _ i (fun q => hne (by rw [q]))⟩
  generalize w4.setCell ⟨g, 11, none⟩ (.int .i64 v4) = W4 at HC4 HH4 ⊢
  have hnil4 : W4.cell? ⟨g, 0, none⟩ = some (.int .i64 q5.a0) := blk_cell HC4 0
  clear HA HG hb4 HB4 hc4 hf4 hn4
  have HA := HC4
  have HG := HH4
  clear HC4 HH4
  go_wp2_with (first | (refine wpList_load_blk rfl 72 _ rfl g 0 16 rfl HA (by rw [s5]; omega) _ under_look row_look size_look ?_; rw [t5]) | (go_at_call 61; refine (c5 _).mono ?_; rintro e w5 ⟨rfl, hb5⟩; have HB5 := blk_below HA hb5; have hc5 := blk_cell HB5 15; have hf5 := blk_frozen HB5 15; have hn5 := blk_cell HB5 0; replace hn5 : w5.cell? ⟨g, 0, none⟩ = some (.int .i64 q5.a0) := hn5; replace hc5 : w5.cell? ⟨g, 15, none⟩ = some (.int .i64 q5.a15) := hc5))
  have HC5 := blk_set HB5 15 (.int .i64 (wrap64 (40 * v5r)))
  rw [e5] at HC5
  have HH5 : w.grownBy (w5.setCell ⟨g, 15, none⟩ (.int .i64 (wrap64 (40 * v5r)))) (some g) := (HG.trans (⟨hb5.os, hb5.tape, hb5.output, hb5.size, fun i hi _ => hb5.block i hi⟩ : World.grownBy _ w5 (some g))).trans ⟨rfl, rfl, rfl, by simp [World.setCell], fun i _ hne => Below.heap_setCell w5 ⟨g, 15, none⟩ _ i (fun q => hne (by rw [q]))⟩
  go_end0
  exact ⟨rfl, HC5, HH5⟩
end Go.Proofs.Ytnmephdamgofnaa.Hand
