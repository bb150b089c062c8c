/- plan.Fit at the chapter's wishes, by hand: the whole. -/
import Derived.Test.YtnmephdamgofnaaHandFit
import Derived.Deep.RegionHeld3
import Derived.Deep.DrawnRows
set_option linter.unusedVariables false
set_option linter.unusedSimpArgs false
namespace Go.Proofs.Ytnmephdamgofnaa.Hand
open Go.RowKit Go.Shelf Go.Proofs.Ytnmephdamgofnaa.PA Go.Proofs.YtnmephdamgofnaaW.PrintWords Go.Proofs.YtnmephdamgofnaaW.PrintMore

def wishP : Pl := ⟨4, 1, 0, 0, 0, 1, 1, 3, 100000, 0, 0, 0, 2, 1, 4, 0⟩
def zeroP : Pl := ⟨0, 0, 0, 0, 0, 0, 0, 0, 0, 0, 0, 0, 0, 0, 0, 0⟩
def fitP0 : Pl := ⟨4, 1, 1, 0, 0, 1, 1, 3, 100000, 0, 0, 0, 2, 1, 4, 0⟩
def fitP1 : Pl := ⟨4, 1, 1, 248, 96, 1, 1, 3, 100000, 88, 64, 196, 2, 1, 4, 160⟩
def fitP1' : Pl := { fitP1 with a2 := 512 }
def fitP2 : Pl := ⟨4, 1, 512, 248, 96, 1, 1, 3, 100000, 88, 64, 10416, 2, 1, 4, 81920⟩
theorem under_plan : Try.prog.underlying 23 = some (match Try.prog.underlying 23 with | some d => d | none => .string) := by kernel_rfl
theorem row_plan : (match Try.prog.underlying 23 with | some d => d | none => .string).isRow = true := by kernel_rfl
theorem size_plan : (Try.prog.info? 23).map (·.size) = some 16 := by kernel_rfl
theorem fit_known : condO fitP0 1 = some true ∧ condO fitP0 2 = some true ∧ condO fitP0 3 = some true ∧ condO fitP0 9 = some true := by decide +kernel
theorem fit_end : failsC (condO fitP2) 11 1 = some 0 := by decide +kernel
theorem least_0 (g : Nat) (w : World) (hg : w.heap[g]? = some (.cells (planC fitP0) 72 (0, 0))) : Calls Try.prog 38 #[.pointer (some ⟨g, 0, none⟩)] w fun e w' => e = .returned (.tuple #[]) ∧ w'.heap[g]? = some (.cells (planC fitP1) 72 (0, 0)) ∧ w.grownBy w' (some g) :=
  (least_core g fitP0 88 96 64 248 196 4 (by decide +kernel) (by decide +kernel) (by decide +kernel) (by decide +kernel) (by decide +kernel) (by decide +kernel) w hg).mono fun e w' ⟨ha, hb, hc⟩ => ⟨ha, by rw [show wrap64 (40 * 4) = 160 by decide +kernel] at hb; exact hb, hc⟩
theorem least_1 (g : Nat) (w : World) (hg : w.heap[g]? = some (.cells (planC fitP1') 72 (0, 0))) : Calls Try.prog 38 #[.pointer (some ⟨g, 0, none⟩)] w fun e w' => e = .returned (.tuple #[]) ∧ w'.heap[g]? = some (.cells (planC fitP2) 72 (0, 0)) ∧ w.grownBy w' (some g) :=
  (least_core g fitP1' 88 96 64 248 10416 2048 (by decide +kernel) (by decide +kernel) (by decide +kernel) (by decide +kernel) (by decide +kernel) (by decide +kernel) w hg).mono fun e w' ⟨ha, hb, hc⟩ => ⟨ha, by rw [show wrap64 (40 * 2048) = 81920 by decide +kernel] at hb; exact hb, hc⟩
theorem slot_1 (w : World) : Calls Try.prog 39 #[.agg (planC fitP1)] w fun e w' => e = .returned (.int .i64 512) ∧ Below w.heap.size w w' := plan_look_leastSlot.calls fitP1.a0 fitP1.a1 fitP1.a2 fitP1.a3 fitP1.a4 fitP1.a5 fitP1.a6 fitP1.a7 fitP1.a8 fitP1.a9 fitP1.a10 fitP1.a11 fitP1.a12 fitP1.a13 fitP1.a14 fitP1.a15 512 w (by decide +kernel)
theorem slot_2 (w : World) : Calls Try.prog 39 #[.agg (planC fitP2)] w fun e w' => e = .returned (.int .i64 512) ∧ Below w.heap.size w w' := plan_look_leastSlot.calls fitP2.a0 fitP2.a1 fitP2.a2 fitP2.a3 fitP2.a4 fitP2.a5 fitP2.a6 fitP2.a7 fitP2.a8 fitP2.a9 fitP2.a10 fitP2.a11 fitP2.a12 fitP2.a13 fitP2.a14 fitP2.a15 512 w (by decide +kernel)
attribute [local go_sem ↓] Go.wp_at_zero Go.wp_at_succ
theorem fb_refl (w : World) : w.grownBy w none := World.grownBy.refl w none
theorem fb_drew {a w : World} (h : a.grownBy w none) : a.grownBy w.drew none := ⟨h.os, h.tape, h.output, h.size, h.block⟩
theorem fb_below {a w w' : World} (h : a.grownBy w none) (hb : Below w.heap.size w w') : a.grownBy w' none :=
  ⟨hb.os.trans h.os, hb.tape.trans h.tape, hb.output.trans h.output, Nat.le_trans h.size hb.size, fun i hi hne => (hb.block i (Nat.lt_of_lt_of_le hi h.size)).trans (h.block i hi hne)⟩
theorem planC_one (p : Pl) : (planC p).all (·.oneCell') = true := by simp [planC, Value.oneCell']
set_option maxRecDepth 100000 in
set_option maxHeartbeats 4000000 in
theorem fit_core (w : World) : Calls Try.prog 27 #[.agg (planC wishP)] w fun e w' => e = .returned (.tuple #[.agg (planC fitP2), .int .i64 0]) ∧ Below w.heap.size w w' := by
  go_enter Try.func27, Try.ntmps27
  go_upto_region 1 with fail
  obtain ⟨V, hV⟩ : ∃ V, (w.alloc (.cells (planC wishP) 23)).alloc (.cells #[.int .i64 0, .int .i64 0, .int .i64 0, .int .i64 0, .int .i64 0, .int .i64 0, .int .i64 0, .int .i64 0, .int .i64 0, .int .i64 0, .int .i64 0, .int .i64 0, .int .i64 0, .int .i64 0, .int .i64 0, .int .i64 0] 23) = V := ⟨_, rfl⟩
  have H1 : V.heap[w.heap.size]? = some (.cells (planC wishP) 23 (0, 0)) := by rw [← hV]; exact blk_alloc (blk_new _ _) _
  have H2 : V.heap[w.heap.size + 1]? = some (.cells (planC zeroP) 23 (0, 0)) := by rw [← hV]; have := blk_new (w.alloc (.cells (planC wishP) 23)) (.cells #[.int .i64 0, .int .i64 0, .int .i64 0, .int .i64 0, .int .i64 0, .int .i64 0, .int .i64 0, .int .i64 0, .int .i64 0, .int .i64 0, .int .i64 0, .int .i64 0, .int .i64 0, .int .i64 0, .int .i64 0, .int .i64 0] 23); rwa [World.size_alloc] at this
  have HB : Below w.heap.size w V := by rw [← hV]; exact ((Below.refl _ w).alloc (Nat.le_refl _) _).alloc (by simp) _
  have HS : V.heap.size = w.heap.size + 2 := by rw [← hV]; simp
  rw [hV]
  have H3 : (V.alloc (.cells #[.int .i64 0, .int .i64 0, .int .i64 0, .int .i64 0, .int .i64 0, .int .i64 0, .int .i64 0, .int .i64 0, .int .i64 0, .int .i64 0, .int .i64 0, .int .i64 0, .int .i64 0, .int .i64 0, .int .i64 0, .int .i64 0] 23)).heap[w.heap.size + 2]? = some (.cells (planC zeroP) 23 (0, 0)) := by have := blk_new V (.cells #[.int .i64 0, .int .i64 0, .int .i64 0, .int .i64 0, .int .i64 0, .int .i64 0, .int .i64 0, .int .i64 0, .int .i64 0, .int .i64 0, .int .i64 0, .int .i64 0, .int .i64 0, .int .i64 0, .int .i64 0, .int .i64 0] 23); rwa [HS] at this
  clear hV
  go_upto_region 2 with (first
    | (refine wpList_load_blk rfl 23 _ rfl w.heap.size 0 16 rfl H1 (by rw [planC_size]; omega) _ under_plan row_plan size_plan ?_; rw [take16])
    | (refine wpList_store_blk rfl 23 _ _ rfl (w.heap.size + 2) 0 (planC wishP) rfl rfl H3 (by rw [planC_size, planC_size]; omega) size_plan (planC_one _) ?_; intro W1 hw1 hg1))
  have H4 : W1.heap[w.heap.size + 2]? = some (.cells (planC wishP) 23 (0, 0)) := hw1
  have H5 : W1.heap[w.heap.size + 1]? = some (.cells (planC zeroP) 23 (0, 0)) := blk_grown (blk_alloc H2 _) hg1 (by simp)
  have HB1 : Below w.heap.size w W1 := (HB.alloc (by omega) _).grown hg1 (by simp; omega) (fun j q => by injection q with q; omega)
  have HS1 : w.heap.size + 3 ≤ W1.heap.size := by have := hg1.size; simp at this; omega
  clear hw1 hg1 H1 H2 H3 HB HS
  have c0 : W1.cell? ⟨w.heap.size + 2, 0, none⟩ = some (.int .i64 4) := blk_cell H4 0
  have c1 : W1.cell? ⟨w.heap.size + 2, 1, none⟩ = some (.int .i64 1) := blk_cell H4 1
  have c5 : W1.cell? ⟨w.heap.size + 2, 5, none⟩ = some (.int .i64 1) := blk_cell H4 5
  have c6 : W1.cell? ⟨w.heap.size + 2, 6, none⟩ = some (.int .i64 1) := blk_cell H4 6
  have c7 : W1.cell? ⟨w.heap.size + 2, 7, none⟩ = some (.int .i64 3) := blk_cell H4 7
  have c8 : W1.cell? ⟨w.heap.size + 2, 8, none⟩ = some (.int .i64 100000) := blk_cell H4 8
  have c12 : W1.cell? ⟨w.heap.size + 2, 12, none⟩ = some (.int .i64 2) := blk_cell H4 12
  have c13 : W1.cell? ⟨w.heap.size + 2, 13, none⟩ = some (.int .i64 1) := blk_cell H4 13
  have c14 : W1.cell? ⟨w.heap.size + 2, 14, none⟩ = some (.int .i64 4) := blk_cell H4 14
  go_upto_region 3 with fail
  obtain ⟨V2, hV2⟩ : ∃ V2, W1.alloc (.cells #[.int .i64 4, .int .i64 1, .int .i64 1, .int .i64 0, .int .i64 0, .int .i64 1, .int .i64 1, .int .i64 3, .int .i64 100000, .int .i64 0, .int .i64 0, .int .i64 0, .int .i64 2, .int .i64 1, .int .i64 4, .int .i64 0] 72) = V2 := ⟨_, rfl⟩
  have G1 : V2.heap[W1.heap.size]? = some (.cells (planC fitP0) 72 (0, 0)) := by rw [← hV2]; exact blk_new _ _
  have H6 : V2.heap[w.heap.size + 1]? = some (.cells (planC zeroP) 23 (0, 0)) := by rw [← hV2]; exact blk_alloc H5 _
  have HB2 : Below w.heap.size w V2 := by rw [← hV2]; exact HB1.alloc (by omega) _
  rw [hV2]
  generalize W1.heap.size = B at G1 HS1 ⊢
  clear hV2 H4 H5 HB1 c0 c1 c5 c6 c7 c8 c12 c13 c14
  have kn := known_yes fitP0 fit_known.1 fit_known.2.1 fit_known.2.2.1
  have qu : ∀ W : World, Calls Try.prog 37 #[.agg (planC fitP0)] W fun e w' => e = .returned (.bool true) ∧ Below W.heap.size W w' := fun W => ((conds_at fitP0) 9 (by omega) (by omega)).2 true W fit_known.2.2.2
  go_upto_region 5 with (first
    | (refine wpList_load_blk rfl 72 _ rfl B 0 16 rfl G1 (by rw [planC_size]; omega) _ under_look row_look size_look ?_; rw [take16])
    | (go_at_call 36; refine (kn _).mono ?_; rintro e W3 ⟨rfl, hb3⟩; have G2 := blk_below G1 hb3)
    | (refine gate_guard (by rfl) ?_; refine wpList_load_blk rfl 72 _ rfl B 0 16 rfl G2 (by rw [planC_size]; omega) _ under_look row_look size_look ?_; rw [take16])
    | (go_at_call 37; refine (qu _).mono ?_; rintro e W4 ⟨rfl, hb4⟩; have G3 := blk_below G2 hb4))
  have H7 := blk_below (blk_below H6 hb3) hb4
  have HB4 : Below w.heap.size w W4 := trans_below (trans_below HB2 (by have := HB2.size; omega) hb3) (by have := HB2.size; have := hb3.size; omega) hb4
  clear kn qu G1 G2 H6 hb3 hb4 HB2
  go_wp2_with (first
    | (go_at_call 38; refine (least_0 B _ G3).mono ?_; rintro e W5 ⟨rfl, G5, hg5⟩))
  have H8 := blk_grown H7 hg5 (by simp; omega)
  have HB5 : Below w.heap.size w W5 := HB4.grown hg5 HB4.size (fun j q => by injection q with q; omega)
  obtain ⟨fs, hfs⟩ : ∃ fs, Try.prog.underlying 72 = some (.struct fs) := ⟨_, rfl⟩
  have hsz : (Try.prog.info? 72).map (·.size) = some (planC fitP1).toList.length := size_look
  have hsz2 : (Try.prog.info? 72).map (·.size) = some (planC fitP2).toList.length := size_look
  refine wp_loop_rounds 2 ?_
  rw [rounds_succ]
  go_wp2_with fail
  have HKS5 : Hid (∀ w', W5.grownBy w' none → w'.cell? ⟨B, 0, none⟩ = some (.int .i64 4) ∧ w'.cell? ⟨B, 1, none⟩ = some (.int .i64 1) ∧ w'.cell? ⟨B, 2, none⟩ = some (.int .i64 1) ∧ w'.cell? ⟨B, 3, none⟩ = some (.int .i64 248) ∧ w'.cell? ⟨B, 4, none⟩ = some (.int .i64 96) ∧ w'.cell? ⟨B, 5, none⟩ = some (.int .i64 1) ∧ w'.cell? ⟨B, 6, none⟩ = some (.int .i64 1) ∧ w'.cell? ⟨B, 7, none⟩ = some (.int .i64 3) ∧ w'.cell? ⟨B, 8, none⟩ = some (.int .i64 100000) ∧ w'.cell? ⟨B, 9, none⟩ = some (.int .i64 88) ∧ w'.cell? ⟨B, 10, none⟩ = some (.int .i64 64) ∧ w'.cell? ⟨B, 11, none⟩ = some (.int .i64 196) ∧ w'.cell? ⟨B, 12, none⟩ = some (.int .i64 2) ∧ w'.cell? ⟨B, 13, none⟩ = some (.int .i64 1) ∧ w'.cell? ⟨B, 14, none⟩ = some (.int .i64 4) ∧ w'.cell? ⟨B, 15, none⟩ = some (.int .i64 160)) := Lib.hid fun w' hg => by
    have h := blk_grown G5 hg (by simp)
    exact ⟨blk_cell h 0, blk_cell h 1, blk_cell h 2, blk_cell h 3, blk_cell h 4, blk_cell h 5, blk_cell h 6, blk_cell h 7, blk_cell h 8, blk_cell h 9, blk_cell h 10, blk_cell h 11, blk_cell h 12, blk_cell h 13, blk_cell h 14, blk_cell h 15⟩
  go_region_held3 (fun w' => w'.cell? ⟨B, 0, none⟩ = some (.int .i64 4) ∧ w'.cell? ⟨B, 1, none⟩ = some (.int .i64 1) ∧ w'.cell? ⟨B, 2, none⟩ = some (.int .i64 1) ∧ w'.cell? ⟨B, 3, none⟩ = some (.int .i64 248) ∧ w'.cell? ⟨B, 4, none⟩ = some (.int .i64 96) ∧ w'.cell? ⟨B, 5, none⟩ = some (.int .i64 1) ∧ w'.cell? ⟨B, 6, none⟩ = some (.int .i64 1) ∧ w'.cell? ⟨B, 7, none⟩ = some (.int .i64 3) ∧ w'.cell? ⟨B, 8, none⟩ = some (.int .i64 100000) ∧ w'.cell? ⟨B, 9, none⟩ = some (.int .i64 88) ∧ w'.cell? ⟨B, 10, none⟩ = some (.int .i64 64) ∧ w'.cell? ⟨B, 11, none⟩ = some (.int .i64 196) ∧ w'.cell? ⟨B, 12, none⟩ = some (.int .i64 2) ∧ w'.cell? ⟨B, 13, none⟩ = some (.int .i64 1) ∧ w'.cell? ⟨B, 14, none⟩ = some (.int .i64 4) ∧ w'.cell? ⟨B, 15, none⟩ = some (.int .i64 160))
    ((refine HKS5.out _ ?_; first | assumption | exact fb_drew (fb_refl _)))
    (first | (go_at_call 39; refine (slot_1 _).mono ?_; rintro e W6 ⟨rfl, hb5⟩; have hG5 := fb_below (fb_drew (fb_refl W5)) hb5))
  have G6 := blk_grown G5 hG5 (by simp)
  have H9 := blk_grown H8 hG5 (by simp)
  have HB6 : Below w.heap.size w W6 := HB5.grown hG5 HB5.size (fun j q => by cases q)
  clear HKS5 hb5 hG5 G5 H8 HB5 hsz hsz2 hfs
  go_upto_region 9 with (first
    | (refine wpList_load_blk rfl 72 _ rfl B 0 16 rfl G6 (by rw [planC_size]; omega) _ under_look row_look size_look ?_; rw [take16])
    | (go_at_call 39; refine (slot_1 _).mono ?_; rintro e W7 ⟨rfl, hb7⟩; have G7 := blk_below G6 hb7; have c7 := blk_cell G7 2; have n7 := blk_cell G7 0; replace c7 : W7.cell? ⟨B, 2, none⟩ = some (.int .i64 1) := c7; replace n7 : W7.cell? ⟨B, 0, none⟩ = some (.int .i64 4) := n7; have f7 := blk_frozen G7 2))
  have G8 : (W7.setCell ⟨B, 2, none⟩ (.int .i64 512)).heap[B]? = some (.cells (planC fitP1') 72 (0, 0)) := blk_set G7 2 (.int .i64 512)
  have H10 : (W7.setCell ⟨B, 2, none⟩ (.int .i64 512)).heap[w.heap.size + 1]? = some (.cells (planC zeroP) 23 (0, 0)) := blk_far (blk_below H9 hb7) (by simp; omega) _
  have HB8 : Below w.heap.size w (W7.setCell ⟨B, 2, none⟩ (.int .i64 512)) := (trans_below HB6 HB6.size hb7).setCell (by show w.heap.size ≤ B; omega) _
  generalize W7.setCell ⟨B, 2, none⟩ (.int .i64 512) = W8 at G8 H10 HB8 ⊢
  have c8 : W8.cell? ⟨B, 2, none⟩ = some (.int .i64 512) := blk_cell G8 2
  have n8 : W8.cell? ⟨B, 0, none⟩ = some (.int .i64 4) := blk_cell G8 0
  clear G6 H9 HB6 hb7 G7 c7 n7 f7
  go_wp2_with (first
    | (go_at_call 38; refine (least_1 B _ G8).mono ?_; rintro e W9 ⟨rfl, G9, hg9⟩))
  have H11 := blk_grown H10 hg9 (by simp; omega)
  have HB9 : Below w.heap.size w W9 := HB8.grown hg9 HB8.size (fun j q => by injection q with q; omega)
  clear G8 H10 HB8 c8 n8
  rw [rounds_succ]
  go_wp2_with fail
  have HKS9 : Hid (∀ w', W9.grownBy w' none → w'.cell? ⟨B, 0, none⟩ = some (.int .i64 4) ∧ w'.cell? ⟨B, 1, none⟩ = some (.int .i64 1) ∧ w'.cell? ⟨B, 2, none⟩ = some (.int .i64 512) ∧ w'.cell? ⟨B, 3, none⟩ = some (.int .i64 248) ∧ w'.cell? ⟨B, 4, none⟩ = some (.int .i64 96) ∧ w'.cell? ⟨B, 5, none⟩ = some (.int .i64 1) ∧ w'.cell? ⟨B, 6, none⟩ = some (.int .i64 1) ∧ w'.cell? ⟨B, 7, none⟩ = some (.int .i64 3) ∧ w'.cell? ⟨B, 8, none⟩ = some (.int .i64 100000) ∧ w'.cell? ⟨B, 9, none⟩ = some (.int .i64 88) ∧ w'.cell? ⟨B, 10, none⟩ = some (.int .i64 64) ∧ w'.cell? ⟨B, 11, none⟩ = some (.int .i64 10416) ∧ w'.cell? ⟨B, 12, none⟩ = some (.int .i64 2) ∧ w'.cell? ⟨B, 13, none⟩ = some (.int .i64 1) ∧ w'.cell? ⟨B, 14, none⟩ = some (.int .i64 4) ∧ w'.cell? ⟨B, 15, none⟩ = some (.int .i64 81920)) := Lib.hid fun w' hg => by
    have h := blk_grown G9 hg (by simp)
    exact ⟨blk_cell h 0, blk_cell h 1, blk_cell h 2, blk_cell h 3, blk_cell h 4, blk_cell h 5, blk_cell h 6, blk_cell h 7, blk_cell h 8, blk_cell h 9, blk_cell h 10, blk_cell h 11, blk_cell h 12, blk_cell h 13, blk_cell h 14, blk_cell h 15⟩
  go_region_held3 (fun w' => w'.cell? ⟨B, 0, none⟩ = some (.int .i64 4) ∧ w'.cell? ⟨B, 1, none⟩ = some (.int .i64 1) ∧ w'.cell? ⟨B, 2, none⟩ = some (.int .i64 512) ∧ w'.cell? ⟨B, 3, none⟩ = some (.int .i64 248) ∧ w'.cell? ⟨B, 4, none⟩ = some (.int .i64 96) ∧ w'.cell? ⟨B, 5, none⟩ = some (.int .i64 1) ∧ w'.cell? ⟨B, 6, none⟩ = some (.int .i64 1) ∧ w'.cell? ⟨B, 7, none⟩ = some (.int .i64 3) ∧ w'.cell? ⟨B, 8, none⟩ = some (.int .i64 100000) ∧ w'.cell? ⟨B, 9, none⟩ = some (.int .i64 88) ∧ w'.cell? ⟨B, 10, none⟩ = some (.int .i64 64) ∧ w'.cell? ⟨B, 11, none⟩ = some (.int .i64 10416) ∧ w'.cell? ⟨B, 12, none⟩ = some (.int .i64 2) ∧ w'.cell? ⟨B, 13, none⟩ = some (.int .i64 1) ∧ w'.cell? ⟨B, 14, none⟩ = some (.int .i64 4) ∧ w'.cell? ⟨B, 15, none⟩ = some (.int .i64 81920))
    ((refine HKS9.out _ ?_; first | assumption | exact fb_drew (fb_refl _)))
    (first | (go_at_call 39; refine (slot_2 _).mono ?_; rintro e W10 ⟨rfl, hb9⟩; have hG9 := fb_below (fb_drew (fb_refl W9)) hb9))
  have G10 := blk_grown G9 hG9 (by simp)
  have H12 := blk_grown H11 hG9 (by simp)
  have HB10 : Below w.heap.size w W10 := HB9.grown hG9 HB9.size (fun j q => by cases q)
  have n10 : W10.cell? ⟨B, 0, none⟩ = some (.int .i64 4) := blk_cell G10 0
  clear HKS9 hb9 hG9 G9 H11 HB9
  go_upto_region 13 with (first
    | (refine wpList_load_blk rfl 23 _ rfl B 0 16 rfl G10 (by rw [planC_size]; omega) _ under_plan row_plan size_plan ?_; rw [take16])
    | (go_at_call 26; refine (callsIn_wide.1 (fails_in fitP2 _ (conds_at fitP2) 0 fit_end _)).mono ?_; rintro e W11 ⟨rfl, hb11⟩))
  have G11 := blk_below G10 hb11
  have H13 := blk_below H12 hb11
  have HB11 := trans_below HB10 HB10.size hb11
  have n11 : W11.cell? ⟨B, 0, none⟩ = some (.int .i64 4) := blk_cell G11 0
  clear G10 H12 HB10 hb11 n10
  go_wp2_with (first
    | (refine wpList_load_blk rfl 23 _ rfl B 0 16 rfl G11 (by rw [planC_size]; omega) _ under_plan row_plan size_plan ?_; rw [take16])
    | (refine wpList_store_blk rfl 23 _ _ rfl (w.heap.size + 1) 0 (planC fitP2) rfl rfl H13 (by rw [planC_size, planC_size]; omega) size_plan (planC_one _) ?_; intro W12 hw12 hg12))
  have H14 : W12.heap[w.heap.size + 1]? = some (.cells (planC fitP2) 23 (0, 0)) := hw12
  have HB12 := HB11.grown hg12 HB11.size (fun j q => by injection q with q; omega)
  obtain ⟨fp, hfp⟩ : ∃ fp, Try.prog.underlying 23 = some (.struct fp) := ⟨_, rfl⟩
  refine bodyPost_ret (results_ct rfl _ _ (w.heap.size + 1) 23 (planC fitP2) (0, 0) _ rfl H14 hfp rfl size_plan) rfl ?_
  exact ⟨rfl, HB12⟩
end Go.Proofs.Ytnmephdamgofnaa.Hand
