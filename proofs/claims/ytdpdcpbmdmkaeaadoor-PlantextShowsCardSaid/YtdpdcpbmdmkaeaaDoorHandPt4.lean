/- plantext.Value, by hand (printed by wip/gen/mkpt4.py). -/
import Derived.Test.YtdpdcpbmdmkaeaaDoorHandPt3
import Derived.Test.YtdpdcpbmdmkaeaaDoorHandStore
set_option linter.unusedVariables false
set_option linter.unusedSimpArgs false
namespace Go.Proofs.YtdpdcpbmdmkaeaaDoor.Hand
set_option maxRecDepth 100000
open Go.RowKit Go.Shelf Go.Proofs.YtdpdcpbmdmkaeaaDoor.PA Go.Proofs.YtdpdcpbmdmkaeaaDoorW.PrintWords Go.Proofs.YtdpdcpbmdmkaeaaDoorW.PrintMore
attribute [local go_sem] Oper.semAt_some

theorem table_of {w : World} {b b0 : Nat} {v : Value} (h : w.ownsRow b 34 2 v 16 (rowsV b0 16)) : ∃ g cap, v = .slice (some ⟨g, 0, none⟩) 16 cap ∧ b ≤ g ∧ ∀ i, i < 16 → w.cell? ⟨g, i * 2, none⟩ = some (.string (namesL.getD i ⟨#[]⟩)) ∧ w.cell? ⟨g, i * 2 + 1, none⟩ = some (cloV b0 i) := by
  rcases h.2 with ⟨h0, h1⟩ | ⟨g, cap, cur, hv, hb, hh, hc⟩
  · cases h1
  · refine ⟨g, cap, hv, hb, fun i hi => ?_⟩
    have hq := h.cells (g := g) (by rw [hv]; rfl)
    obtain ⟨h1, h2⟩ := rowsV_get b0 16 i hi
    have e1 := hq _ _ h1
    have e2 := hq _ _ h2
    have ha : ∀ n, (⟨g, 0, none⟩ : Addr).add n = ⟨g, n, none⟩ := fun n => by cases n <;> simp [Addr.add]
    rw [ha] at e1 e2
    exact ⟨e1, e2⟩
/-- The table of names and closures. -/
structure Tab (w : World) (gt bx : Nat) : Prop where
  name : ∀ i, i < 16 → w.cell? ⟨gt, i * 2, none⟩ = some (.string (namesL.getD i ⟨#[]⟩))
  clo : ∀ i, i < 16 → w.cell? ⟨gt, i * 2 + 1, none⟩ = some (cloV bx i)
  box : ∀ i, i < 16 → w.cell? ⟨bx + i, 0, none⟩ = some (.func (.func (atF i)) #[] #[])
theorem Tab.below {w w' : World} {gt bx : Nat} (h : Tab w gt bx) (hb : Below w.heap.size w w') : Tab w' gt bx :=
  ⟨fun i hi => (hb.cell (World.block_lt_of_cell? _ _ (h.name i hi))).trans (h.name i hi), fun i hi => (hb.cell (World.block_lt_of_cell? _ _ (h.clo i hi))).trans (h.clo i hi), fun i hi => (hb.cell (World.block_lt_of_cell? _ _ (h.box i hi))).trans (h.box i hi)⟩
theorem fields_at (w : World) (hm : FieldsAt w) : Calls Tryd.prog 10 #[] w fun e w' => ∃ gt cap bx, e = .returned (.slice (some ⟨gt, 0, none⟩) 16 cap) ∧ Tab w' gt bx ∧ Below w.heap.size w w' :=
  (fields_pt w hm).mono fun e w1 ⟨v, he, hrow, hbox, hB1⟩ => by
    obtain ⟨gt, cap, hv, hgt, hcells⟩ := table_of hrow
    exact ⟨gt, cap, w.heap.size, by rw [he, hv], ⟨fun i hi => (hcells i hi).1, fun i hi => (hcells i hi).2, hbox⟩, hB1⟩
/-- A plan's numbers in a box. -/
def PlanIn (w : World) (g : Nat) (L : List Int) : Prop := ∀ i, i < 16 → w.cell? ⟨g, i, none⟩ = some (.int .i64 (L.getD i 0))
theorem PlanIn.below {w w' : World} {g : Nat} {L : List Int} (h : PlanIn w g L) (hb : Below w.heap.size w w') : PlanIn w' g L := fun i hi => (hb.cell (World.block_lt_of_cell? _ _ (h i hi))).trans (h i hi)
theorem plan_box (p0 p1 p2 p3 p4 p5 p6 p7 p8 p9 p10 p11 p12 p13 p14 p15 : Int) (w : World) : PlanIn (w.alloc (.cells #[.int .i64 p0, .int .i64 p1, .int .i64 p2, .int .i64 p3, .int .i64 p4, .int .i64 p5, .int .i64 p6, .int .i64 p7, .int .i64 p8, .int .i64 p9, .int .i64 p10, .int .i64 p11, .int .i64 p12, .int .i64 p13, .int .i64 p14, .int .i64 p15] 23 (0, 0))) w.heap.size [p0, p1, p2, p3, p4, p5, p6, p7, p8, p9, p10, p11, p12, p13, p14, p15] := by
  intro i hi
  refine (blk_cell (heap_alloc_new _ _) i).trans ?_
  match i, hi with
  | 0, _ | 1, _ | 2, _ | 3, _ | 4, _ | 5, _ | 6, _ | 7, _ | 8, _ | 9, _ | 10, _ | 11, _ | 12, _ | 13, _ | 14, _ | 15, _ => rfl
  | i + 16, hi => omega
/-- The number of a name, and whether it is one; d places are left. -/
def valN (L : List Int) (s : ByteArray) : Nat → Int × Bool
  | 0 => (0, false)
  | d + 1 => if (namesL.getD (15 - d) ⟨#[]⟩).toList = s.toList then (L.getD (15 - d) 0, true) else valN L s d
theorem valN_at (L : List Int) (s : ByteArray) (i : Nat) (hi : i < 16) : valN L s (16 - i) = if (namesL.getD i ⟨#[]⟩).toList = s.toList then (L.getD i 0, true) else valN L s (16 - (i + 1)) := by
  rw [show 16 - i = (15 - i) + 1 by omega, valN, show 15 - (15 - i) = i by omega, show 16 - (i + 1) = 15 - i by omega]
set_option maxHeartbeats 4000000 in
theorem value_core (p0 p1 p2 p3 p4 p5 p6 p7 p8 p9 p10 p11 p12 p13 p14 p15 : Int) (s : ByteArray) (w : World) (hm : FieldsAt w) : Calls Tryd.prog 4 #[.agg #[.int .i64 p0, .int .i64 p1, .int .i64 p2, .int .i64 p3, .int .i64 p4, .int .i64 p5, .int .i64 p6, .int .i64 p7, .int .i64 p8, .int .i64 p9, .int .i64 p10, .int .i64 p11, .int .i64 p12, .int .i64 p13, .int .i64 p14, .int .i64 p15], .string s] w fun e w' => e = .returned (.tuple #[.int .i64 (valN [p0, p1, p2, p3, p4, p5, p6, p7, p8, p9, p10, p11, p12, p13, p14, p15] s 16).1, .bool (valN [p0, p1, p2, p3, p4, p5, p6, p7, p8, p9, p10, p11, p12, p13, p14, p15] s 16).2]) ∧ Below w.heap.size w w' := by
  have hP := plan_box p0 p1 p2 p3 p4 p5 p6 p7 p8 p9 p10 p11 p12 p13 p14 p15 w
  have hB0 : Below w.heap.size w (w.alloc (.cells #[.int .i64 p0, .int .i64 p1, .int .i64 p2, .int .i64 p3, .int .i64 p4, .int .i64 p5, .int .i64 p6, .int .i64 p7, .int .i64 p8, .int .i64 p9, .int .i64 p10, .int .i64 p11, .int .i64 p12, .int .i64 p13, .int .i64 p14, .int .i64 p15] 23 (0, 0))) := (Below.refl _ _).alloc (Nat.le_refl _) _
  have hm1 := hm.below hB0 (Nat.le_refl _)
  generalize [p0, p1, p2, p3, p4, p5, p6, p7, p8, p9, p10, p11, p12, p13, p14, p15] = L at hP ⊢
  go_enter Tryd.func4, Tryd.ntmps4
  go_wp2_with (go_at_call 10; refine (fields_at _ hm1).mono ?_; rintro e w1 ⟨gt, cap, bx, rfl, hT, hB1⟩)
  have hP1 := hP.below hB1
  have hBw := below_step hB0 hB1
  clear hP hB0 hm1 hm hB1
  go_loopw [10] (fun v10 wr => ∃ i : Nat, i ≤ 16 ∧ v10 = .int .i64 i ∧ valN L s 16 = valN L s (16 - i) ∧ Below w1.heap.size w1 wr) (fun v10 _ => 16 - (intOf v10).toNat)
  case atStart => exact ⟨0, Nat.zero_le _, rfl, rfl, Below.refl _ _⟩
  case round =>
    obtain ⟨i, hi16, rfl, hv, hB⟩ := hrel
    by_cases hlt : i < 16
    · have hcl : decide ((i : Int) < 16) = true := decide_eq_true (by omega)
      have hTr := hT.below hB
      have d0 := hTr.name i hlt
      have d1 := hTr.clo i hlt
      have db := hTr.box i hlt
      have dp := hP1.below hB i hlt
      rw [valN_at L s i hlt] at hv
      unfold cloV at d1
      by_cases hq : (namesL.getD i ⟨#[]⟩).toList = s.toList
      · rw [if_pos hq] at hv
        have HV := Aside0.mk hv
        clear hv
        generalize hnm : namesL.getD i ⟨#[]⟩ = nm at d0 hq
        clear hnm
        have hqb : (nm.toList == s.toList) = true := beq_iff_eq.mpr hq
        rcases clo_kind i hlt with hk | hk
        · rw [hk] at d1
          go_wp2_with (first | (refine wpList_store_blk rfl 34 (.tmp 7) (.tmp 13) rfl wr.heap.size 0 #[.string nm, .func (.func 39) #[] #[.pointer (some ⟨bx + i, 0, none⟩)]] rfl rfl (heap_alloc_new wr (.cells #[.string ⟨#[]⟩, .nilFunc] 34 (0, 0))) (by simp) (by kernel_rfl) (by simp [Value.oneCell']) ?_; intro ws hbk hgr; have e0 : ws.cell? ⟨wr.heap.size, 0, none⟩ = some (.string nm) := (blk_cell hbk 0).trans rfl; have e1 : ws.cell? ⟨wr.heap.size, 1, none⟩ = some (.func (.func 39) #[] #[.pointer (some ⟨bx + i, 0, none⟩)]) := (blk_cell hbk 1).trans rfl; have hBs : Below w1.heap.size w1 ws := (hB.alloc hB.size _).grown hgr (by have := hB.size; simp; omega) (fun j ej => by cases ej; exact hB.size); replace db := (hT.below hBs).box i hlt; replace dp := hP1.below hBs i hlt; clear hbk hgr) | (go_at_call 39; refine (get_whole i hlt hk _ _ _ _ db dp).mono ?_; rintro e w' ⟨rfl, rfl⟩))
          exact bodyPost_ret (v := .tuple #[.int .i64 (L.getD i 0), .bool true]) (by simp [results, Tryd.results4, go_sem]) rfl ⟨by rw [HV.out], below_step hBw hBs⟩
        · rw [hk] at d1
          go_wp2_with (first | (refine wpList_store_blk rfl 34 (.tmp 7) (.tmp 13) rfl wr.heap.size 0 #[.string nm, .func (.func 40) #[] #[.pointer (some ⟨bx + i, 0, none⟩)]] rfl rfl (heap_alloc_new wr (.cells #[.string ⟨#[]⟩, .nilFunc] 34 (0, 0))) (by simp) (by kernel_rfl) (by simp [Value.oneCell']) ?_; intro ws hbk hgr; have e0 : ws.cell? ⟨wr.heap.size, 0, none⟩ = some (.string nm) := (blk_cell hbk 0).trans rfl; have e1 : ws.cell? ⟨wr.heap.size, 1, none⟩ = some (.func (.func 40) #[] #[.pointer (some ⟨bx + i, 0, none⟩)]) := (blk_cell hbk 1).trans rfl; have hBs : Below w1.heap.size w1 ws := (hB.alloc hB.size _).grown hgr (by have := hB.size; simp; omega) (fun j ej => by cases ej; exact hB.size); replace db := (hT.below hBs).box i hlt; replace dp := hP1.below hBs i hlt; clear hbk hgr) | (go_at_call 40; refine (get_long i hlt hk _ _ _ _ db dp).mono ?_; rintro e w' ⟨rfl, rfl⟩))
          exact bodyPost_ret (v := .tuple #[.int .i64 (L.getD i 0), .bool true]) (by simp [results, Tryd.results4, go_sem]) rfl ⟨by rw [HV.out], below_step hBw hBs⟩
      · rw [if_neg hq] at hv
        have HV := Aside0.mk hv
        clear hv
        generalize namesL.getD i ⟨#[]⟩ = nm at d0 hq
        generalize cloF i = cf at d1
        have hqb : (nm.toList == s.toList) = false := beq_eq_false_iff_ne.mpr hq
        go_wp2_with (refine wpList_store_blk rfl 34 (.tmp 7) (.tmp 13) rfl wr.heap.size 0 #[.string nm, .func (.func cf) #[] #[.pointer (some ⟨bx + i, 0, none⟩)]] rfl rfl (heap_alloc_new wr (.cells #[.string ⟨#[]⟩, .nilFunc] 34 (0, 0))) (by simp) (by kernel_rfl) (by simp [Value.oneCell']) ?_; intro ws hbk hgr; have e0 : ws.cell? ⟨wr.heap.size, 0, none⟩ = some (.string nm) := (blk_cell hbk 0).trans rfl; have e1 : ws.cell? ⟨wr.heap.size, 1, none⟩ = some (.func (.func cf) #[] #[.pointer (some ⟨bx + i, 0, none⟩)]) := (blk_cell hbk 1).trans rfl; have hBs : Below w1.heap.size w1 ws := (hB.alloc hB.size _).grown hgr (by have := hB.size; simp; omega) (fun j ej => by cases ej; exact hB.size); replace db := (hT.below hBs).box i hlt; replace dp := hP1.below hBs i hlt; clear hbk hgr)
        go_roundw
        case rel => exact ⟨i + 1, by omega, rfl, HV.out, hBs⟩
        case measure => simp [intOf]; omega
    · obtain rfl : i = 16 := by omega
      have hcl : decide ((16 : Int) < 16) = false := by decide
      go_wp2
      exact bodyPost_ret (v := .tuple #[.int .i64 0, .bool false]) (by simp [results, Tryd.results4, go_sem]) rfl ⟨by rw [hv]; rfl, below_step hBw hB⟩
end Go.Proofs.YtdpdcpbmdmkaeaaDoor.Hand
