/- plantext's fields, by hand: the table of all names and closures. -/
import Derived.Test.YtdpdcpbmdmkaeaaDoorHandPt1
import Derived.Maps.RangeWalk
import Derived.LoopTactic
set_option linter.unusedVariables false
set_option linter.unusedSimpArgs false
namespace Go.Proofs.YtdpdcpbmdmkaeaaDoor.Hand
set_option maxRecDepth 100000
open Go.RowKit Go.Shelf Go.Proofs.YtdpdcpbmdmkaeaaDoor.PA Go.Proofs.YtdpdcpbmdmkaeaaDoorW.PrintWords Go.Proofs.YtdpdcpbmdmkaeaaDoorW.PrintMore
attribute [local go_sem] Oper.semAt_some

def rowsV (b : Nat) : Nat → List Value
  | 0 => []
  | i + 1 => rowsV b i ++ [.string (namesL.getD i ⟨#[]⟩), cloV b i]
theorem rowsV_len (b : Nat) : ∀ n, (rowsV b n).length = n * 2
  | 0 => rfl
  | n + 1 => by rw [rowsV, List.length_append, rowsV_len b n]; simp; omega
theorem rowsV_get (b : Nat) : ∀ n i, i < n → (rowsV b n)[i * 2]? = some (.string (namesL.getD i ⟨#[]⟩)) ∧ (rowsV b n)[i * 2 + 1]? = some (cloV b i)
  | 0, i, h => absurd h (Nat.not_lt_zero i)
  | n + 1, i, h => by
    have hl := rowsV_len b n
    by_cases hi : i < n
    · obtain ⟨h1, h2⟩ := rowsV_get b n i hi
      exact ⟨by rw [rowsV, List.getElem?_append_left (by omega)]; exact h1, by rw [rowsV, List.getElem?_append_left (by omega)]; exact h2⟩
    · obtain rfl : i = n := by omega
      exact ⟨by rw [rowsV, List.getElem?_append_right (by omega), hl]; simp, by rw [rowsV, List.getElem?_append_right (by omega), hl]; simp⟩
@[reducible] def closC (b : Nat) : Array Value := #[cloV b 0, cloV b 1, cloV b 2, cloV b 3, cloV b 4, cloV b 5, cloV b 6, cloV b 7, cloV b 8, cloV b 9, cloV b 10, cloV b 11, cloV b 12, cloV b 13, cloV b 14, cloV b 15]
/-- The world ahead of the loop: the closures' variables, the closures, and the names are laid. -/
structure Laid (w : World) (bn bc : Nat) (w1 : World) : Prop where
  size : w1.heap.size = w.heap.size + 18
  below : Below w.heap.size w w1
  box : ∀ i, i < 16 → w1.cell? ⟨w.heap.size + i, 0, none⟩ = some (.func (.func (atF i)) #[] #[])
  clos : ∀ i, i < 16 → w1.cell? ⟨bc, i, none⟩ = some (cloV w.heap.size i)
  names : ∀ i, i < 16 → w1.cell? ⟨bn, i, none⟩ = some (.string (namesL.getD i ⟨#[]⟩))
theorem laid_of (w : World) : Laid w (w.heap.size + 17) (w.heap.size + 16) (((boxed w).alloc (.cells (closC w.heap.size) 32 (0, 0))).alloc (.cells namesC 9 (0, 0))) := by
  have hs := boxed_size w
  have h1 : Below w.heap.size w ((boxed w).alloc (.cells (closC w.heap.size) 32 (0, 0))) := (boxed_below w).alloc (by omega) _
  have h2 := h1.alloc (by simp; omega) (.cells namesC 9 (0, 0))
  have k1 : Below (boxed w).heap.size (boxed w) ((boxed w).alloc (.cells (closC w.heap.size) 32 (0, 0))) := (Below.refl _ _).alloc (Nat.le_refl _) _
  have k2 := k1.alloc (by simp) (.cells namesC 9 (0, 0))
  refine ⟨by simp [hs], h2, fun i hi => ?_, fun i hi => ?_, fun i hi => ?_⟩
  · exact (k2.cell (World.block_lt_of_cell? _ _ (boxed_at w i hi))).trans (boxed_at w i hi)
  · have hb : (((boxed w).alloc (.cells (closC w.heap.size) 32 (0, 0))).alloc (.cells namesC 9 (0, 0))).heap[w.heap.size + 16]? = some (.cells (closC w.heap.size) 32 (0, 0)) := by
      rw [← hs, heap_alloc_old _ _ (by simp)]
      exact heap_alloc_new _ _
    refine (blk_cell hb i).trans ?_
    match i, hi with
    | 0, _ | 1, _ | 2, _ | 3, _ | 4, _ | 5, _ | 6, _ | 7, _ | 8, _ | 9, _ | 10, _ | 11, _ | 12, _ | 13, _ | 14, _ | 15, _ => rfl
    | i + 16, hi => omega
  · have hb : (((boxed w).alloc (.cells (closC w.heap.size) 32 (0, 0))).alloc (.cells namesC 9 (0, 0))).heap[w.heap.size + 17]? = some (.cells namesC 9 (0, 0)) := by
      have := heap_alloc_new ((boxed w).alloc (.cells (closC w.heap.size) 32 (0, 0))) (.cells namesC 9 (0, 0))
      rwa [World.size_alloc, hs] at this
    refine (blk_cell hb i).trans ?_
    match i, hi with
    | 0, _ | 1, _ | 2, _ | 3, _ | 4, _ | 5, _ | 6, _ | 7, _ | 8, _ | 9, _ | 10, _ | 11, _ | 12, _ | 13, _ | 14, _ | 15, _ => rfl
    | i + 16, hi => omega
theorem cell_two_new (w : World) (x y : Value) (t : TypeId) {n : Nat} (hn : w.heap.size = n) : ∀ j u, [x, y][j]? = some u → (w.alloc (.cells #[x, y] t)).cell? ((⟨n, 0, none⟩ : Addr).add j) = some u := by
  intro j u hj
  subst hn
  match j, hj with
  | 0, hj => simp at hj; subst hj; simp [Addr.add]
  | 1, hj => simp at hj; subst hj; simp [Addr.add]
theorem own_lower' {W : World} {b b' e n size : Nat} {v : Value} {xs : List Value} (h : W.ownsRow b e size v n xs) (hb : b' ≤ b) : W.ownsRow b' e size v n xs := by
  obtain ⟨h1, h2⟩ := h
  refine ⟨h1, ?_⟩
  rcases h2 with h2 | ⟨g, cap, cur, a1, a2, a3⟩
  · exact .inl h2
  · exact .inr ⟨g, cap, cur, a1, Nat.le_trans hb a2, a3⟩
theorem info_field : (Tryd.prog.info? 34).map (fun i => (i.zero, i.size, i.bytes)) = some (some (.agg #[.string ⟨#[]⟩, .nilFunc]), 2, 24) := by kernel_rfl
theorem under_fields : Tryd.prog.underlying 30 = some (.slice 34) := by kernel_rfl
set_option maxHeartbeats 4000000 in
theorem fields_pt (w : World) (hm : FieldsAt w) : Calls Tryd.prog 10 #[] w fun e w' => ∃ v, e = .returned v ∧ w'.ownsRow w.heap.size 34 2 v 16 (rowsV w.heap.size 16) ∧ (∀ i, i < 16 → w'.cell? ⟨w.heap.size + i, 0, none⟩ = some (.func (.func (atF i)) #[] #[])) ∧ Below w.heap.size w w' := by
  obtain ⟨i0, hi, hz0, hz1, hz2⟩ := info_parts info_field
  have hm1 : FieldsAt ((boxed w).alloc (.cells (closC w.heap.size) 32 (0, 0))) := hm.below ((boxed_below w).alloc (by rw [boxed_size]; omega) _) (Nat.le_refl _)
  have hL := laid_of w
  go_enter Tryd.func10, Tryd.ntmps10
  go_wp2_with (first | (go_at_call 17; refine (whole_core _ _).mono ?_; rintro e w' ⟨rfl, rfl⟩) | (go_at_call 20; refine (long_core _ _).mono ?_; rintro e w' ⟨rfl, rfl⟩) | (go_at_call 6; refine (names_core _ hm1).mono ?_; rintro e w1 ⟨he, hw1⟩; obtain ⟨bn, bc, he, hbc, HL⟩ : ∃ bn bc, e = .returned (.slice (some ⟨bn, 0, none⟩) 16 16) ∧ bc = w.heap.size + 16 ∧ Laid w bn bc w1 := ⟨w.heap.size + 17, w.heap.size + 16, (by rw [he, World.size_alloc, boxed_size]), rfl, (by rw [hw1]; exact hL)⟩; subst he; clear hw1 he))
  rw [show w.heap.size + 1 + 1 + 1 + 1 + 1 + 1 + 1 + 1 + 1 + 1 + 1 + 1 + 1 + 1 + 1 + 1 = bc from hbc.symm]
  clear hbc hL hm1
  go_loopw [2, 24] (fun v2 v24 wr => ∃ i : Nat, i ≤ 16 ∧ v24 = .int .i64 i ∧ wr.ownsRow w1.heap.size 34 2 v2 i (rowsV w.heap.size i) ∧ Below w1.heap.size w1 wr) (fun _ v24 _ => 16 - (intOf v24).toNat)
  case atStart => exact ⟨0, Nat.zero_le _, rfl, World.ownsRow_nil _ _ _ _, Below.refl _ _⟩
  case round =>
    obtain ⟨i, hi16, rfl, hrow, hB⟩ := hrel
    by_cases hlt : i < 16
    · have hcl : decide ((i : Int) < 16) = true := decide_eq_true (by omega)
      have hn := HL.names i hlt
      have hc := HL.clos i hlt
      have hcn := (hB.cell (World.block_lt_of_cell? _ _ hn)).trans hn
      have hcc := (hB.cell (World.block_lt_of_cell? _ _ hc)).trans hc
      have hrs : rowsV w.heap.size (i + 1) = rowsV w.heap.size i ++ [.string (namesL.getD i ⟨#[]⟩), .func (.func (cloF i)) #[] #[.pointer (some ⟨w.heap.size + i, 0, none⟩)]] := rfl
      unfold cloV at hcc
      generalize namesL.getD i ⟨#[]⟩ = nm at hcn hrs
      generalize cloF i = cf at hcc hrs
      clear hn hc
      go_wp2_with (at_builtin; refine wpList_append_own _ rfl _ _ 30 rfl w1.heap.size 34 i0 (.agg #[.string ⟨#[]⟩, .nilFunc]) 2 24 under_fields hi hz0 hz1 hz2 rfl (by decide) _ _ _ rfl (hrow.alloc _) ⟨_, 0, none⟩ 1 1 [.string nm, .func (.func cf) #[] #[.pointer (some ⟨w.heap.size + i, 0, none⟩)]] rfl rfl (cell_two_new _ _ _ _ rfl) (by intro u hu; simp at hu; rcases hu with rfl | rfl <;> rfl) (by unfold maxLen; omega) (by omega) (by have := hB.size; simp; omega) ?_; intro v' w3 hown' hgrow _)
      go_roundw
      case rel => exact ⟨i + 1, by omega, rfl, by rw [hrs]; exact hown', (hB.alloc hB.size _).grown hgrow (by have := hB.size; simp; omega) (fun j ej => (hrow.lt j ej).1)⟩
      case measure => simp [intOf]; omega
    · obtain rfl : i = 16 := by omega
      have hcl : decide ((16 : Int) < 16) = false := by decide
      go_wp2
      go_ret
      have hs := HL.size
      refine ⟨_, rfl, own_lower' hrow (by omega), fun i hi => ?_, ?_⟩
      · have hb := HL.box i hi
        exact (hB.cell (World.block_lt_of_cell? _ _ hb)).trans hb
      · exact below_step HL.below hB
end Go.Proofs.YtdpdcpbmdmkaeaaDoor.Hand
