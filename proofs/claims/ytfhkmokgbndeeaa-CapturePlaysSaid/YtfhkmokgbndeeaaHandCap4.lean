/- What capture's Values, Forget, Clear and Copy compute, by hand. -/
import Derived.Test.YtfhkmokgbndeeaaHandCap3
set_option linter.unusedVariables false
set_option linter.unusedSimpArgs false
namespace Go.Proofs.Ytfhkmokgbndeeaa.Hand
open Go.RowKit Go.Shelf Go.Proofs.Ytfhkmokgbndeeaa.Cap Go.Proofs.Ytfhkmokgbndeeaa.PA Go.Proofs.YtfhkmokgbndeeaaW.PrintWords Go.Proofs.YtfhkmokgbndeeaaW.PrintMore
attribute [local go_sem] Oper.semAt_some

def valL (m : Cp) (own : Int) (pre : List Nat) : List Int := pre.filterMap fun (n : Nat) => if (n : Int) = own then some 0 else if (byN m n).2 = true then some (byN m n).1 else none
theorem valL_own (m : Cp) (own : Int) (pre : List Nat) (n : Nat) (h : (n : Int) = own) : valL m own (pre ++ [n]) = valL m own pre ++ [0] := by simp [valL, List.filterMap_append, h]
theorem valL_yes (m : Cp) (own : Int) (pre : List Nat) (n : Nat) (h : ¬ (n : Int) = own) (hx : (byN m n).2 = true) : valL m own (pre ++ [n]) = valL m own pre ++ [(byN m n).1] := by simp [valL, List.filterMap_append, h, hx]
theorem valL_no (m : Cp) (own : Int) (pre : List Nat) (n : Nat) (h : ¬ (n : Int) = own) (hx : (byN m n).2 = false) : valL m own (pre ++ [n]) = valL m own pre := by simp [valL, List.filterMap_append, h, hx]
theorem valL_len (m : Cp) (own : Int) (pre : List Nat) : (valL m own pre).length ≤ pre.length := List.length_filterMap_le _ _
theorem info_l : (Try.prog.info? 2).map (fun i => (i.zero, i.size, i.bytes)) = some (some (.int .i64 0), 1, 8) := by kernel_rfl
theorem under_ls : Try.prog.underlying 37 = some (.slice 2) := by kernel_rfl
set_option maxRecDepth 100000 in
set_option maxHeartbeats 4000000 in
theorem values_in (g : Nat) (own : Int) (m : Cp) (hf : FitM m) (w : World) (hC : CapAt w g m) : CallsIn Fence.wide 3 Try.prog 14 #[.pointer (some ⟨g, 0, none⟩), .int .i64 own] w fun e W' => ∃ v, e = .returned v ∧ W'.ownsRow w.heap.size 2 1 v (valL m own (List.range 16)).length ((valL m own (List.range 16)).map (Value.int .i64)) ∧ Below w.heap.size w W' := by
  obtain ⟨i0, hi, hz0, hz1, hz2⟩ := info_parts info_l
  refine callsIn_of_wp_marks Try.func14 rfl trivial ?_ rfl
  simp only [Try.ntmps14, List.size_toArray, List.length_cons, List.length_nil, Nat.reduceAdd, Nat.reduceSub, Array.replicate_succ, Array.replicate_zero, List.push_toArray, List.append_toArray, List.nil_append, List.cons_append]
  gi_wp2_with (refine ⟨trivial, ?_⟩; gi_at_call 25; refine (all_in g 2 _).mono ?_; rintro e w' ⟨rfl, rfl⟩)
  obtain ⟨W0, hW0⟩ : ∃ W0, ((w.alloc (.cells #[.int .i64 own] 3)).alloc (.cells #[.slice none 0 0] 37)).alloc (.cells #[.pointer (some ⟨g, 0, none⟩)] 50) = W0 := ⟨_, rfl⟩
  have hsz : W0.heap.size = w.heap.size + 3 := by rw [← hW0]; simp
  have c0 : W0.cell? ⟨w.heap.size, 0, none⟩ = some (.int .i64 own) := by rw [← hW0]; simp [go_sem]
  have bO : Boxed W0 (w.heap.size + 1) 37 (.slice none 0 0) := by
    have b := (Boxed.new (w.alloc (.cells #[.int .i64 own] 3)) 37 (.slice none 0 0)).alloc (.cells #[.pointer (some ⟨g, 0, none⟩)] 50)
    rw [World.size_alloc, hW0] at b
    exact b
  have c1 : W0.cell? ⟨w.heap.size + 1 + 1, 0, none⟩ = some (.pointer (some ⟨g, 0, none⟩)) := by rw [← hW0]; simp [go_sem]
  have hB0 : Below w.heap.size w W0 := by rw [← hW0]; exact (((Below.refl _ w).alloc (Nat.le_refl _) _).alloc (by simp) _).alloc (by simp <;> omega) _
  have hC0 : CapAt W0 g m := hC.below hB0
  rw [hW0]
  refine wpIn_rangeFunc_ownH rfl (by omega) (gf := 31) (lb := #[.pointer (some ⟨w.heap.size + 1 + 1, 0, none⟩)]) rfl trivial (enters_of Try.func31 (by kernel_rfl) rfl)
    (all_stops 2 (by omega) (w.heap.size + 1 + 1) g m W0 (by omega) c1 hC0) (fun _ _ => trivial) (fun _ _ _ _ _ _ _ _ => trivial) (Below.refl _ _) (fun _ => rfl)
    (fun pre W => ((∃ v, Boxed W (w.heap.size + 1) 37 v ∧ W.ownsRow W0.heap.size 2 1 v (valL m own pre).length ((valL m own pre).map (Value.int .i64)) ∧ True) ∧ (W.cell? ⟨w.heap.size, 0, none⟩ = some (.int .i64 own) ∧ W0.heap.size ≤ W.heap.size)) ∧ Below w.heap.size w W)
    (fun _ _ _ => False)
    (OwnFrom.and (OwnFrom.and (Own.from (holdsRow_own W0.heap.size (w.heap.size + 1) 37 2 1 (fun pre => (valL m own pre).length) (fun pre => (valL m own pre).map (Value.int .i64)) (fun _ _ => True)) _) (Own.from (fun s A B row hs hg hr => ⟨cell_kept hs.1 hg hr, Nat.le_trans hs.2 hg.size⟩) _)) (ownFrom_below (Nat.le_refl _) (by omega)))
    (fun _ _ _ _ _ hs _ _ => hs)
    ⟨⟨⟨_, bO, World.ownsRow_nil _ _ _ _, trivial⟩, c0, Nat.le_refl _⟩, hB0⟩
    (fun x a' W => ∃ h, W.heap[h]? = some (.cells (pairV m x) 27 (0, 0)) ∧ a' = { tmps := #[.pointer (some ⟨g, 0, none⟩), .int .i64 own, undef, .pointer (some ⟨w.heap.size, 0, none⟩), .slice none 0 0, .pointer (some ⟨w.heap.size + 1, 0, none⟩), .int .i64 (x : Int), .pointer (some ⟨h, 0, none⟩), undef, undef, .pointer (some ⟨g, 0, none⟩), .func (.func 31) #[] #[.pointer (some ⟨w.heap.size + 1 + 1, 0, none⟩)], .int .i64 (x : Int), .agg (pairV m x), undef, undef, undef, undef, undef, undef, undef, undef, undef, undef, undef, undef, undef, undef], defers := [] })
    (fun x a' _ A B row hs hg hr => by obtain ⟨h, hb, e⟩ := hs; exact ⟨h, blk_owned hb hg (fun r q => (hr r q).2), e⟩)
    ?assign ?body ?done ?stop
  case assign =>
    intro l pre x W K hI hK
    obtain ⟨V, hV⟩ : ∃ V, pairV m x = V := ⟨_, rfl⟩
    have hV2 := pairV_eq m x
    rw [hV] at hV2
    unfold encN
    rw [hV] at hK ⊢
    subst hV2
    gi_wp2
    have hlt : w.heap.size < W.heap.size := by have := hI.1.2.2; omega
    refine hK _ _ ⟨by simp, fun k o _ hk _ => blk_alloc hk _⟩ trivial ⟨⟨?_, ?_, by have := hI.1.2.2; simp; omega⟩, hI.2.alloc hI.2.size _⟩ ⟨_, heap_alloc_new _ _, rfl⟩
    · obtain ⟨v, hv, hr, ht⟩ := hI.1.1
      exact ⟨v, hv.alloc _, hr.alloc _, ht⟩
    · exact (((Below.refl W.heap.size W).alloc (Nat.le_refl _) _).cell (p := ⟨w.heap.size, 0, none⟩) hlt).trans hI.1.2.1
  case body =>
    rintro l pre x a' W hwl hl ⟨⟨⟨v, hv, hrow, hnil⟩, hc0, hs0⟩, hB⟩ ⟨h, hb, rfl⟩ hlt
    have hc := hv.cell
    have hBs := hB.size
    have hpl := valL_len m own pre
    have ht4 := take4 m x
    have hp4 := pairV_size m x
    have hby : byR (pairN m x).1 (pairN m x).2 = byN m x := rfl
    by_cases ho : (x : Int) = own
    · have hob : ((x : Int) == own) = true := by simpa using ho
      gi_wp2_with (first
        | (refine wpListIn_load_blk rfl 27 _ rfl h 0 4 rfl hb (by rw [hp4]; omega) _ under_both rfl size_both ?_; rw [ht4])
        | (refine ⟨trivial, ?_⟩; gi_at_call 26; refine (CallsIn.inRound l (callsIn_wide.2 (by_core (pairN m x).1 (pairN m x).2 (hf _) (hf _) _))).mono ?_; rintro e w1 ⟨rfl, hb1⟩; have hg1 := below_grown hb1; have hv1 := hv.kept hg1 (by simp); have hrow1 := own_move hrow (fun k hk => hb1.block k (hrow.lt k hk).2); have hc1 := hv1.cell; have hs1 := hb1.size; have hc01 : w1.cell? ⟨w.heap.size, 0, none⟩ = some (.int .i64 own) := (hb1.cell (p := ⟨w.heap.size, 0, none⟩) (by show w.heap.size < _; omega)).trans hc0)
        | (gi_at_builtin; refine wpListIn_append_own _ rfl _ _ 37 rfl W0.heap.size 2 i0 (.int .i64 0) 1 8 under_ls hi hz0 hz1 hz2 rfl (by decide) _ _ _ rfl (hrow1.alloc _) ⟨_, 0, none⟩ 1 1 [.int .i64 0] rfl rfl (cell_one_new _ _ _) (by intro u hu; simp at hu; subst hu; rfl) (by unfold maxLen; omega) (by omega) (by simp; omega) ?_; intro v' w2 hown' hgrow _; obtain ⟨g', cap', rfl⟩ := ownsRow_succ hown'; obtain ⟨hv2, hv3, hr3, hk3, hb3⟩ := hv1.appended (by decide) (own_less hrow1 (by omega : w.heap.size ≤ W0.heap.size)) (by omega : w.heap.size ≤ w1.heap.size) (by omega) (own_less hown' (by omega : w.heap.size ≤ W0.heap.size)) hgrow; have hc2 := hv2.cell; have hf2 := hv2.frozen))
      have hq := hown'.kept (grownBy_setCell' w2 (w.heap.size + 1) (.slice (some ⟨g', 0, none⟩) ((valL m own pre).length + 1) cap')) (.inr (hv2.not_row (by decide) hown').symm)
      have hsz3 := hb3.size
      have k0 : (w2.setCell ⟨w.heap.size + 1, 0, none⟩ (.slice (some ⟨g', 0, none⟩) ((valL m own pre).length + 1) cap')).cell? ⟨w.heap.size, 0, none⟩ = some (.int .i64 own) := by
        rw [World.cell?_setCell_other _ _ _ _ (by simp)]
        have hbN : Below W0.heap.size (w1.alloc (.cells #[.int .i64 0] 2)) w2 := (Below.refl W0.heap.size _).grown hgrow (by simp; omega) (fun j ej => (hrow1.lt j ej).1)
        exact (hbN.cell (p := ⟨w.heap.size, 0, none⟩) (by show w.heap.size < _; omega)).trans (((Below.refl w1.heap.size w1).alloc (Nat.le_refl _) _).cell (p := ⟨w.heap.size, 0, none⟩) (by show w.heap.size < _; omega) |>.trans hc01)
      exact ⟨(KeepsFrom.of_grownBy hg1 (fun j q => by cases q)).trans (hk3.from _), trivial, ⟨⟨_, hv3, by rw [valL_own m own pre x ho, List.length_append, List.map_append]; exact hq, trivial⟩, k0, by omega⟩, (below_step hB hb1).trans hb3⟩
    · have hob : ((x : Int) == own) = false := by simpa using ho
      cases hx : (byN m x).2 with
      | false =>
        gi_wp2_with (first
          | (refine wpListIn_load_blk rfl 27 _ rfl h 0 4 rfl hb (by rw [hp4]; omega) _ under_both rfl size_both ?_; rw [ht4])
          | (refine ⟨trivial, ?_⟩; gi_at_call 26; refine (CallsIn.inRound l (callsIn_wide.2 (by_core (pairN m x).1 (pairN m x).2 (hf _) (hf _) _))).mono ?_; rw [hby, hx]; rintro e w1 ⟨rfl, hb1⟩; have hg1 := below_grown hb1; have hv1 := hv.kept hg1 (by simp); have hrow1 := own_move hrow (fun k hk => hb1.block k (hrow.lt k hk).2); have hc1 := hv1.cell; have hs1 := hb1.size; have hc01 : w1.cell? ⟨w.heap.size, 0, none⟩ = some (.int .i64 own) := (hb1.cell (p := ⟨w.heap.size, 0, none⟩) (by show w.heap.size < _; omega)).trans hc0))
        exact ⟨KeepsFrom.of_grownBy hg1 (fun j q => by cases q), trivial, ⟨⟨v, hv1, by rw [valL_no m own pre x ho hx]; exact hrow1, trivial⟩, hc01, by omega⟩, below_step hB hb1⟩
      | true =>
        gi_wp2_with (first
          | (refine wpListIn_load_blk rfl 27 _ rfl h 0 4 rfl hb (by rw [hp4]; omega) _ under_both rfl size_both ?_; rw [ht4])
          | (refine ⟨trivial, ?_⟩; gi_at_call 26; refine (CallsIn.inRound l (callsIn_wide.2 (by_core (pairN m x).1 (pairN m x).2 (hf _) (hf _) _))).mono ?_; rw [hby, hx]; rintro e w1 ⟨rfl, hb1⟩; have hg1 := below_grown hb1; have hv1 := hv.kept hg1 (by simp); have hrow1 := own_move hrow (fun k hk => hb1.block k (hrow.lt k hk).2); have hc1 := hv1.cell; have hs1 := hb1.size; have hc01 : w1.cell? ⟨w.heap.size, 0, none⟩ = some (.int .i64 own) := (hb1.cell (p := ⟨w.heap.size, 0, none⟩) (by show w.heap.size < _; omega)).trans hc0)
          | (gi_at_builtin; refine wpListIn_append_own _ rfl _ _ 37 rfl W0.heap.size 2 i0 (.int .i64 0) 1 8 under_ls hi hz0 hz1 hz2 rfl (by decide) _ _ _ rfl (hrow1.alloc _) ⟨_, 0, none⟩ 1 1 [.int .i64 (byN m x).1] rfl rfl (cell_one_new _ _ _) (by intro u hu; simp at hu; subst hu; rfl) (by unfold maxLen; omega) (by omega) (by simp; omega) ?_; intro v' w2 hown' hgrow _; obtain ⟨g', cap', rfl⟩ := ownsRow_succ hown'; obtain ⟨hv2, hv3, hr3, hk3, hb3⟩ := hv1.appended (by decide) (own_less hrow1 (by omega : w.heap.size ≤ W0.heap.size)) (by omega : w.heap.size ≤ w1.heap.size) (by omega) (own_less hown' (by omega : w.heap.size ≤ W0.heap.size)) hgrow; have hc2 := hv2.cell; have hf2 := hv2.frozen))
        have hq := hown'.kept (grownBy_setCell' w2 (w.heap.size + 1) (.slice (some ⟨g', 0, none⟩) ((valL m own pre).length + 1) cap')) (.inr (hv2.not_row (by decide) hown').symm)
        have hsz3 := hb3.size
        have k0 : (w2.setCell ⟨w.heap.size + 1, 0, none⟩ (.slice (some ⟨g', 0, none⟩) ((valL m own pre).length + 1) cap')).cell? ⟨w.heap.size, 0, none⟩ = some (.int .i64 own) := by
          rw [World.cell?_setCell_other _ _ _ _ (by simp)]
          have hbN : Below W0.heap.size (w1.alloc (.cells #[.int .i64 (byN m x).1] 2)) w2 := (Below.refl W0.heap.size _).grown hgrow (by simp; omega) (fun j ej => (hrow1.lt j ej).1)
          exact (hbN.cell (p := ⟨w.heap.size, 0, none⟩) (by show w.heap.size < _; omega)).trans (((Below.refl w1.heap.size w1).alloc (Nat.le_refl _) _).cell (p := ⟨w.heap.size, 0, none⟩) (by show w.heap.size < _; omega) |>.trans hc01)
        exact ⟨(KeepsFrom.of_grownBy hg1 (fun j q => by cases q)).trans (hk3.from _), trivial, ⟨⟨_, hv3, by rw [valL_yes m own pre x ho hx, List.length_append, List.map_append]; exact hq, trivial⟩, k0, by omega⟩, (below_step hB hb1).trans hb3⟩
  case done =>
    rintro D ys W hD rfl ⟨⟨⟨v, hv, hrow, hnil⟩, hc0, hs0⟩, hB⟩ hK
    have hc := hv.cell
    gi_wp2
    refine ⟨by simp, .inl ⟨_, _, rfl, run_takeDeferred hK, ?_⟩⟩
    exact ⟨_, results_tmp rfl _ _ _, v, rfl, ownsRow_putObj (own_less hrow (by omega)) _ hK rfl, hB.trans (belowK_b (w := w) (Nat.le_refl _) W D _ _ (by omega) hK rfl rfl)⟩
  case stop =>
    rintro D c pre W _ _ h _
    exact h.elim
theorem values_core (g : Nat) (own : Int) (m : Cp) (hf : FitM m) (w : World) (hC : CapAt w g m) : Calls Try.prog 14 #[.pointer (some ⟨g, 0, none⟩), .int .i64 own] w fun e w' => ∃ v, e = .returned v ∧ Kd.R (Kd.int .i64) 2 w' w.heap.size (fun _ => True) v (valL m own (List.range 16)) ∧ Below w.heap.size w w' :=
  (callsIn_wide.1 (values_in g own m hf w hC)).mono fun e w' ⟨v, he, ho, hb⟩ => ⟨v, he, Kd.R_of_own ho (fun _ _ => trivial), hb⟩
end Go.Proofs.Ytfhkmokgbndeeaa.Hand
