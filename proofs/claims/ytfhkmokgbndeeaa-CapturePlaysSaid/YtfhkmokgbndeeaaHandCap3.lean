/- What capture's List and Count compute, by hand: ranges over the iterator. -/
import Derived.Test.YtfhkmokgbndeeaaHandCap2
import Derived.Test.YtfhkmokgbndeeaaHandCapEq
import Derived.Test.YtfhkmokgbndeeaaPAx2
set_option linter.unusedVariables false
set_option linter.unusedSimpArgs false
namespace Go.Proofs.Ytfhkmokgbndeeaa.Hand
open Go.RowKit Go.Shelf Go.Proofs.Ytfhkmokgbndeeaa.Cap Go.Proofs.Ytfhkmokgbndeeaa.PA Go.Proofs.YtfhkmokgbndeeaaW.PrintWords Go.Proofs.YtfhkmokgbndeeaaW.PrintMore
attribute [local go_sem] Oper.semAt_some

def byN (m : Cp) (n : Nat) : Int × Bool := byR (pairN m n).1 (pairN m n).2
def devL (m : Cp) (pre : List Nat) : List S39 := pre.filterMap fun n => if (byN m n).2 = true then some ⟨(n : Int), (byN m n).1⟩ else none
def devC (m : Cp) (pre : List Nat) : List Value := (devL m pre).flatMap fun d => [.int .i64 d.f0, .int .i64 d.f1]
theorem devL_snoc_yes (m : Cp) (pre : List Nat) (n : Nat) (h : (byN m n).2 = true) : devL m (pre ++ [n]) = devL m pre ++ [⟨(n : Int), (byN m n).1⟩] := by
  simp [devL, List.filterMap_append, h]
theorem devL_snoc_no (m : Cp) (pre : List Nat) (n : Nat) (h : (byN m n).2 = false) : devL m (pre ++ [n]) = devL m pre := by
  simp [devL, List.filterMap_append, h]
theorem devC_snoc_yes (m : Cp) (pre : List Nat) (n : Nat) (h : (byN m n).2 = true) : devC m (pre ++ [n]) = devC m pre ++ [.int .i64 (n : Int), .int .i64 (byN m n).1] := by
  unfold devC
  rw [devL_snoc_yes m pre n h, List.flatMap_append]
  rfl
theorem devL_len (m : Cp) (pre : List Nat) : (devL m pre).length ≤ pre.length := List.length_filterMap_le _ _
theorem pairV_eq (m : Cp) (n : Nat) : pairV m n = #[.bool (pairN m n).1.isSome, .int .i64 ((pairN m n).1.getD 0), .bool (pairN m n).2.isSome, .int .i64 ((pairN m n).2.getD 0)] := by
  unfold pairV
  cases (pairN m n).1 <;> cases (pairN m n).2 <;> rfl
theorem info_dev : (Try.prog.info? 39).map (fun i => (i.zero, i.size, i.bytes)) = some (some (.agg #[.int .i64 0, .int .i64 0]), 2, 16) := by kernel_rfl
theorem under_devs : Try.prog.underlying 35 = some (.slice 39) := by kernel_rfl
theorem below_grown {w w1 : World} (h : Below w.heap.size w w1) : w.grownBy w1 none := ⟨h.os, h.tape, h.output, h.size, fun k hk _ => h.block k hk⟩
theorem cell_two_new (w : World) (x y : Value) (t : TypeId) {n : Nat} (hn : w.heap.size = n) : ∀ j u, [x, y][j]? = some u → (w.alloc (.cells #[x, y] t)).cell? ((⟨n, 0, none⟩ : Addr).add j) = some u := by
  subst hn
  have hb := blk_new w (.cells #[x, y] t)
  intro j u hj
  match j, hj with
  | 0, hj =>
    simp at hj
    subst hj
    rw [show (⟨w.heap.size, 0, none⟩ : Addr).add 0 = ⟨w.heap.size, 0, none⟩ by simp [Addr.add]]
    exact (blk_cell hb 0).trans rfl
  | 1, hj =>
    simp at hj
    subst hj
    rw [show (⟨w.heap.size, 0, none⟩ : Addr).add 1 = ⟨w.heap.size, 1, none⟩ by simp [Addr.add]]
    exact (blk_cell hb 1).trans rfl
theorem take4 (m : Cp) (n : Nat) : (takeAt (pairV m n) 0 4).toArray = pairV m n := by
  rw [pairV_eq]
  rfl
theorem eqV (m : Cp) (n : Nat) (w : World) : (binOp .eql 27 (.agg (pairV m n)) (.agg #[.bool false, .int .i64 0, .bool false, .int .i64 0])).run Try.prog w = .ok (.bool (!(byN m n).2)) w := by
  rw [pairV_eq, eq_both]
  unfold byN byR
  cases (pairN m n).1 <;> cases (pairN m n).2 <;> rfl
theorem blk_owned {w w1 : World} {h : Nat} {cs : Array Value} {t : TypeId} {row : Option Nat} (hb : w.heap[h]? = some (.cells cs t (0, 0))) (hg : w.grownBy w1 row) (hr : ∀ r, row = some r → ∃ o : Obj, w.heap[r]? = some o ∧ o.isCells = false) : w1.heap[h]? = some (.cells cs t (0, 0)) :=
  blk_grown hb hg (fun q => by obtain ⟨o, ho, hc⟩ := hr h q.symm; rw [hb] at ho; cases ho; cases hc)
set_option maxRecDepth 100000 in
set_option maxHeartbeats 4000000 in
theorem list_in (g : Nat) (m : Cp) (hf : FitM m) (w : World) (hC : CapAt w g m) : CallsIn Fence.wide 3 Try.prog 11 #[.pointer (some ⟨g, 0, none⟩)] w fun e W' => ∃ v, e = .returned v ∧ W'.ownsRow w.heap.size 39 2 v (devL m (List.range 16)).length (devC m (List.range 16)) ∧ Below w.heap.size w W' := by
  obtain ⟨i0, hi, hz0, hz1, hz2⟩ := info_parts info_dev
  refine callsIn_of_wp_marks Try.func11 rfl trivial ?_ rfl
  simp only [Try.ntmps11, List.size_toArray, List.length_cons, List.length_nil, Nat.reduceAdd, Nat.reduceSub, Array.replicate_succ, Array.replicate_zero, List.push_toArray, List.append_toArray, List.nil_append, List.cons_append]
  gi_wp2
  refine wpIn_wide.2 (wp_scope_straight ((wpIn_wide (n := 3)).1 ?_))
  gi_wp2
  refine wpIn_label ?_
  gi_wp2_with (refine ⟨trivial, ?_⟩; gi_at_call 25; refine (all_in g 2 _).mono ?_; rintro e w' ⟨rfl, rfl⟩)
  obtain ⟨W0, hW0⟩ : ∃ W0, (w.alloc (.cells #[.slice none 0 0] 35)).alloc (.cells #[.pointer (some ⟨g, 0, none⟩)] 50) = W0 := ⟨_, rfl⟩
  have hsz : W0.heap.size = w.heap.size + 2 := by rw [← hW0]; simp
  have bO : Boxed W0 w.heap.size 35 (.slice none 0 0) := by rw [← hW0]; exact (Boxed.new w 35 (.slice none 0 0)).alloc _
  have c1 : W0.cell? ⟨w.heap.size + 1, 0, none⟩ = some (.pointer (some ⟨g, 0, none⟩)) := by rw [← hW0]; simp [go_sem]
  have hB0 : Below w.heap.size w W0 := by rw [← hW0]; exact ((Below.refl _ w).alloc (Nat.le_refl _) _).alloc (by simp) _
  have hC0 : CapAt W0 g m := hC.below hB0
  rw [hW0]
  refine wpIn_rangeFunc_ownH rfl (by omega) (gf := 31) (lb := #[.pointer (some ⟨w.heap.size + 1, 0, none⟩)]) rfl trivial (enters_of Try.func31 (by kernel_rfl) rfl)
    (all_stops 2 (by omega) (w.heap.size + 1) g m W0 (by omega) c1 hC0) (fun _ _ => trivial) (fun _ _ _ _ _ _ _ _ => trivial) (Below.refl _ _) (fun _ => rfl)
    (fun pre W => ((∃ v, Boxed W w.heap.size 35 v ∧ W.ownsRow W0.heap.size 39 2 v (devL m pre).length (devC m pre) ∧ True) ∧ W0.heap.size ≤ W.heap.size) ∧ Below w.heap.size w W)
    (fun _ _ _ => False)
    (OwnFrom.and (OwnFrom.and (Own.from (holdsRow_own W0.heap.size w.heap.size 35 39 2 (fun pre => (devL m pre).length) (fun pre => devC m pre) (fun _ _ => True)) _) (Own.from (fun s A B row hs hg hr => Nat.le_trans hs hg.size) _)) (ownFrom_below (Nat.le_refl _) (by omega)))
    (fun _ _ _ _ _ hs _ _ => hs)
    ⟨⟨⟨_, bO, World.ownsRow_nil _ _ _ _, trivial⟩, Nat.le_refl _⟩, hB0⟩
    (fun x a' W => ∃ h, W.heap[h]? = some (.cells (pairV m x) 27 (0, 0)) ∧ a' = { tmps := #[.pointer (some ⟨g, 0, none⟩), undef, .slice none 0 0, .pointer (some ⟨w.heap.size, 0, none⟩), .int .i64 (x : Int), .pointer (some ⟨h, 0, none⟩), undef, undef, .pointer (some ⟨g, 0, none⟩), .func (.func 31) #[] #[.pointer (some ⟨w.heap.size + 1, 0, none⟩)], .int .i64 (x : Int), .agg (pairV m x), undef, undef, undef, undef, undef, undef, undef, undef, undef, undef, undef, undef, undef, undef, undef], defers := [] })
    (fun x a' _ A B row hs hg hr => by obtain ⟨h, hb, e⟩ := hs; exact ⟨h, blk_owned hb hg (fun r q => (hr r q).2), e⟩)
    ?assign ?body ?done ?stop
  case assign =>
    intro l pre x W K hI hK
    obtain ⟨V, hV⟩ : ∃ V, pairV m x = V := ⟨_, rfl⟩
    have hV2 := pairV_eq m x
    rw [hV] at hV2
    unfold encN
    rw [hV] at hK ⊢
    subst hV2
    gi_wp2
    exact hK _ _ ⟨by simp, fun k o _ hk _ => blk_alloc hk _⟩ trivial ⟨⟨(by obtain ⟨v, hv, hr, ht⟩ := hI.1.1; exact ⟨v, hv.alloc _, hr.alloc _, ht⟩), by have := hI.1.2; simp; omega⟩, hI.2.alloc hI.2.size _⟩ ⟨_, heap_alloc_new _ _, rfl⟩
  case body =>
    rintro l pre x a' W hwl hl ⟨⟨⟨v, hv, hrow, hnil⟩, hs0⟩, hB⟩ ⟨h, hb, rfl⟩ hlt
    have hc := hv.cell
    have hBs := hB.size
    have hpl := devL_len m pre
    have heq := eqV m x
    have ht4 := take4 m x
    have hp4 := pairV_size m x
    cases hx : (byN m x).2 with
    | false =>
      rw [hx] at heq
      gi_wp2_with (refine wpListIn_load_blk rfl 27 _ rfl h 0 4 rfl hb (by rw [hp4]; omega) _ under_both rfl size_both ?_; rw [ht4])
      exact ⟨KeepsFrom.refl _ _, trivial, ⟨⟨v, hv, by unfold devC; rw [devL_snoc_no m pre x hx]; exact hrow, trivial⟩, hs0⟩, hB⟩
    | true =>
      rw [hx] at heq
      gi_wp2_with (first
        | (refine wpListIn_load_blk rfl 27 _ rfl h 0 4 rfl hb (by rw [hp4]; omega) _ under_both rfl size_both ?_; rw [ht4])
        | (refine ⟨trivial, ?_⟩; gi_at_call 26; refine (CallsIn.inRound l (callsIn_wide.2 (by_core (pairN m x).1 (pairN m x).2 (hf _) (hf _) _))).mono ?_; rintro e w1 ⟨rfl, hb1⟩; have hg1 := below_grown hb1; have hv1 := hv.kept hg1 (by simp); have hrow1 := own_move hrow (fun k hk => hb1.block k (hrow.lt k hk).2); have hc1 := hv1.cell; have hs1 := hb1.size)
        | (gi_at_builtin; refine wpListIn_append_own _ rfl _ _ 35 rfl W0.heap.size 39 i0 (.agg #[.int .i64 0, .int .i64 0]) 2 16 under_devs hi hz0 hz1 hz2 rfl (by decide) _ _ _ rfl (hrow1.alloc _) ⟨_, 0, none⟩ 1 1 [.int .i64 (x : Int), .int .i64 (byN m x).1] rfl rfl (cell_two_new _ _ _ _ rfl) (by intro u hu; simp at hu; rcases hu with rfl | rfl <;> rfl) (by unfold maxLen; omega) (by omega) (by simp; omega) ?_; intro v' w2 hown' hgrow _; obtain ⟨g', cap', rfl⟩ := ownsRow_succ hown'; obtain ⟨hv2, hv3, hr3, hk3, hb3⟩ := hv1.appended (by decide) (own_less hrow1 (by omega : w.heap.size ≤ W0.heap.size)) (by omega : w.heap.size ≤ w1.heap.size) (by omega) (own_less hown' (by omega : w.heap.size ≤ W0.heap.size)) hgrow; have hc2 := hv2.cell; have hf2 := hv2.frozen))
      have hq := hown'.kept (grownBy_setCell' w2 w.heap.size (.slice (some ⟨g', 0, none⟩) ((devL m pre).length + 1) cap')) (.inr (hv2.not_row (by decide) hown').symm)
      have hsz3 := hb3.size
      exact ⟨(KeepsFrom.of_grownBy hg1 (fun j q => by cases q)).trans (hk3.from _), trivial, ⟨⟨_, hv3, by rw [devC_snoc_yes m pre x hx, devL_snoc_yes m pre x hx, List.length_append]; exact hq, trivial⟩, by omega⟩, (below_step hB hb1).trans hb3⟩
  case done =>
    rintro D ys W hD rfl ⟨⟨⟨v, hv, hrow, hnil⟩, hs0⟩, hB⟩ hK
    have hc := hv.cell
    gi_wp2
    refine ⟨by simp, .inl ⟨_, _, rfl, run_takeDeferred hK, ?_⟩⟩
    exact ⟨_, results_tmp rfl _ _ _, v, rfl, ownsRow_putObj (own_less hrow (by omega)) _ hK rfl, hB.trans (belowK_b (w := w) (Nat.le_refl _) W D _ _ (by omega) hK rfl rfl)⟩
  case stop =>
    rintro D c pre W _ _ h _
    exact h.elim
theorem reps_dev (w : World) (base : Nat) (ok : Nat → Prop) : ∀ (xs ys : List S39) (cys : List Value), Reps (k39.M w base ok) 2 ys cys → Reps (k39.M w base ok) 2 (ys ++ xs) (cys ++ xs.flatMap fun d => [.int .i64 d.f0, .int .i64 d.f1])
  | [], ys, cys, h => by simpa using h
  | x :: xs, ys, cys, h => by
    have := reps_dev w base ok xs (ys ++ [x]) (cys ++ [.int .i64 x.f0, .int .i64 x.f1]) (h.snoc (k39_mkM w base ok x) rfl)
    simpa using this
theorem list_core (g : Nat) (m : Cp) (hf : FitM m) (w : World) (hC : CapAt w g m) : Calls Try.prog 11 #[.pointer (some ⟨g, 0, none⟩)] w fun e w' => ∃ v, e = .returned v ∧ Kd.R k39 39 w' w.heap.size (fun _ => True) v (devL m (List.range 16)) ∧ Below w.heap.size w w' :=
  (callsIn_wide.1 (list_in g m hf w hC)).mono fun e w' ⟨v, he, ho, hb⟩ => ⟨v, he, ⟨fun _ _ => trivial, _, ho, (show Reps (k39.M w' w.heap.size (fun k => True ∧ some k ≠ v.ownBlock)) 2 (devL m (List.range 16)) (devC m (List.range 16)) from reps_dev w' w.heap.size (fun k => True ∧ some k ≠ v.ownBlock) (devL m (List.range 16)) [] [] (Reps.none _ _))⟩, hb⟩
theorem count_core (g : Nat) (m : Cp) (hf : FitM m) (w : World) (hC : CapAt w g m) : Calls Try.prog 15 #[.pointer (some ⟨g, 0, none⟩)] w fun e w' => e = .returned (.int .i64 ((devL m (List.range 16)).length : Int)) ∧ Below w.heap.size w w' := by
  go_enter Try.func15, Try.ntmps15
  go_wp2_with (go_at_call 11; refine (list_core g m hf _ hC).mono ?_; rintro e w1 ⟨v, rfl, hO, hB⟩; obtain ⟨A, c, rfl⟩ := Kd.R_slice hO)
  go_ret
  exact ⟨rfl, hB⟩
end Go.Proofs.Ytfhkmokgbndeeaa.Hand
