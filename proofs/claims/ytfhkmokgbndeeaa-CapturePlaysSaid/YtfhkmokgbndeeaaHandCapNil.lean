/- The methods on no capture. -/
import Derived.Test.YtfhkmokgbndeeaaHandRev
set_option linter.unusedVariables false
set_option linter.unusedSimpArgs false
namespace Go.Proofs.Ytfhkmokgbndeeaa.Hand
open Go.RowKit Go.Proofs.Ytfhkmokgbndeeaa.Cap Go.Proofs.Ytfhkmokgbndeeaa.PA Go.Proofs.Ytfhkmokgbndeeaa.PB Go.Proofs.YtfhkmokgbndeeaaW.PrintWords Go.Proofs.YtfhkmokgbndeeaaW.PrintLast Go.Proofs.YtfhkmokgbndeeaaW.PrintMore
attribute [local go_sem] Oper.semAt_some

theorem note_nil (n ch by_ : Int) (w : World) : Calls Try.prog 10 #[.pointer none, .int .i64 n, .int .i64 ch, .int .i64 by_] w fun e w' => e = .returned (.int .i64 1) ∧ w' = w := by
  go_enter Try.func10, Try.ntmps10
  go_wp2
  go_ret
  exact ⟨rfl, rfl⟩
theorem of_nil (n : Int) (w : World) : Calls Try.prog 16 #[.pointer none, .int .i64 n] w fun e w' => e = .returned (.tuple #[.int .i64 0, .bool false]) ∧ w' = w := by
  go_enter Try.func16, Try.ntmps16
  go_wp2
  go_ret2
  exact ⟨rfl, rfl⟩
theorem forget_nil (n : Int) (w : World) : Calls Try.prog 17 #[.pointer none, .int .i64 n] w fun e w' => e = .returned (.bool false) ∧ w' = w := by
  go_enter Try.func17, Try.ntmps17
  go_wp2_with (go_at_call 16; refine (of_nil n _).mono ?_; rintro e w1 ⟨rfl, rfl⟩)
  go_ret
  exact ⟨rfl, rfl⟩
theorem copy_nil (w : World) : Calls Try.prog 22 #[.pointer none] w fun e w' => e = .returned (.pointer none) ∧ w' = w := by
  go_enter Try.func22, Try.ntmps22
  go_wp2
  go_ret
  exact ⟨rfl, rfl⟩
theorem all_nil_in (mm : Nat) (w : World) :
    CallsIn Fence.wide mm Try.prog 25 #[.pointer none] w fun e w' => e = .returned (.func (.func 31) #[] #[.pointer (some ⟨w.heap.size, 0, none⟩)]) ∧ w' = w.alloc (.cells #[.pointer none] 50) := by
  refine callsIn_of_wp Try.func25 rfl trivial ?_ rfl
  simp only [Try.ntmps25, List.size_toArray, List.length_cons, List.length_nil, Nat.reduceAdd, Nat.reduceSub, Array.replicate_succ, Array.replicate_zero, List.push_toArray, List.append_toArray, List.nil_append, List.cons_append]
  gi_wp2
  go_ret
  exact ⟨rfl, rfl⟩
theorem all1_nil_in (mm : Nat) (l Bc : Nat) (J : World → Prop) (W : World) (hBc : W.cell? ⟨Bc, 0, none⟩ = some (.pointer none)) (h0 : J W) :
    CallsIn Fence.wide mm Try.prog 31 #[.func (.yield l) #[] #[], .pointer (some ⟨Bc, 0, none⟩)] W fun e W' => (∃ v, e = .returned v) ∧ J W' := by
  refine callsIn_of_wp Try.func31 rfl trivial ?_ rfl
  simp only [Try.ntmps31, List.size_toArray, List.length_cons, List.length_nil, Nat.reduceAdd, Nat.reduceSub, Array.replicate_succ, Array.replicate_zero, List.push_toArray, List.append_toArray, List.nil_append, List.cons_append]
  gi_wp2
  refine bodyPost_ret (results_none rfl _ _ _) rfl ?_
  exact ⟨⟨_, rfl⟩, h0⟩
theorem all_stops_nil (mm : Nat) (Bc : Nat) (w : World) (hlt : Bc < w.heap.size) (hBc : w.cell? ⟨Bc, 0, none⟩ = some (.pointer none)) :
    SeqStopsK Fence.wide mm Try.prog 31 #[.pointer (some ⟨Bc, 0, none⟩)] (encN none32) KTrue (fun ys => ys = []) (fun pre => pre = []) 0 w := fun l J Jx W hW hJ _ hY h0 =>
  (all1_nil_in mm l Bc (J []) W ((hW.cell (p := ⟨Bc, 0, none⟩) hlt).trans hBc) h0).mono fun e W' ⟨h1, h2⟩ => ⟨h1, .inl ⟨[], rfl, h2⟩⟩
set_option maxRecDepth 100000 in
set_option maxHeartbeats 4000000 in
theorem list_nil_in (w : World) : CallsIn Fence.wide 3 Try.prog 11 #[.pointer none] w fun e W' => ∃ v, e = .returned v ∧ W'.ownsRow w.heap.size 39 2 v (devL none32 []).length (devC none32 []) ∧ Below w.heap.size w W' := by
  obtain ⟨i0, hi, hz0, hz1, hz2⟩ := info_parts info_dev
  refine callsIn_of_wp_marks Try.func11 rfl trivial ?_ rfl
  simp only [Try.ntmps11, List.size_toArray, List.length_cons, List.length_nil, Nat.reduceAdd, Nat.reduceSub, Array.replicate_succ, Array.replicate_zero, List.push_toArray, List.append_toArray, List.nil_append, List.cons_append]
  gi_wp2
  refine wpIn_wide.2 (wp_scope_straight ((wpIn_wide (n := 3)).1 ?_))
  gi_wp2
  refine wpIn_label ?_
  gi_wp2_with (refine ⟨trivial, ?_⟩; gi_at_call 25; refine (all_nil_in 2 _).mono ?_; rintro e w' ⟨rfl, rfl⟩)
  obtain ⟨W0, hW0⟩ : ∃ W0, (w.alloc (.cells #[.slice none 0 0] 35)).alloc (.cells #[.pointer none] 50) = W0 := ⟨_, rfl⟩
  have hsz : W0.heap.size = w.heap.size + 2 := by rw [← hW0]; simp
  have bO : Boxed W0 w.heap.size 35 (.slice none 0 0) := by rw [← hW0]; exact (Boxed.new w 35 (.slice none 0 0)).alloc _
  have c1 : W0.cell? ⟨w.heap.size + 1, 0, none⟩ = some (.pointer none) := by rw [← hW0]; simp [go_sem]
  have hB0 : Below w.heap.size w W0 := by rw [← hW0]; exact ((Below.refl _ w).alloc (Nat.le_refl _) _).alloc (by simp) _
  rw [hW0]
  refine wpIn_rangeFunc_ownH rfl (by omega) (gf := 31) (lb := #[.pointer (some ⟨w.heap.size + 1, 0, none⟩)]) rfl trivial (enters_of Try.func31 (by kernel_rfl) rfl)
    (all_stops_nil 2 (w.heap.size + 1) W0 (by omega) c1) (fun _ _ => trivial) (fun _ _ _ _ _ _ _ _ => trivial) (Below.refl _ _) (fun _ => rfl)
    (fun pre W => ((∃ v, Boxed W w.heap.size 35 v ∧ W.ownsRow W0.heap.size 39 2 v (devL none32 pre).length (devC none32 pre) ∧ True) ∧ W0.heap.size ≤ W.heap.size) ∧ Below w.heap.size w W)
    (fun _ _ _ => False)
    (OwnFrom.and (OwnFrom.and (Own.from (holdsRow_own W0.heap.size w.heap.size 35 39 2 (fun pre => (devL none32 pre).length) (fun pre => devC none32 pre) (fun _ _ => True)) _) (Own.from (fun s A B row hs hg hr => Nat.le_trans hs hg.size) _)) (ownFrom_below (Nat.le_refl _) (by omega)))
    (fun _ _ _ _ _ hs _ _ => hs)
    ⟨⟨⟨_, bO, World.ownsRow_nil _ _ _ _, trivial⟩, Nat.le_refl _⟩, hB0⟩
    (fun x a' W => ∃ h, W.heap[h]? = some (.cells (pairV none32 x) 27 (0, 0)) ∧ a' = { tmps := #[.pointer none, undef, .slice none 0 0, .pointer (some ⟨w.heap.size, 0, none⟩), .int .i64 (x : Int), .pointer (some ⟨h, 0, none⟩), undef, undef, .pointer none, .func (.func 31) #[] #[.pointer (some ⟨w.heap.size + 1, 0, none⟩)], .int .i64 (x : Int), .agg (pairV none32 x), undef, undef, undef, undef, undef, undef, undef, undef, undef, undef, undef, undef, undef, undef, undef], defers := [] })
    (fun x a' _ A B row hs hg hr => by obtain ⟨h, hb, e⟩ := hs; exact ⟨h, blk_owned hb hg (fun r q => (hr r q).2), e⟩)
    ?assign ?body ?done ?stop
  case assign =>
    intro l pre x W K hI hK
    obtain ⟨V, hV⟩ : ∃ V, pairV none32 x = V := ⟨_, rfl⟩
    have hV2 := pairV_eq none32 x
    rw [hV] at hV2
    unfold encN
    rw [hV] at hK ⊢
    subst hV2
    gi_wp2
    exact hK _ _ ⟨by simp, fun k o _ hk _ => blk_alloc hk _⟩ trivial ⟨⟨(by obtain ⟨v, hv, hr, ht⟩ := hI.1.1; exact ⟨v, hv.alloc _, hr.alloc _, ht⟩), by have := hI.1.2; simp; omega⟩, hI.2.alloc hI.2.size _⟩ ⟨_, heap_alloc_new _ _, rfl⟩
  case body =>
    rintro l pre x a' W hwl hl hI hA hlt
    exact absurd hlt (Nat.not_lt_zero _)
  case done =>
    rintro D ys W hD rfl ⟨⟨⟨v, hv, hrow, hnil⟩, hs0⟩, hB⟩ hK
    have hc := hv.cell
    gi_wp2
    refine ⟨by simp, .inl ⟨_, _, rfl, run_takeDeferred hK, ?_⟩⟩
    exact ⟨_, results_tmp rfl _ _ _, v, rfl, ownsRow_putObj (own_less hrow (by omega)) _ hK rfl, hB.trans (belowK_b (w := w) (Nat.le_refl _) W D _ _ (by omega) hK rfl rfl)⟩
  case stop =>
    rintro D c pre W _ _ h _
    exact h.elim
theorem list_nil (w : World) : Calls Try.prog 11 #[.pointer none] w fun e w' => ∃ A c, e = .returned (.slice A 0 c) ∧ Below w.heap.size w w' :=
  (callsIn_wide.1 (list_nil_in w)).mono fun e w' ⟨v, he, ho, hb⟩ => by
    have hR : Kd.R k39 39 w' w.heap.size (fun _ => True) v [] := ⟨fun _ _ => trivial, _, ho, Reps.none _ _⟩
    obtain ⟨A, c, rfl⟩ := Kd.R_slice hR
    exact ⟨A, c, he, hb⟩
set_option maxRecDepth 100000 in
set_option maxHeartbeats 4000000 in
theorem values_nil_in (own : Int) (w : World) : CallsIn Fence.wide 3 Try.prog 14 #[.pointer none, .int .i64 own] w fun e W' => ∃ v, e = .returned v ∧ W'.ownsRow w.heap.size 2 1 v (valL none32 own []).length ((valL none32 own []).map (Value.int .i64)) ∧ Below w.heap.size w W' := by
  obtain ⟨i0, hi, hz0, hz1, hz2⟩ := info_parts info_l
  refine callsIn_of_wp_marks Try.func14 rfl trivial ?_ rfl
  simp only [Try.ntmps14, List.size_toArray, List.length_cons, List.length_nil, Nat.reduceAdd, Nat.reduceSub, Array.replicate_succ, Array.replicate_zero, List.push_toArray, List.append_toArray, List.nil_append, List.cons_append]
  gi_wp2_with (refine ⟨trivial, ?_⟩; gi_at_call 25; refine (all_nil_in 2 _).mono ?_; rintro e w' ⟨rfl, rfl⟩)
  obtain ⟨W0, hW0⟩ : ∃ W0, ((w.alloc (.cells #[.int .i64 own] 3)).alloc (.cells #[.slice none 0 0] 37)).alloc (.cells #[.pointer none] 50) = W0 := ⟨_, rfl⟩
  have hsz : W0.heap.size = w.heap.size + 3 := by rw [← hW0]; simp
  have c0 : W0.cell? ⟨w.heap.size, 0, none⟩ = some (.int .i64 own) := by rw [← hW0]; simp [go_sem]
  have bO : Boxed W0 (w.heap.size + 1) 37 (.slice none 0 0) := by
    have b := (Boxed.new (w.alloc (.cells #[.int .i64 own] 3)) 37 (.slice none 0 0)).alloc (.cells #[.pointer none] 50)
    rw [World.size_alloc, hW0] at b
    exact b
  have c1 : W0.cell? ⟨w.heap.size + 1 + 1, 0, none⟩ = some (.pointer none) := by rw [← hW0]; simp [go_sem]
  have hB0 : Below w.heap.size w W0 := by rw [← hW0]; exact (((Below.refl _ w).alloc (Nat.le_refl _) _).alloc (by simp) _).alloc (by simp <;> omega) _
  rw [hW0]
  refine wpIn_rangeFunc_ownH rfl (by omega) (gf := 31) (lb := #[.pointer (some ⟨w.heap.size + 1 + 1, 0, none⟩)]) rfl trivial (enters_of Try.func31 (by kernel_rfl) rfl)
    (all_stops_nil 2 (w.heap.size + 1 + 1) W0 (by omega) c1) (fun _ _ => trivial) (fun _ _ _ _ _ _ _ _ => trivial) (Below.refl _ _) (fun _ => rfl)
    (fun pre W => ((∃ v, Boxed W (w.heap.size + 1) 37 v ∧ W.ownsRow W0.heap.size 2 1 v (valL none32 own pre).length ((valL none32 own pre).map (Value.int .i64)) ∧ True) ∧ (W.cell? ⟨w.heap.size, 0, none⟩ = some (.int .i64 own) ∧ W0.heap.size ≤ W.heap.size)) ∧ Below w.heap.size w W)
    (fun _ _ _ => False)
    (OwnFrom.and (OwnFrom.and (Own.from (holdsRow_own W0.heap.size (w.heap.size + 1) 37 2 1 (fun pre => (valL none32 own pre).length) (fun pre => (valL none32 own pre).map (Value.int .i64)) (fun _ _ => True)) _) (Own.from (fun s A B row hs hg hr => ⟨cell_kept hs.1 hg hr, Nat.le_trans hs.2 hg.size⟩) _)) (ownFrom_below (Nat.le_refl _) (by omega)))
    (fun _ _ _ _ _ hs _ _ => hs)
    ⟨⟨⟨_, bO, World.ownsRow_nil _ _ _ _, trivial⟩, c0, Nat.le_refl _⟩, hB0⟩
    (fun x a' W => ∃ h, W.heap[h]? = some (.cells (pairV none32 x) 27 (0, 0)) ∧ a' = { tmps := #[.pointer none, .int .i64 own, undef, .pointer (some ⟨w.heap.size, 0, none⟩), .slice none 0 0, .pointer (some ⟨w.heap.size + 1, 0, none⟩), .int .i64 (x : Int), .pointer (some ⟨h, 0, none⟩), undef, undef, .pointer none, .func (.func 31) #[] #[.pointer (some ⟨w.heap.size + 1 + 1, 0, none⟩)], .int .i64 (x : Int), .agg (pairV none32 x), undef, undef, undef, undef, undef, undef, undef, undef, undef, undef, undef, undef, undef, undef], defers := [] })
    (fun x a' _ A B row hs hg hr => by obtain ⟨h, hb, e⟩ := hs; exact ⟨h, blk_owned hb hg (fun r q => (hr r q).2), e⟩)
    ?assign ?body ?done ?stop
  case assign =>
    intro l pre x W K hI hK
    obtain ⟨V, hV⟩ : ∃ V, pairV none32 x = V := ⟨_, rfl⟩
    have hV2 := pairV_eq none32 x
    rw [hV] at hV2
    unfold encN
    rw [hV] at hK ⊢
    subst hV2
    gi_wp2
    have hlt : w.heap.size < W.heap.size := by have := hI.1.2.2; omega
    refine hK _ _ ⟨by simp, fun k o _ hk _ => blk_alloc hk _⟩ trivial ⟨⟨?_, ?_, by have := hI.1.2.2; simp; omega⟩, hI.2.alloc hI.2.size _⟩ ⟨_, heap_alloc_new _ _, rfl⟩
    · obtain ⟨v, hv, hr, ht⟩ := hI.1.1
      exact ⟨v, hv.alloc _, hr.alloc _, ht⟩
    · exact (((Below.refl W.heap.size W).alloc (Nat.le_refl _) _).cell (p := ⟨w.heap.size, 0, none⟩) hlt).trans hI.1.2.1
  case body =>
    rintro l pre x a' W hwl hl hI hA hlt
    exact absurd hlt (Nat.not_lt_zero _)
  case done =>
    rintro D ys W hD rfl ⟨⟨⟨v, hv, hrow, hnil⟩, hc0, hs0⟩, hB⟩ hK
    have hc := hv.cell
    gi_wp2
    refine ⟨by simp, .inl ⟨_, _, rfl, run_takeDeferred hK, ?_⟩⟩
    exact ⟨_, results_tmp rfl _ _ _, v, rfl, ownsRow_putObj (own_less hrow (by omega)) _ hK rfl, hB.trans (belowK_b (w := w) (Nat.le_refl _) W D _ _ (by omega) hK rfl rfl)⟩
  case stop =>
    rintro D c pre W _ _ h _
    exact h.elim
theorem values_nil (own : Int) (w : World) : Calls Try.prog 14 #[.pointer none, .int .i64 own] w fun e w' => ∃ A c, e = .returned (.slice A 0 c) ∧ Below w.heap.size w w' :=
  (callsIn_wide.1 (values_nil_in own w)).mono fun e w' ⟨v, he, ho, hb⟩ => by
    have hR : Kd.R (Kd.int .i64) 2 w' w.heap.size (fun _ => True) v [] := Kd.R_of_own ho (fun _ _ => trivial)
    obtain ⟨A, c, rfl⟩ := Kd.R_slice hR
    exact ⟨A, c, he, hb⟩
theorem count_nil (w : World) : Calls Try.prog 15 #[.pointer none] w fun e w' => e = .returned (.int .i64 0) ∧ Below w.heap.size w w' := by
  go_enter Try.func15, Try.ntmps15
  go_wp2_with (go_at_call 11; refine (list_nil _).mono ?_; rintro e w1 ⟨A, c, rfl, hB⟩)
  go_ret
  exact ⟨rfl, hB⟩
theorem clear_nil (w : World) : Calls Try.prog 23 #[.pointer none] w fun e w' => e = .returned (.int .i64 0) ∧ Below w.heap.size w w' := by
  go_enter Try.func23, Try.ntmps23
  go_wp2_with (go_at_call 15; refine (count_nil _).mono ?_; rintro e w1 ⟨rfl, hB⟩)
  go_ret
  exact ⟨rfl, hB⟩
end Go.Proofs.Ytfhkmokgbndeeaa.Hand
