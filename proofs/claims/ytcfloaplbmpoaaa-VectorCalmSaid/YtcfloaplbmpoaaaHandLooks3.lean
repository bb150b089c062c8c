/- What 'vector.Looks' computes, by hand. -/
import Derived.Test.YtcfloaplbmpoaaaHandLooks2
set_option linter.unusedVariables false
set_option linter.unusedSimpArgs false
namespace Go.Proofs.Ytcfloaplbmpoaaa.Hand
open Go.RowKit Go.Shelf Go.Proofs.Ytcfloaplbmpoaaa.Grp Go.Proofs.YtcfloaplbmpoaaaW.PrintWords Go.Proofs.YtcfloaplbmpoaaaW.PrintMore
attribute [local go_sem] Oper.semAt_some

theorem info_grp : (Try.prog.info? 23).map (fun i => (i.zero, i.size, i.bytes)) = some (some (.int .u16 0), 1, 2) := by kernel_rfl
theorem under_grps : Try.prog.underlying 26 = some (.slice 23) := by kernel_rfl
theorem may_ack {o v a f n : Int} (h : mayV o v a f n = true) : 0 ≤ a ∧ a ≤ 2 := by
  unfold mayV viewV at h
  simp only [Bool.and_eq_true, decide_eq_true_eq] at h
  omega
def seqL (pre : List Int) : List Int := pre
theorem seqL_snoc (pre : List Int) (x : Int) : seqL (pre ++ [x]) = seqL pre ++ [x] := rfl
theorem looksV_len (o v a f n : Int) : (looksV o v a f n).length ≤ 2 := by
  unfold looksV
  split <;> simp

set_option maxRecDepth 100000 in
set_option maxHeartbeats 2000000 in
theorem looks_no (o v a f n : Int) (hm : mayV o v a f n = false) (w : World) : Calls Try.prog 8 #[.agg #[.int .i64 o, .int .u16 v, .int .i64 a, .int .i64 f], .int .i64 n] w fun e w' => e = .returned (.tuple #[.slice none 0 0, .int .i64 180]) ∧ Below w.heap.size w w' := by
  go_enter Try.func8, Try.ntmps8
  go_wp2_with (go_at_call 28; refine (vector_may.calls o v a f n false _ (by unfold vector_may.f; rw [hm])).mono ?_; rintro e w' ⟨rfl, hb⟩)
  refine bodyPost_ret (results_tmp2 rfl _ _ _) rfl ?_
  exact ⟨rfl, ((Below.refl _ w).alloc (Nat.le_refl _) _).trans (hb.mono (by simp))⟩
theorem vmay_t (o v a f n : Int) (hm : mayV o v a f n = true) (w : World) : Calls Try.prog 28 #[.agg #[.int .i64 o, .int .u16 v, .int .i64 a, .int .i64 f], .int .i64 n] w fun e w' => e = .returned (.bool true) ∧ w' = (w.alloc (.cells #[.int .i64 o, .int .u16 v, .int .i64 a, .int .i64 f] 25)).alloc (.cells #[.int .i64 o, .int .u16 v, .int .i64 a, .int .i64 f] 25) := by
  have := vmay_core o v a f n w
  rwa [hm] at this
set_option maxRecDepth 100000 in
set_option maxHeartbeats 4000000 in
theorem looks_yes (o v a f n : Int) (hm : mayV o v a f n = true) (w : World) : CallsIn Fence.wide 3 Try.prog 8 #[.agg #[.int .i64 o, .int .u16 v, .int .i64 a, .int .i64 f], .int .i64 n] w fun e W' => ∃ v0, e = .returned (.tuple #[v0, .int .i64 0]) ∧ W'.ownsRow w.heap.size 23 1 v0 (looksV o v a f n).length ((looksV o v a f n).map (Value.int .u16)) ∧ Below w.heap.size w W' := by
  obtain ⟨i0, hi, hz0, hz1, hz2⟩ := info_parts info_grp
  refine callsIn_of_wp_marks Try.func8 rfl trivial ?_ rfl
  simp only [Try.ntmps8, List.size_toArray, List.length_cons, List.length_nil, Nat.reduceAdd, Nat.reduceSub, Array.replicate_succ, Array.replicate_zero, List.push_toArray, List.append_toArray, List.nil_append, List.cons_append]
  have HMAY := Lib.hid (may_ack hm)
  have HM := Lib.hid hm
  refine wpIn_wide.2 ?_
  go_wp2_with (first | (go_at_call 28; refine (vmay_t o v a f n HM.out _).mono ?_; rintro e w1 ⟨rfl, rfl⟩) | (go_at_call 29; refine (looks_maker o v a f n _).mono ?_; rintro e V ⟨rfl, hBV, k1, k2, k3, k4, hsV⟩))
  refine (wpIn_wide (n := 3)).1 ?_
  simp only [World.size_alloc] at hBV k1 k2 k3 k4 hsV
  have bX : Boxed V (w.heap.size + 1 + 1 + 1) 26 (.slice none 0 0) := by
    refine (hBV.block _ (by omega)).trans ?_
    have b := Boxed.new (((w.alloc (.cells #[.int .i64 o, .int .u16 v, .int .i64 a, .int .i64 f] 25)).alloc (.cells #[.int .i64 o, .int .u16 v, .int .i64 a, .int .i64 f] 25)).alloc (.cells #[.int .i64 o, .int .u16 v, .int .i64 a, .int .i64 f] 25)) 26 (.slice none 0 0)
    simp only [World.size_alloc] at b
    exact b
  have hB0 : Below w.heap.size w V := by
    refine Below.trans ?_ (hBV.mono (by omega))
    exact ((((Below.refl _ w).alloc (Nat.le_refl _) _).alloc (by simp) _).alloc (by simp <;> omega) _).alloc (by simp <;> omega) _
  refine wpIn_rangeFunc_ownG rfl (by omega) (gf := 39) (lb := #[.pointer (some ⟨w.heap.size + 1 + 1 + 1 + 1 + 1, 0, none⟩), .pointer (some ⟨w.heap.size + 1 + 1 + 1 + 1, 0, none⟩), .pointer (some ⟨w.heap.size + 1 + 1 + 1 + 1 + 2, 0, none⟩)]) rfl trivial (enters_of Try.func39 (by kernel_rfl) rfl)
    (looks_stops 2 (w.heap.size + 1 + 1 + 1 + 1 + 1) (w.heap.size + 1 + 1 + 1 + 1) (w.heap.size + 1 + 1 + 1 + 1 + 2) o v a f n HMAY.out V (by omega) (by omega) (by omega) k1 k2 k3 k4) kblk_t kblk_b (Below.refl _ _) (fun _ => rfl)
    (fun pre W => ((∃ v, Boxed W (w.heap.size + 1 + 1 + 1) 26 v ∧ W.ownsRow V.heap.size 23 1 v (seqL pre).length ((seqL pre).map (Value.int .u16)) ∧ True) ∧ V.heap.size ≤ W.heap.size) ∧ Below w.heap.size w W)
    (fun _ _ _ => False)
    (OwnFrom.and (OwnFrom.and (Own.from (holdsRow_own V.heap.size (w.heap.size + 1 + 1 + 1) 26 23 1 (fun pre => (seqL pre).length) (fun pre => (seqL pre).map (Value.int .u16)) (fun _ _ => True)) _) (Own.from (fun s A B row hs hg hr => Nat.le_trans hs hg.size) _)) (ownFrom_below (Nat.le_refl _) (by omega)))
    (fun _ _ _ _ _ hs _ _ => hs)
    ⟨⟨⟨_, bX, World.ownsRow_nil _ _ _ _, trivial⟩, Nat.le_refl _⟩, hB0⟩
    (fun x => { tmps := #[.agg #[.int .i64 o, .int .u16 v, .int .i64 a, .int .i64 f], .int .i64 n, .pointer (some ⟨w.heap.size, 0, none⟩), undef, .slice none 0 0, .int .i64 0, .pointer (some ⟨w.heap.size + 1 + 1 + 1, 0, none⟩), .int .u16 x, .agg #[.int .i64 o, .int .u16 v, .int .i64 a, .int .i64 f], .int .i64 n, .bool true, .bool false, .agg #[.int .i64 o, .int .u16 v, .int .i64 a, .int .i64 f], .int .i64 n, .func (.func 39) #[] #[.pointer (some ⟨w.heap.size + 1 + 1 + 1 + 1 + 1, 0, none⟩), .pointer (some ⟨w.heap.size + 1 + 1 + 1 + 1, 0, none⟩), .pointer (some ⟨w.heap.size + 1 + 1 + 1 + 1 + 2, 0, none⟩)], .int .u16 x, undef, undef, undef, undef, undef], defers := [] }) ?assign ?body ?done ?stop
  case assign =>
    intro l x W K hK
    gi_wp2
    exact hK
  case body =>
    rintro l0 pre x W ⟨⟨⟨vv, hv, hrow, hnil⟩, hs0⟩, hB⟩ hlt
    have hc := hv.cell
    have hBs := hB.size
    have hpl : (seqL pre).length ≤ 2 := by show pre.length ≤ 2; omega
    gi_wp2_with (gi_at_builtin; refine wpListIn_append_own _ rfl _ _ 26 rfl V.heap.size 23 i0 (.int .u16 0) 1 2 under_grps hi hz0 hz1 hz2 rfl (by decide) _ _ _ rfl (hrow.alloc _) ⟨_, 0, none⟩ 1 1 [.int .u16 x] rfl rfl (cell_one_new _ _ _) (by simp [Value.oneCell']) (by unfold maxLen; omega) (by omega) (by simp; omega) ?_; intro v' w1 hown' hgrow _; obtain ⟨g', cap', rfl⟩ := ownsRow_succ hown'; obtain ⟨hv1, hv2, hr2, hk2, hb2⟩ := hv.appended (by decide) (own_less hrow (by omega : w.heap.size ≤ V.heap.size)) hB.size (by omega) (own_less hown' (by omega : w.heap.size ≤ V.heap.size)) hgrow; have hc1 := hv1.cell; have hf1 := hv1.frozen)
    have hq := hown'.kept (grownBy_setCell' w1 (w.heap.size + 1 + 1 + 1) (.slice (some ⟨g', 0, none⟩) ((seqL pre).length + 1) cap')) (.inr (hv1.not_row (by decide) hown').symm)
    have hbN : Below V.heap.size _ w1 := ((Below.refl V.heap.size _).alloc hs0 _).grown hgrow (by simp; omega) (fun j ej => by
      rcases hrow.2 with ⟨rfl, _⟩ | ⟨gg, cap, cur, rfl, hb, _, _⟩
      · exact nomatch (show (none : Option Nat) = some j from ej)
      · cases (show some gg = some j from ej); exact hb)
    have kk : KBlk [w.heap.size + 1 + 1 + 1 + 1 + 1, w.heap.size + 1 + 1 + 1 + 1, w.heap.size + 1 + 1 + 1 + 1 + 2] W (w1.setCell ⟨w.heap.size + 1 + 1 + 1, 0, none⟩ (.slice (some ⟨g', 0, none⟩) ((seqL pre).length + 1) cap')) := by
      intro B hBm o u hu
      have hlt : B < V.heap.size ∧ B ≠ w.heap.size + 1 + 1 + 1 := by
        simp only [List.mem_cons, List.not_mem_nil, or_false] at hBm
        omega
      exact (World.cell?_setCell_other _ _ _ _ (by intro e; cases e; exact hlt.2 rfl)).trans ((hbN.cell (p := ⟨B, o, none⟩) hlt.1).trans hu)
    exact ⟨hk2.from _, kk, ⟨⟨_, hv2, by rw [seqL_snoc]; simpa using hq⟩, by have := hb2.size; omega⟩, hB.trans hb2⟩
  case done =>
    rintro D ys W hD rfl ⟨⟨⟨vv, hv, hrow, hnil⟩, hs0⟩, hB⟩ hK
    have hc := hv.cell
    have hR := Lib.hid hrow
    clear hrow
    gi_wp2
    go_wp2
    refine ⟨by simp, .inl ⟨_, _, rfl, run_takeDeferred hK, ?_⟩⟩
    exact ⟨_, results_tmp2 rfl _ _ _, vv, rfl, ownsRow_putObj (own_less hR.out (by omega)) _ hK rfl, hB.trans (belowK_b (w := w) (Nat.le_refl _) W D _ _ (by omega) hK rfl rfl)⟩
  case stop =>
    rintro D c pre W _ _ h _
    exact h.elim
def vector_Looks.f (a0_0 a0_1 a0_2 a0_3 a1 : Int) : Option (List Int × Int) := some (if mayV a0_0 a0_1 a0_2 a0_3 a1 = true then (looksV a0_0 a0_1 a0_2 a0_3 a1, 0) else ([], 180))
theorem vector_Looks.calls (a0_0 a0_1 a0_2 a0_3 a1 : Int) (r1 : List Int) (r2 : Int) (w : World) (h : vector_Looks.f a0_0 a0_1 a0_2 a0_3 a1 = some (r1, r2)) :
    Calls Try.prog 8 #[.agg #[.int .i64 a0_0, .int .u16 a0_1, .int .i64 a0_2, .int .i64 a0_3], .int .i64 a1] w fun e w' => ∃ v0_ : Value, e = .returned (.tuple #[v0_, .int .i64 r2]) ∧ Kd.R (Kd.int .u16) 23 w' w.heap.size (fun _ => True) v0_ r1 ∧ Below w.heap.size w w' := by
  unfold vector_Looks.f at h
  have h := Option.some.inj h
  cases hm : mayV a0_0 a0_1 a0_2 a0_3 a1 with
  | false =>
    rw [if_neg (by rw [hm]; decide)] at h
    cases h
    exact (looks_no a0_0 a0_1 a0_2 a0_3 a1 hm w).mono fun e w' ⟨h1, h2⟩ => ⟨_, h1, Kd.R_nil _ _ _ _ _, h2⟩
  | true =>
    rw [if_pos hm] at h
    cases h
    exact (callsIn_wide.1 (looks_yes a0_0 a0_1 a0_2 a0_3 a1 hm w)).mono fun e w' ⟨v, he, ho, hb⟩ => ⟨v, he, Kd.R_of_own ho (fun _ _ => trivial), hb⟩
end Go.Proofs.Ytcfloaplbmpoaaa.Hand
