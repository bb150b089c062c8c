/- What 'group.List' computes, by hand: it collects what a range over a function tells. -/
import Derived.Test.YtfjjeadoaoedoaaHandAfter
set_option linter.unusedVariables false
set_option linter.unusedSimpArgs false
namespace Go.Proofs.Ytfjjeadoaoedoaa.Hand
open Go.RowKit Go.Shelf Go.Proofs.Ytfjjeadoaoedoaa.Grp Go.Proofs.YtfjjeadoaoedoaaW.PrintWords Go.Proofs.YtfjjeadoaoedoaaW.PrintMore
attribute [local go_sem] Oper.semAt_some

theorem info_int : (Try.prog.info? 3).map (fun i => (i.zero, i.size, i.bytes)) = some (some (.int .i64 0), 1, 8) := by kernel_rfl
theorem under_ints : Try.prog.underlying 24 = some (.slice 3) := by kernel_rfl
def lstG (g : Int) (xs : List Int) : List Int := xs.filter fun x => hasB g x
theorem lstG_hit (g : Int) (pre : List Int) {x : Int} (h : hasB g x = true) : lstG g (pre ++ [x]) = lstG g pre ++ [x] := by simp [lstG, h]
theorem lstG_miss (g : Int) (pre : List Int) {x : Int} (h : hasB g x = false) : lstG g (pre ++ [x]) = lstG g pre := by simp [lstG, h]
/-- The nodes of a group. -/
def listG (g : Int) : List Int := lstG g (aftL 15 16)

set_option maxRecDepth 100000 in
set_option maxHeartbeats 2000000 in
theorem list_in (g : Int) (w : World) : CallsIn Fence.wide 3 Try.prog 11 #[.int .u16 g] w fun e W' => ∃ v, e = .returned v ∧ W'.ownsRow w.heap.size 3 1 v (listG g).length ((listG g).map (Value.int .i64)) ∧ Below w.heap.size w W' := by
  obtain ⟨i0, hi, hz0, hz1, hz2⟩ := info_parts info_int
  refine callsIn_of_wp_marks Try.func11 rfl trivial ?_ rfl
  simp only [Try.ntmps11, List.size_toArray, List.length_cons, List.length_nil, Nat.reduceAdd, Nat.reduceSub, Array.replicate_succ, Array.replicate_zero, List.push_toArray, List.append_toArray, List.nil_append, List.cons_append]
  gi_wp2
  gi_wp2_with (refine ⟨trivial, ?_⟩; gi_at_call 39; refine (after_in Fence.wide 2 trivial rfl _ _).mono ?_; rintro e w' ⟨rfl, rfl⟩)
  obtain ⟨W0, hW0⟩ : ∃ W0, ((w.alloc (.cells #[.int .u16 g] 23)).alloc (.cells #[.slice none 0 0] 24)).alloc (.cells #[.int .i64 15] 3) = W0 := ⟨_, rfl⟩
  have hsz : W0.heap.size = w.heap.size + 3 := by rw [← hW0]; simp
  have c0 : W0.cell? ⟨w.heap.size, 0, none⟩ = some (.int .u16 g) := by rw [← hW0]; simp [go_sem]
  have bO : Boxed W0 (w.heap.size + 1) 24 (.slice none 0 0) := by
    have b := (Boxed.new (w.alloc (.cells #[.int .u16 g] 23)) 24 (.slice none 0 0)).alloc (.cells #[.int .i64 15] 3)
    rw [World.size_alloc, hW0] at b
    exact b
  have c2 : W0.cell? ⟨w.heap.size + 1 + 1, 0, none⟩ = some (.int .i64 (15 : Nat)) := by rw [← hW0]; simp [go_sem]
  have hB0 : Below w.heap.size w W0 := by rw [← hW0]; exact (((Below.refl _ w).alloc (Nat.le_refl _) _).alloc (by simp) _).alloc (by simp <;> omega) _
  rw [hW0]
  refine wpIn_rangeFunc_ownG rfl (by omega) (gf := 47) (lb := #[.pointer (some ⟨w.heap.size + 1 + 1, 0, none⟩)]) rfl trivial (enters_of Try.func47 (by kernel_rfl) rfl)
    (after_stops Fence.wide 2 trivial rfl (by omega) (w.heap.size + 1 + 1) 15 (by omega) W0 (by omega) c2) kcell_t kcell_b (Below.refl _ _) (fun _ => rfl)
    (fun pre W => ((∃ v, Boxed W (w.heap.size + 1) 24 v ∧ W.ownsRow W0.heap.size 3 1 v (lstG g pre).length ((lstG g pre).map (Value.int .i64)) ∧ True) ∧ (W.cell? ⟨w.heap.size, 0, none⟩ = some (.int .u16 g) ∧ W0.heap.size ≤ W.heap.size)) ∧ Below w.heap.size w W)
    (fun _ _ _ => False)
    (OwnFrom.and (OwnFrom.and (Own.from (holdsRow_own W0.heap.size (w.heap.size + 1) 24 3 1 (fun pre => (lstG g pre).length) (fun pre => (lstG g pre).map (Value.int .i64)) (fun _ _ => True)) _) (Own.from (fun s A B row hs hg hr => ⟨cell_kept hs.1 hg hr, Nat.le_trans hs.2 hg.size⟩) _)) (ownFrom_below (Nat.le_refl _) (by omega)))
    (fun _ _ _ _ _ hs _ _ => hs)
    ⟨⟨⟨_, bO, World.ownsRow_nil _ _ _ _, trivial⟩, c0, Nat.le_refl _⟩, hB0⟩
    (fun x => { tmps := #[.int .u16 g, .pointer (some ⟨w.heap.size, 0, none⟩), .slice none 0 0, .pointer (some ⟨w.heap.size + 1, 0, none⟩), .int .i64 x, .func (.func 47) #[] #[.pointer (some ⟨w.heap.size + 1 + 1, 0, none⟩)], .int .i64 x, undef, undef, undef, undef, undef, undef, undef, undef], defers := [] }) ?assign ?body ?done ?stop
  case assign =>
    intro l x W K hK
    gi_wp2
    exact hK
  case body =>
    rintro l pre x W ⟨⟨⟨v, hv, hrow, hnil⟩, hc0, hs0⟩, hB⟩ hlt
    have hc := hv.cell
    have hBs := hB.size
    have hpl : (lstG g pre).length ≤ pre.length := List.length_filter_le _ _
    cases hx : hasB g x with
    | true =>
      gi_wp2_with (first | (refine ⟨trivial, ?_⟩; gi_at_call 14; refine (CallsIn.inRound l (callsIn_wide.2 (has_core _ _ _))).mono ?_; rintro e w' ⟨rfl, rfl⟩) | (gi_at_builtin; refine wpListIn_append_own _ rfl _ _ 24 rfl W0.heap.size 3 i0 (.int .i64 0) 1 8 under_ints hi hz0 hz1 hz2 rfl (by decide) _ _ _ rfl (hrow.alloc _) ⟨_, 0, none⟩ 1 1 [.int .i64 x] rfl rfl (cell_one_new _ _ _) (by simp [Value.oneCell']) (by unfold maxLen; omega) (by omega) (by simp; omega) ?_; intro v' w1 hown' hgrow _; obtain ⟨g', cap', rfl⟩ := ownsRow_succ hown'; obtain ⟨hv1, hv2, hr2, hk2, hb2⟩ := hv.appended (by decide) (own_less hrow (by omega : w.heap.size ≤ W0.heap.size)) hB.size (by omega) (own_less hown' (by omega : w.heap.size ≤ W0.heap.size)) hgrow; have hc1 := hv1.cell; have hf1 := hv1.frozen))
      have hq := hown'.kept (grownBy_setCell' w1 (w.heap.size + 1) (.slice (some ⟨g', 0, none⟩) ((lstG g pre).length + 1) cap')) (.inr (hv1.not_row (by decide) hown').symm)
      have hbN : Below W0.heap.size _ w1 := ((Below.refl W0.heap.size _).alloc hs0 _).grown hgrow (by simp; omega) (fun j ej => by
        rcases hrow.2 with ⟨rfl, _⟩ | ⟨gg, cap, cur, rfl, hb, _, _⟩
        · exact nomatch (show (none : Option Nat) = some j from ej)
        · cases (show some gg = some j from ej); exact hb)
      have k0 := (hbN.cell (p := ⟨w.heap.size, 0, none⟩) (by show w.heap.size < _; omega)).trans hc0
      exact ⟨hk2.from _, fun q => (World.cell?_setCell_other _ _ _ _ (by simp)).trans ((hbN.cell (p := ⟨w.heap.size + 1 + 1, 0, none⟩) (by show w.heap.size + 1 + 1 < _; omega)).trans q), ⟨⟨_, hv2, by rw [lstG_hit g pre hx]; simpa using hq, trivial⟩, (World.cell?_setCell_other _ _ _ _ (by simp)).trans k0, by have := hb2.size; omega⟩, hB.trans hb2⟩
    | false =>
      gi_wp2_with (refine ⟨trivial, ?_⟩; gi_at_call 14; refine (CallsIn.inRound l (callsIn_wide.2 (has_core _ _ _))).mono ?_; rintro e w' ⟨rfl, rfl⟩)
      exact ⟨KeepsFrom.refl _ _, fun q => q, ⟨⟨v, hv, by rw [lstG_miss g pre hx]; exact hrow, trivial⟩, hc0, hs0⟩, hB⟩
  case done =>
    rintro D ys W hD rfl ⟨⟨⟨v, hv, hrow, hnil⟩, hc0, hs0⟩, hB⟩ hK
    have hc := hv.cell
    gi_wp2
    refine ⟨by simp, .inl ⟨_, _, rfl, run_takeDeferred hK, ?_⟩⟩
    exact ⟨_, results_tmp rfl _ _ _, v, rfl, ownsRow_putObj (own_less hrow (by omega)) _ hK rfl, hB.trans (belowK_b (w := w) (Nat.le_refl _) W D _ _ (by omega) hK rfl rfl)⟩
  case stop =>
    rintro D c pre W _ _ h _
    exact h.elim
theorem list_core (g : Int) (w : World) : Calls Try.prog 11 #[.int .u16 g] w fun e w' => ∃ v0, e = .returned v0 ∧ Kd.R (Kd.int .i64) 3 w' w.heap.size (fun _ => True) v0 (listG g) ∧ Below w.heap.size w w' :=
  (callsIn_wide.1 (list_in g w)).mono fun e w' ⟨v, he, ho, hb⟩ => ⟨v, he, Kd.R_of_own ho (fun _ _ => trivial), hb⟩
def group_List.f (a0 : Int) : Option (List Int) := some (listG a0)
theorem group_List.calls (a0 : Int) (r : List Int) (w : World) (h : group_List.f a0 = some r) : Calls Try.prog 11 #[.int .u16 a0] w fun e w' => ∃ v0, e = .returned v0 ∧ Kd.R (Kd.int .i64) 3 w' w.heap.size (fun _ => True) v0 r ∧ Below w.heap.size w w' :=
  (list_core a0 w).mono fun e w' ⟨v, he, hr, hb⟩ => ⟨v, he, by rw [← Option.some.inj h]; exact hr, hb⟩
end Go.Proofs.Ytfjjeadoaoedoaa.Hand
