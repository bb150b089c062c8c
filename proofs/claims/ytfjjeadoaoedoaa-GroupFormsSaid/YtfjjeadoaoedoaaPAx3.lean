/- Written by a program of this session (wip/jprint.py, over the printer of the kit): functions that a law comes to, as plain Lean functions, and walks; Lean checks it. -/
import Derived.Test.YtfjjeadoaoedoaaPAx0
import Derived.Test.YtfjjeadoaoedoaaPAx1
import Derived.Test.YtfjjeadoaoedoaaPAx2
namespace Go.Proofs.Ytfjjeadoaoedoaa.PA
open Go.RowKit Go.Proofs.Ytfjjeadoaoedoaa.Hand Go.Proofs.YtfjjeadoaoedoaaW.PrintWords Go.Proofs.YtfjjeadoaoedoaaW.PrintLast Go.Proofs.YtfjjeadoaoedoaaW.PrintMore
attribute [local go_sem] max2_int min2_int max_two min_two max_three min_three max_four min_four   -- for this text's walks alone
set_option linter.unusedVariables false
set_option linter.unusedSimpArgs false

/-! ### vesperslaw03_GroupAsks: function 3 -/
def vesperslaw03_GroupAsks.l0 : Nat → Int → Int → Int → List Int → Bool → Int → Int → Option (Bool)
  | 0, _, _, _, _, _, _, _ => none
  | k + 1, x0, x1, x2, x7, x8, x17, x18 => if x18 < x17 then (if 0 ≤ x18 then (if x18 < (x7.length : Int) then (vesperslaw03_GroupAsks.l0 k x0 x1 x2 (x7.set (x18 : Int).toNat 99) x8 x17 (wrap64 (x18 + 1))) else (none)) else (none)) else (if x8 = true then ((group_List.f x0).bind fun t144 => ((vespersref03_List.f k x0).bind fun t147 => ((vespersref03_Ints.f k t144 t147).bind fun t150 => (if t150 = true then ((group_Has.f x0 x2).bind fun t151 => ((vespersref03_Has.f k x0 x2).bind fun t152 => (if (t151 == t152) = true then ((group_With.f x0 x2).bind fun t153 => ((vespersref03_With.f k x0 x2).bind fun t154 => (if t153 = t154 then ((group_Without.f x0 x2).bind fun t155 => ((vespersref03_Without.f k x0 x2).bind fun t156 => (if t155 = t156 then ((group_Count.f x0).bind fun t157 => ((vespersref03_Count.f k x0).bind fun t158 => (if t157 = t158 then ((group_Next.f x0 x2).bind fun t159 => ((vespersref03_Next.f k x0 x2).bind fun t160 => (if t159 = t160 then ((group_Rank.f x0 x2).bind fun t161 => ((vespersref03_Rank.f k x0 x2).bind fun t162 => (if t161 = t162 then ((group_First.f x2).bind fun t163 => ((vespersref03_First.f k x2).bind fun t164 => (if t163 = t164 then ((group_Both.f x0 x1).bind fun t165 => ((vespersref03_Both.f k x0 x1).bind fun t166 => (if t165 = t166 then ((group_Less.f x0 x1).bind fun t167 => ((vespersref03_Less.f k x0 x1).bind fun t168 => (some (t167 == t168)))) else (none)))) else (none)))) else (none)))) else (none)))) else (none)))) else (none)))) else (none)))) else (none)))) else (none))))) else (none))
def vesperslaw03_GroupAsks.f (k : Nat) (a0 : Int) (a1 : Int) (a2 : Int) : Option (Bool) := (group_List.f a0).bind fun t136 => ((vespersref03_List.f k a0).bind fun t139 => ((vespersref03_Ints.f k t136 t139).bind fun t142 => (vesperslaw03_GroupAsks.l0 k a0 a1 a2 t136 t142 (t136.length : Int) 0)))
theorem vesperslaw03_GroupAsks.mono_l : ∀ k, (∀ y0 y1 y2 y3 y4 y5 y6, LeO (vesperslaw03_GroupAsks.l0 k y0 y1 y2 y3 y4 y5 y6) (vesperslaw03_GroupAsks.l0 (k + 1) y0 y1 y2 y3 y4 y5 y6))
  | 0 => fun _ _ _ _ _ _ _ r h => by simp [vesperslaw03_GroupAsks.l0] at h
  | k + 1 => by
    have ih0 := vesperslaw03_GroupAsks.mono_l k
    · intro y0 y1 y2 y3 y4 y5 y6
      unfold vesperslaw03_GroupAsks.l0
      repeat' first
      | (with_reducible exact ih0 _ _ _ _ _ _ _)
      | (with_reducible exact vespersref03_Both.mono _ _ _)
      | (with_reducible exact vespersref03_Count.mono _ _)
      | (with_reducible exact vespersref03_First.mono _ _)
      | (with_reducible exact vespersref03_Has.mono _ _ _)
      | (with_reducible exact vespersref03_Ints.mono _ _ _)
      | (with_reducible exact vespersref03_Less.mono _ _ _)
      | (with_reducible exact vespersref03_List.mono _ _)
      | (with_reducible exact vespersref03_Next.mono _ _ _)
      | (with_reducible exact vespersref03_Rank.mono _ _ _)
      | (with_reducible exact vespersref03_With.mono _ _ _)
      | (with_reducible exact vespersref03_Without.mono _ _ _)
      | (with_reducible exact LeO.refl _)
      | (with_reducible exact LeO.none _)
      | (with_reducible refine LeO.ite ?_ ?_)
      | (with_reducible refine LeO.bind ?_ (fun _ => ?_))
      | exact ih0 _ _ _ _ _ _ _
      | exact vespersref03_Both.mono _ _ _
      | exact vespersref03_Count.mono _ _
      | exact vespersref03_First.mono _ _
      | exact vespersref03_Has.mono _ _ _
      | exact vespersref03_Ints.mono _ _ _
      | exact vespersref03_Less.mono _ _ _
      | exact vespersref03_List.mono _ _
      | exact vespersref03_Next.mono _ _ _
      | exact vespersref03_Rank.mono _ _ _
      | exact vespersref03_With.mono _ _ _
      | exact vespersref03_Without.mono _ _ _
      | exact LeO.none _
      | refine LeO.ite ?_ ?_
      | refine LeO.bind ?_ (fun _ => ?_)
theorem vesperslaw03_GroupAsks.mono : ∀ a0 a1 a2 k, LeO (vesperslaw03_GroupAsks.f k a0 a1 a2) (vesperslaw03_GroupAsks.f (k + 1) a0 a1 a2) := by
  intro a0 a1 a2 k
  have ih0 := vesperslaw03_GroupAsks.mono_l k
  unfold vesperslaw03_GroupAsks.f
  repeat' first
      | (with_reducible exact ih0 _ _ _ _ _ _ _)
      | (with_reducible exact vespersref03_Both.mono _ _ _)
      | (with_reducible exact vespersref03_Count.mono _ _)
      | (with_reducible exact vespersref03_First.mono _ _)
      | (with_reducible exact vespersref03_Has.mono _ _ _)
      | (with_reducible exact vespersref03_Ints.mono _ _ _)
      | (with_reducible exact vespersref03_Less.mono _ _ _)
      | (with_reducible exact vespersref03_List.mono _ _)
      | (with_reducible exact vespersref03_Next.mono _ _ _)
      | (with_reducible exact vespersref03_Rank.mono _ _ _)
      | (with_reducible exact vespersref03_With.mono _ _ _)
      | (with_reducible exact vespersref03_Without.mono _ _ _)
      | (with_reducible exact LeO.refl _)
      | (with_reducible exact LeO.none _)
      | (with_reducible refine LeO.ite ?_ ?_)
      | (with_reducible refine LeO.bind ?_ (fun _ => ?_))
      | exact ih0 _ _ _ _ _ _ _
      | exact vespersref03_Both.mono _ _ _
      | exact vespersref03_Count.mono _ _
      | exact vespersref03_First.mono _ _
      | exact vespersref03_Has.mono _ _ _
      | exact vespersref03_Ints.mono _ _ _
      | exact vespersref03_Less.mono _ _ _
      | exact vespersref03_List.mono _ _
      | exact vespersref03_Next.mono _ _ _
      | exact vespersref03_Rank.mono _ _ _
      | exact vespersref03_With.mono _ _ _
      | exact vespersref03_Without.mono _ _ _
      | exact LeO.none _
      | refine LeO.ite ?_ ?_
      | refine LeO.bind ?_ (fun _ => ?_)
set_option maxHeartbeats 8000000 in
set_option maxRecDepth 100000 in
theorem vesperslaw03_GroupAsks.calls (k : Nat) (a0 : Int) (a1 : Int) (a2 : Int) (r : Bool) (w : World) (h : vesperslaw03_GroupAsks.f k a0 a1 a2 = some r) :
    Calls Try.prog 3 #[.int .u16 a0, .int .u16 a1, .int .i64 a2] w fun e w' => e = .returned (.bool r) ∧ Below w.heap.size w w' := by
  have HB := Aside0.mk (Below.refl w.heap.size w)
  have H : ((group_List.f a0).bind fun t136 => ((vespersref03_List.f k a0).bind fun t139 => ((vespersref03_Ints.f k t136 t139).bind fun t142 => (vesperslaw03_GroupAsks.l0 k a0 a1 a2 t136 t142 (t136.length : Int) 0)))) = some r := h
  clear h
  replace H := Option.bind_eq_some_iff.mp H
  obtain ⟨t136, A40, H⟩ := H
  replace H : ((vespersref03_List.f k a0).bind fun t139 => ((vespersref03_Ints.f k t136 t139).bind fun t142 => (vesperslaw03_GroupAsks.l0 k a0 a1 a2 t136 t142 (t136.length : Int) 0))) = some r := H
  have A4 := Aside0.mk A40
  clear A40
  replace H := Option.bind_eq_some_iff.mp H
  obtain ⟨t139, A50, H⟩ := H
  replace H : ((vespersref03_Ints.f k t136 t139).bind fun t142 => (vesperslaw03_GroupAsks.l0 k a0 a1 a2 t136 t142 (t136.length : Int) 0)) = some r := H
  have A5 := Aside0.mk A50
  clear A50
  replace H := Option.bind_eq_some_iff.mp H
  obtain ⟨t142, A60, H⟩ := H
  replace H : (vesperslaw03_GroupAsks.l0 k a0 a1 a2 t136 t142 (t136.length : Int) 0) = some r := H
  have A6 := Aside0.mk A60
  clear A60
  have H' := Aside0.mk H
  clear H
  go_enter Try.func3, Try.ntmps3
  go_wp2_with (first | ((with_reducible refine gate_callee (f := 11) rfl ?_); refine goesL_ (some 11) rfl rfl Try.func11 (by kernel_rfl) rfl #[.int .u16 a0] rfl (by (try simp only [List.map_toArray, List.map_cons, List.map_nil]); first | done | rfl | (simp only [List.length_drop, List.length_take]; rfl)) ?_; (with_reducible refine (group_List.calls a0 t136 _ A4.out).mono ?_); rintro e w7 ⟨v137, rfl, ho0, hb⟩; refine ⟨_, rfl, ?_⟩; have n0_ := Aside0.mk (Kd.R_lower ho0 (below_size (by repeat (first | (with_reducible first | exact HB.out | apply below_alloc | apply pw_below_drewN | apply below_drew1) | exact HB.out)))); have n1_ := Aside0.mk (below_step (by repeat (first | (with_reducible first | exact HB.out | apply below_alloc | apply pw_below_drewN | apply below_drew1) | exact HB.out)) hb); clear HB; have HO138 := n0_; have HB := n1_; clear n0_ n1_; (try clear hb); (try clear hb2); (try clear hk); (try clear hi); (try clear ho0)) | ((with_reducible refine gate_callee (f := 13) rfl ?_); refine goesL_ (some 14) rfl rfl Try.func13 (by kernel_rfl) rfl #[.int .u16 a0] rfl (by (try simp only [List.map_toArray, List.map_cons, List.map_nil]); first | done | rfl | (simp only [List.length_drop, List.length_take]; rfl)) ?_; (with_reducible refine (vespersref03_List.calls k a0 t139 _ A5.out).mono ?_); rintro e w8 ⟨v140, rfl, ho0, hb⟩; refine ⟨_, rfl, ?_⟩; have n0_ := Aside0.mk (Kd.R_elder' (by (with_reducible repeat (first | apply Kd.R_alloc | apply Kd.R_drewN | apply Kd.R_drew)); exact HO138.out) (Kd.R_base ho0) hb); have n1_ := Aside0.mk (Kd.R_lower (Kd.R_new' ho0 (Kd.R_lt (by (with_reducible repeat (first | apply Kd.R_alloc | apply Kd.R_drewN | apply Kd.R_drew)); exact HO138.out))) (below_size (by repeat (first | (with_reducible first | exact HB.out | apply below_alloc | apply pw_below_drewN | apply below_drew1) | exact HB.out)))); have n2_ := Aside0.mk (below_step (by repeat (first | (with_reducible first | exact HB.out | apply below_alloc | apply pw_below_drewN | apply below_drew1) | exact HB.out)) hb); clear HO138; clear HB; have HO138 := n0_; have HO141 := n1_; have HB := n2_; clear n0_ n1_ n2_; (try clear hb); (try clear hb2); (try clear hk); (try clear hi); (try clear ho0); obtain ⟨Ao9, co9, eo9⟩ := Kd.R_slice HO138.out; subst eo9; obtain ⟨Ao10, co10, eo10⟩ := Kd.R_slice HO141.out; subst eo10) | ((with_reducible refine gate_callee (f := 12) rfl ?_); refine goesL_ (some 15) rfl rfl Try.func12 (by kernel_rfl) rfl #[.slice Ao9 t136.length co9, .slice Ao10 t139.length co10] rfl (by (try simp only [List.map_toArray, List.map_cons, List.map_nil]); first | done | rfl | (simp only [List.length_drop, List.length_take]; rfl)) ?_; (with_reducible refine (vespersref03_Ints.calls k _ _ t136 _ _ t139 t142 _ ?side1 ?side2 ?side3 ?side4 A6.out).mono ?_); (case side1 => repeat (first | exact (Kd.R_reads' HO138.out).2.2 | (with_reducible refine Kd.C_alloc ?_ _) | (with_reducible refine Kd.C_drewN ?_ _) | (with_reducible refine Kd.C_drew ?_))); (case side2 => exact (Kd.R_reads' HO138.out).2.1); (case side3 => repeat (first | exact (Kd.R_reads' HO141.out).2.2 | (with_reducible refine Kd.C_alloc ?_ _) | (with_reducible refine Kd.C_drewN ?_ _) | (with_reducible refine Kd.C_drew ?_))); (case side4 => exact (Kd.R_reads' HO141.out).2.1); rintro e w' ⟨rfl, ⟨nd, rfl⟩⟩; refine ⟨_, rfl, ?_⟩))
  go_loopg [18] k (fun kq v18 w' => ∃ (x7_1 : List Int) (x18_1 : Int), v18 = .int .i64 x18_1 ∧ Aside0 (vesperslaw03_GroupAsks.l0 kq a0 a1 a2 x7_1 t142 (t136.length : Int) x18_1 = some r) ∧ Aside0 (kq ≤ k) ∧ Aside0 (Kd.R (Kd.int .i64) 3 w' w.heap.size (fun _ => True) (.slice Ao9 t136.length co9) x7_1) ∧ Aside0 (Below w.heap.size w w'))
  case atStart => exact ⟨(t136), (0), (by first | rfl | (simp; done) | (simp [*]; done)), H', ⟨Nat.le_refl _⟩, ⟨by (with_reducible repeat (first | apply Kd.R_alloc | apply Kd.R_drewN | apply Kd.R_drew)); exact Kd.R_mono HO138.out (fun _ hk => trivial)⟩, ⟨by repeat (first | (with_reducible first | exact HB.out | apply below_alloc | apply pw_below_drewN | apply below_drew1) | exact HB.out)⟩⟩
  case round =>
    clear H'
    try clear c1
    try clear p2
    try clear c3
    obtain ⟨x7_1, x18_1, rfl, HA, HK1, HO_7, HB⟩ := hrel
    have hl7_1 := (Kd.R_reads' HO_7.out).1
    rw [hl7_1] at HO_7
    (try simp only [hl7_1])
    cases gk with
    | zero => exact absurd HA.out (by simp [vesperslaw03_GroupAsks.l0])
    | succ k1 =>
      have H := HA.out
      clear HA
      simp only [vesperslaw03_GroupAsks.l0] at H
      by_cases c11 : x18_1 < (t136.length : Int)
      · rw [if_pos c11] at H
        have c11b0 : decide (x18_1 < (t136.length : Int)) = true := decide_eq_true c11
        clear c11
        by_cases c12 : 0 ≤ x18_1
        · rw [if_pos c12] at H
          have c12b0 : decide (0 ≤ x18_1) = true := decide_eq_true c12
          clear c12
          by_cases c13 : x18_1 < (x7_1.length : Int)
          · rw [if_pos c13] at H
            have c13b0 : decide (x18_1 < (x7_1.length : Int)) = true := decide_eq_true c13
            clear c13
            obtain ⟨y143, hy143⟩ : ∃ y_ : List Int, y_ = (x7_1.set (x18_1 : Int).toNat 99) := ⟨_, rfl⟩
            replace H : (vesperslaw03_GroupAsks.l0 k1 a0 a1 a2 y143 t142 (t136.length : Int) (wrap64 (x18_1 + 1))) = some r := by first | (rw [hy143]; with_reducible exact H) | (have H2_ := (Option.bind_some _ _).symm.trans H; rw [hy143]; with_reducible exact H2_) | (have H2_ := (Option.bind_some _ _).symm.trans H; with_reducible exact H2_) | with_reducible exact H | (rw [hy143]; exact H) | exact H
            have Ny143 := Aside0.mk hy143
            clear hy143
            have H' := Aside0.mk H
            clear H
            have p14 : 0 ≤ (x18_1 : Int) := of_decide_eq_true (by first | (with_reducible assumption) | assumption)
            have q14 : (x18_1 : Int) < ((x7_1.length : Int) : Int) := of_decide_eq_true (by first | (with_reducible assumption) | assumption)
            obtain ⟨go14, co14, eo14, gb14, gl14, cl14, HG14⟩ := Kd.R_form HO_7.out (by omega)
            (first | cases eo14 | (injection eo14 with ea_ en_ ec_; (first | subst ea_ | (injection ea_ with ea_; subst ea_)); subst ec_; clear en_))
            have GB14 := Aside0.mk gb14
            have GG14 := Aside0.mk HG14
            clear gb14 gl14 HG14
            obtain ⟨hx14_0, hf14_0⟩ := Kd.R_celln 0 HO_7.out (x18_1 : Int) p14 q14
            replace p14 := eq_true p14
            replace q14 := eq_true q14
            have HP15 := Kd.R_putg HO_7.out (x18_1 : Int) 99
            go_wp2_with (first | ((with_reducible refine gate_store (t := 3) (p := 23) rfl ?_); refine store_event (t := 3) (p := 23) (v := ?vo_w16) (w1 := (wr.setCell ⟨go14, (x18_1 : Int).toNat, none⟩ (.int .i64 99))) ?hg ?ho ?hn ?hr ?_; (case ho => rfl); (case hg => rfl); (case hn => rfl); (case hr => first | (go_simp; done) | (go_simp; rfl)); intro w16 hw; have hg : wr.grownBy w16 (some go14) := (by rw [hw]; exact HP15.2); have hp_ : Kd.R (Kd.int .i64) 3 w16 w.heap.size (fun _ => True) (.slice (some ⟨go14, 0, none⟩) x7_1.length co9) y143 := (by rw [hw, Ny143.out]; exact HP15.1); clear HP15; have n0_ := Aside0.mk (hp_); have n1_ := Aside0.mk ((by rw [hw]; exact below_set (HB.out) GB14.out : Below w.heap.size w w16)); clear HO_7; clear HB; have HO_7 := n0_; have HB := n1_; clear n0_ n1_; clear hg hw hp_))
            (try simp only [← hl7_1])
            go_roundg k1
            case measure => have := HK1.out; omega
            case rel => exact ⟨(y143), (wrap64 (x18_1 + 1)), (by first | rfl | (simp; done) | (simp [*]; done)), H', ⟨by have := HK1.out; omega⟩, ⟨by (try simp only [hl7_1]); (with_reducible repeat (first | apply Kd.R_alloc | apply Kd.R_drewN | apply Kd.R_drew)); exact HO_7.out⟩, ⟨by repeat (first | (with_reducible first | exact HB.out | apply below_alloc | apply pw_below_drewN | apply below_drew1) | exact HB.out)⟩⟩
          · rw [if_neg c13] at H
            exact absurd H (by simp)
        · rw [if_neg c12] at H
          exact absurd H (by simp)
      · rw [if_neg c11] at H
        have c11b0 : decide (x18_1 < (t136.length : Int)) = false := decide_eq_false c11
        (try rw [hl7_1] at c11b0)
        clear c11
        by_cases c17 : t142 = true
        · subst c17
          have H1 : ((group_List.f a0).bind fun t144 => ((vespersref03_List.f k1 a0).bind fun t147 => ((vespersref03_Ints.f k1 t144 t147).bind fun t150 => (if t150 = true then ((group_Has.f a0 a2).bind fun t151 => ((vespersref03_Has.f k1 a0 a2).bind fun t152 => (if (t151 == t152) = true then ((group_With.f a0 a2).bind fun t153 => ((vespersref03_With.f k1 a0 a2).bind fun t154 => (if t153 = t154 then ((group_Without.f a0 a2).bind fun t155 => ((vespersref03_Without.f k1 a0 a2).bind fun t156 => (if t155 = t156 then ((group_Count.f a0).bind fun t157 => ((vespersref03_Count.f k1 a0).bind fun t158 => (if t157 = t158 then ((group_Next.f a0 a2).bind fun t159 => ((vespersref03_Next.f k1 a0 a2).bind fun t160 => (if t159 = t160 then ((group_Rank.f a0 a2).bind fun t161 => ((vespersref03_Rank.f k1 a0 a2).bind fun t162 => (if t161 = t162 then ((group_First.f a2).bind fun t163 => ((vespersref03_First.f k1 a2).bind fun t164 => (if t163 = t164 then ((group_Both.f a0 a1).bind fun t165 => ((vespersref03_Both.f k1 a0 a1).bind fun t166 => (if t165 = t166 then ((group_Less.f a0 a1).bind fun t167 => ((vespersref03_Less.f k1 a0 a1).bind fun t168 => (some (t167 == t168)))) else (none)))) else (none)))) else (none)))) else (none)))) else (none)))) else (none)))) else (none)))) else (none)))) else (none))))) = some r := by rw [if_pos rfl] at H; exact H
          clear H
          have H := H1
          clear H1
          replace H := Option.bind_eq_some_iff.mp H
          obtain ⟨t144, A180, H⟩ := H
          replace H : ((vespersref03_List.f k1 a0).bind fun t147 => ((vespersref03_Ints.f k1 t144 t147).bind fun t150 => (if t150 = true then ((group_Has.f a0 a2).bind fun t151 => ((vespersref03_Has.f k1 a0 a2).bind fun t152 => (if (t151 == t152) = true then ((group_With.f a0 a2).bind fun t153 => ((vespersref03_With.f k1 a0 a2).bind fun t154 => (if t153 = t154 then ((group_Without.f a0 a2).bind fun t155 => ((vespersref03_Without.f k1 a0 a2).bind fun t156 => (if t155 = t156 then ((group_Count.f a0).bind fun t157 => ((vespersref03_Count.f k1 a0).bind fun t158 => (if t157 = t158 then ((group_Next.f a0 a2).bind fun t159 => ((vespersref03_Next.f k1 a0 a2).bind fun t160 => (if t159 = t160 then ((group_Rank.f a0 a2).bind fun t161 => ((vespersref03_Rank.f k1 a0 a2).bind fun t162 => (if t161 = t162 then ((group_First.f a2).bind fun t163 => ((vespersref03_First.f k1 a2).bind fun t164 => (if t163 = t164 then ((group_Both.f a0 a1).bind fun t165 => ((vespersref03_Both.f k1 a0 a1).bind fun t166 => (if t165 = t166 then ((group_Less.f a0 a1).bind fun t167 => ((vespersref03_Less.f k1 a0 a1).bind fun t168 => (some (t167 == t168)))) else (none)))) else (none)))) else (none)))) else (none)))) else (none)))) else (none)))) else (none)))) else (none)))) else (none)))) = some r := H
          have A18 := Aside0.mk A180
          clear A180
          replace H := Option.bind_eq_some_iff.mp H
          obtain ⟨t147, A190, H⟩ := H
          replace H : ((vespersref03_Ints.f k1 t144 t147).bind fun t150 => (if t150 = true then ((group_Has.f a0 a2).bind fun t151 => ((vespersref03_Has.f k1 a0 a2).bind fun t152 => (if (t151 == t152) = true then ((group_With.f a0 a2).bind fun t153 => ((vespersref03_With.f k1 a0 a2).bind fun t154 => (if t153 = t154 then ((group_Without.f a0 a2).bind fun t155 => ((vespersref03_Without.f k1 a0 a2).bind fun t156 => (if t155 = t156 then ((group_Count.f a0).bind fun t157 => ((vespersref03_Count.f k1 a0).bind fun t158 => (if t157 = t158 then ((group_Next.f a0 a2).bind fun t159 => ((vespersref03_Next.f k1 a0 a2).bind fun t160 => (if t159 = t160 then ((group_Rank.f a0 a2).bind fun t161 => ((vespersref03_Rank.f k1 a0 a2).bind fun t162 => (if t161 = t162 then ((group_First.f a2).bind fun t163 => ((vespersref03_First.f k1 a2).bind fun t164 => (if t163 = t164 then ((group_Both.f a0 a1).bind fun t165 => ((vespersref03_Both.f k1 a0 a1).bind fun t166 => (if t165 = t166 then ((group_Less.f a0 a1).bind fun t167 => ((vespersref03_Less.f k1 a0 a1).bind fun t168 => (some (t167 == t168)))) else (none)))) else (none)))) else (none)))) else (none)))) else (none)))) else (none)))) else (none)))) else (none)))) else (none))) = some r := H
          have A19 := Aside0.mk A190
          clear A190
          replace H := Option.bind_eq_some_iff.mp H
          obtain ⟨t150, A200, H⟩ := H
          replace H : (if t150 = true then ((group_Has.f a0 a2).bind fun t151 => ((vespersref03_Has.f k1 a0 a2).bind fun t152 => (if (t151 == t152) = true then ((group_With.f a0 a2).bind fun t153 => ((vespersref03_With.f k1 a0 a2).bind fun t154 => (if t153 = t154 then ((group_Without.f a0 a2).bind fun t155 => ((vespersref03_Without.f k1 a0 a2).bind fun t156 => (if t155 = t156 then ((group_Count.f a0).bind fun t157 => ((vespersref03_Count.f k1 a0).bind fun t158 => (if t157 = t158 then ((group_Next.f a0 a2).bind fun t159 => ((vespersref03_Next.f k1 a0 a2).bind fun t160 => (if t159 = t160 then ((group_Rank.f a0 a2).bind fun t161 => ((vespersref03_Rank.f k1 a0 a2).bind fun t162 => (if t161 = t162 then ((group_First.f a2).bind fun t163 => ((vespersref03_First.f k1 a2).bind fun t164 => (if t163 = t164 then ((group_Both.f a0 a1).bind fun t165 => ((vespersref03_Both.f k1 a0 a1).bind fun t166 => (if t165 = t166 then ((group_Less.f a0 a1).bind fun t167 => ((vespersref03_Less.f k1 a0 a1).bind fun t168 => (some (t167 == t168)))) else (none)))) else (none)))) else (none)))) else (none)))) else (none)))) else (none)))) else (none)))) else (none)))) else (none)) = some r := H
          have A20 := Aside0.mk A200
          clear A200
          by_cases c21 : t150 = true
          · subst c21
            have H1 : ((group_Has.f a0 a2).bind fun t151 => ((vespersref03_Has.f k1 a0 a2).bind fun t152 => (if (t151 == t152) = true then ((group_With.f a0 a2).bind fun t153 => ((vespersref03_With.f k1 a0 a2).bind fun t154 => (if t153 = t154 then ((group_Without.f a0 a2).bind fun t155 => ((vespersref03_Without.f k1 a0 a2).bind fun t156 => (if t155 = t156 then ((group_Count.f a0).bind fun t157 => ((vespersref03_Count.f k1 a0).bind fun t158 => (if t157 = t158 then ((group_Next.f a0 a2).bind fun t159 => ((vespersref03_Next.f k1 a0 a2).bind fun t160 => (if t159 = t160 then ((group_Rank.f a0 a2).bind fun t161 => ((vespersref03_Rank.f k1 a0 a2).bind fun t162 => (if t161 = t162 then ((group_First.f a2).bind fun t163 => ((vespersref03_First.f k1 a2).bind fun t164 => (if t163 = t164 then ((group_Both.f a0 a1).bind fun t165 => ((vespersref03_Both.f k1 a0 a1).bind fun t166 => (if t165 = t166 then ((group_Less.f a0 a1).bind fun t167 => ((vespersref03_Less.f k1 a0 a1).bind fun t168 => (some (t167 == t168)))) else (none)))) else (none)))) else (none)))) else (none)))) else (none)))) else (none)))) else (none)))) else (none)))) = some r := by rw [if_pos rfl] at H; exact H
            clear H
            have H := H1
            clear H1
            replace H := Option.bind_eq_some_iff.mp H
            obtain ⟨t151, A220, H⟩ := H
            replace H : ((vespersref03_Has.f k1 a0 a2).bind fun t152 => (if (t151 == t152) = true then ((group_With.f a0 a2).bind fun t153 => ((vespersref03_With.f k1 a0 a2).bind fun t154 => (if t153 = t154 then ((group_Without.f a0 a2).bind fun t155 => ((vespersref03_Without.f k1 a0 a2).bind fun t156 => (if t155 = t156 then ((group_Count.f a0).bind fun t157 => ((vespersref03_Count.f k1 a0).bind fun t158 => (if t157 = t158 then ((group_Next.f a0 a2).bind fun t159 => ((vespersref03_Next.f k1 a0 a2).bind fun t160 => (if t159 = t160 then ((group_Rank.f a0 a2).bind fun t161 => ((vespersref03_Rank.f k1 a0 a2).bind fun t162 => (if t161 = t162 then ((group_First.f a2).bind fun t163 => ((vespersref03_First.f k1 a2).bind fun t164 => (if t163 = t164 then ((group_Both.f a0 a1).bind fun t165 => ((vespersref03_Both.f k1 a0 a1).bind fun t166 => (if t165 = t166 then ((group_Less.f a0 a1).bind fun t167 => ((vespersref03_Less.f k1 a0 a1).bind fun t168 => (some (t167 == t168)))) else (none)))) else (none)))) else (none)))) else (none)))) else (none)))) else (none)))) else (none)))) else (none))) = some r := H
            have A22 := Aside0.mk A220
            clear A220
            replace H := Option.bind_eq_some_iff.mp H
            obtain ⟨t152, A230, H⟩ := H
            replace H : (if (t151 == t152) = true then ((group_With.f a0 a2).bind fun t153 => ((vespersref03_With.f k1 a0 a2).bind fun t154 => (if t153 = t154 then ((group_Without.f a0 a2).bind fun t155 => ((vespersref03_Without.f k1 a0 a2).bind fun t156 => (if t155 = t156 then ((group_Count.f a0).bind fun t157 => ((vespersref03_Count.f k1 a0).bind fun t158 => (if t157 = t158 then ((group_Next.f a0 a2).bind fun t159 => ((vespersref03_Next.f k1 a0 a2).bind fun t160 => (if t159 = t160 then ((group_Rank.f a0 a2).bind fun t161 => ((vespersref03_Rank.f k1 a0 a2).bind fun t162 => (if t161 = t162 then ((group_First.f a2).bind fun t163 => ((vespersref03_First.f k1 a2).bind fun t164 => (if t163 = t164 then ((group_Both.f a0 a1).bind fun t165 => ((vespersref03_Both.f k1 a0 a1).bind fun t166 => (if t165 = t166 then ((group_Less.f a0 a1).bind fun t167 => ((vespersref03_Less.f k1 a0 a1).bind fun t168 => (some (t167 == t168)))) else (none)))) else (none)))) else (none)))) else (none)))) else (none)))) else (none)))) else (none)))) else (none)) = some r := H
            have A23 := Aside0.mk A230
            clear A230
            by_cases c24 : (t151 == t152) = true
            · rw [if_pos c24] at H
              have c24b0 : (t151 == t152) = true := c24
              (try (have c24b1 : decide (t151 = t152) = true := by simpa using c24))
              (try (have c24b2 : (t151 == t152) = true := by simpa using c24))
              clear c24
              replace H := Option.bind_eq_some_iff.mp H
              obtain ⟨t153, A250, H⟩ := H
              replace H : ((vespersref03_With.f k1 a0 a2).bind fun t154 => (if t153 = t154 then ((group_Without.f a0 a2).bind fun t155 => ((vespersref03_Without.f k1 a0 a2).bind fun t156 => (if t155 = t156 then ((group_Count.f a0).bind fun t157 => ((vespersref03_Count.f k1 a0).bind fun t158 => (if t157 = t158 then ((group_Next.f a0 a2).bind fun t159 => ((vespersref03_Next.f k1 a0 a2).bind fun t160 => (if t159 = t160 then ((group_Rank.f a0 a2).bind fun t161 => ((vespersref03_Rank.f k1 a0 a2).bind fun t162 => (if t161 = t162 then ((group_First.f a2).bind fun t163 => ((vespersref03_First.f k1 a2).bind fun t164 => (if t163 = t164 then ((group_Both.f a0 a1).bind fun t165 => ((vespersref03_Both.f k1 a0 a1).bind fun t166 => (if t165 = t166 then ((group_Less.f a0 a1).bind fun t167 => ((vespersref03_Less.f k1 a0 a1).bind fun t168 => (some (t167 == t168)))) else (none)))) else (none)))) else (none)))) else (none)))) else (none)))) else (none)))) else (none))) = some r := H
              have A25 := Aside0.mk A250
              clear A250
              replace H := Option.bind_eq_some_iff.mp H
              obtain ⟨t154, A260, H⟩ := H
              replace H : (if t153 = t154 then ((group_Without.f a0 a2).bind fun t155 => ((vespersref03_Without.f k1 a0 a2).bind fun t156 => (if t155 = t156 then ((group_Count.f a0).bind fun t157 => ((vespersref03_Count.f k1 a0).bind fun t158 => (if t157 = t158 then ((group_Next.f a0 a2).bind fun t159 => ((vespersref03_Next.f k1 a0 a2).bind fun t160 => (if t159 = t160 then ((group_Rank.f a0 a2).bind fun t161 => ((vespersref03_Rank.f k1 a0 a2).bind fun t162 => (if t161 = t162 then ((group_First.f a2).bind fun t163 => ((vespersref03_First.f k1 a2).bind fun t164 => (if t163 = t164 then ((group_Both.f a0 a1).bind fun t165 => ((vespersref03_Both.f k1 a0 a1).bind fun t166 => (if t165 = t166 then ((group_Less.f a0 a1).bind fun t167 => ((vespersref03_Less.f k1 a0 a1).bind fun t168 => (some (t167 == t168)))) else (none)))) else (none)))) else (none)))) else (none)))) else (none)))) else (none)))) else (none)) = some r := H
              have A26 := Aside0.mk A260
              clear A260
              by_cases c27 : t153 = t154
              · rw [if_pos c27] at H
                have c27b0 : (t153 == t154) = true := beq_iff_eq.mpr c27
                have c27b1 : (t153 != t154) = false := bne_eq_false_iff_eq.mpr c27
                clear c27
                replace H := Option.bind_eq_some_iff.mp H
                obtain ⟨t155, A280, H⟩ := H
                replace H : ((vespersref03_Without.f k1 a0 a2).bind fun t156 => (if t155 = t156 then ((group_Count.f a0).bind fun t157 => ((vespersref03_Count.f k1 a0).bind fun t158 => (if t157 = t158 then ((group_Next.f a0 a2).bind fun t159 => ((vespersref03_Next.f k1 a0 a2).bind fun t160 => (if t159 = t160 then ((group_Rank.f a0 a2).bind fun t161 => ((vespersref03_Rank.f k1 a0 a2).bind fun t162 => (if t161 = t162 then ((group_First.f a2).bind fun t163 => ((vespersref03_First.f k1 a2).bind fun t164 => (if t163 = t164 then ((group_Both.f a0 a1).bind fun t165 => ((vespersref03_Both.f k1 a0 a1).bind fun t166 => (if t165 = t166 then ((group_Less.f a0 a1).bind fun t167 => ((vespersref03_Less.f k1 a0 a1).bind fun t168 => (some (t167 == t168)))) else (none)))) else (none)))) else (none)))) else (none)))) else (none)))) else (none))) = some r := H
                have A28 := Aside0.mk A280
                clear A280
                replace H := Option.bind_eq_some_iff.mp H
                obtain ⟨t156, A290, H⟩ := H
                replace H : (if t155 = t156 then ((group_Count.f a0).bind fun t157 => ((vespersref03_Count.f k1 a0).bind fun t158 => (if t157 = t158 then ((group_Next.f a0 a2).bind fun t159 => ((vespersref03_Next.f k1 a0 a2).bind fun t160 => (if t159 = t160 then ((group_Rank.f a0 a2).bind fun t161 => ((vespersref03_Rank.f k1 a0 a2).bind fun t162 => (if t161 = t162 then ((group_First.f a2).bind fun t163 => ((vespersref03_First.f k1 a2).bind fun t164 => (if t163 = t164 then ((group_Both.f a0 a1).bind fun t165 => ((vespersref03_Both.f k1 a0 a1).bind fun t166 => (if t165 = t166 then ((group_Less.f a0 a1).bind fun t167 => ((vespersref03_Less.f k1 a0 a1).bind fun t168 => (some (t167 == t168)))) else (none)))) else (none)))) else (none)))) else (none)))) else (none)))) else (none)) = some r := H
                have A29 := Aside0.mk A290
                clear A290
                by_cases c30 : t155 = t156
                · rw [if_pos c30] at H
                  have c30b0 : (t155 == t156) = true := beq_iff_eq.mpr c30
                  have c30b1 : (t155 != t156) = false := bne_eq_false_iff_eq.mpr c30
                  clear c30
                  replace H := Option.bind_eq_some_iff.mp H
                  obtain ⟨t157, A310, H⟩ := H
                  replace H : ((vespersref03_Count.f k1 a0).bind fun t158 => (if t157 = t158 then ((group_Next.f a0 a2).bind fun t159 => ((vespersref03_Next.f k1 a0 a2).bind fun t160 => (if t159 = t160 then ((group_Rank.f a0 a2).bind fun t161 => ((vespersref03_Rank.f k1 a0 a2).bind fun t162 => (if t161 = t162 then ((group_First.f a2).bind fun t163 => ((vespersref03_First.f k1 a2).bind fun t164 => (if t163 = t164 then ((group_Both.f a0 a1).bind fun t165 => ((vespersref03_Both.f k1 a0 a1).bind fun t166 => (if t165 = t166 then ((group_Less.f a0 a1).bind fun t167 => ((vespersref03_Less.f k1 a0 a1).bind fun t168 => (some (t167 == t168)))) else (none)))) else (none)))) else (none)))) else (none)))) else (none))) = some r := H
                  have A31 := Aside0.mk A310
                  clear A310
                  replace H := Option.bind_eq_some_iff.mp H
                  obtain ⟨t158, A320, H⟩ := H
                  replace H : (if t157 = t158 then ((group_Next.f a0 a2).bind fun t159 => ((vespersref03_Next.f k1 a0 a2).bind fun t160 => (if t159 = t160 then ((group_Rank.f a0 a2).bind fun t161 => ((vespersref03_Rank.f k1 a0 a2).bind fun t162 => (if t161 = t162 then ((group_First.f a2).bind fun t163 => ((vespersref03_First.f k1 a2).bind fun t164 => (if t163 = t164 then ((group_Both.f a0 a1).bind fun t165 => ((vespersref03_Both.f k1 a0 a1).bind fun t166 => (if t165 = t166 then ((group_Less.f a0 a1).bind fun t167 => ((vespersref03_Less.f k1 a0 a1).bind fun t168 => (some (t167 == t168)))) else (none)))) else (none)))) else (none)))) else (none)))) else (none)) = some r := H
                  have A32 := Aside0.mk A320
                  clear A320
                  by_cases c33 : t157 = t158
                  · rw [if_pos c33] at H
                    have c33b0 : (t157 == t158) = true := beq_iff_eq.mpr c33
                    have c33b1 : (t157 != t158) = false := bne_eq_false_iff_eq.mpr c33
                    clear c33
                    replace H := Option.bind_eq_some_iff.mp H
                    obtain ⟨t159, A340, H⟩ := H
                    replace H : ((vespersref03_Next.f k1 a0 a2).bind fun t160 => (if t159 = t160 then ((group_Rank.f a0 a2).bind fun t161 => ((vespersref03_Rank.f k1 a0 a2).bind fun t162 => (if t161 = t162 then ((group_First.f a2).bind fun t163 => ((vespersref03_First.f k1 a2).bind fun t164 => (if t163 = t164 then ((group_Both.f a0 a1).bind fun t165 => ((vespersref03_Both.f k1 a0 a1).bind fun t166 => (if t165 = t166 then ((group_Less.f a0 a1).bind fun t167 => ((vespersref03_Less.f k1 a0 a1).bind fun t168 => (some (t167 == t168)))) else (none)))) else (none)))) else (none)))) else (none))) = some r := H
                    have A34 := Aside0.mk A340
                    clear A340
                    replace H := Option.bind_eq_some_iff.mp H
                    obtain ⟨t160, A350, H⟩ := H
                    replace H : (if t159 = t160 then ((group_Rank.f a0 a2).bind fun t161 => ((vespersref03_Rank.f k1 a0 a2).bind fun t162 => (if t161 = t162 then ((group_First.f a2).bind fun t163 => ((vespersref03_First.f k1 a2).bind fun t164 => (if t163 = t164 then ((group_Both.f a0 a1).bind fun t165 => ((vespersref03_Both.f k1 a0 a1).bind fun t166 => (if t165 = t166 then ((group_Less.f a0 a1).bind fun t167 => ((vespersref03_Less.f k1 a0 a1).bind fun t168 => (some (t167 == t168)))) else (none)))) else (none)))) else (none)))) else (none)) = some r := H
                    have A35 := Aside0.mk A350
                    clear A350
                    by_cases c36 : t159 = t160
                    · rw [if_pos c36] at H
                      have c36b0 : (t159 == t160) = true := beq_iff_eq.mpr c36
                      have c36b1 : (t159 != t160) = false := bne_eq_false_iff_eq.mpr c36
                      clear c36
                      replace H := Option.bind_eq_some_iff.mp H
                      obtain ⟨t161, A370, H⟩ := H
                      replace H : ((vespersref03_Rank.f k1 a0 a2).bind fun t162 => (if t161 = t162 then ((group_First.f a2).bind fun t163 => ((vespersref03_First.f k1 a2).bind fun t164 => (if t163 = t164 then ((group_Both.f a0 a1).bind fun t165 => ((vespersref03_Both.f k1 a0 a1).bind fun t166 => (if t165 = t166 then ((group_Less.f a0 a1).bind fun t167 => ((vespersref03_Less.f k1 a0 a1).bind fun t168 => (some (t167 == t168)))) else (none)))) else (none)))) else (none))) = some r := H
                      have A37 := Aside0.mk A370
                      clear A370
                      replace H := Option.bind_eq_some_iff.mp H
                      obtain ⟨t162, A380, H⟩ := H
                      replace H : (if t161 = t162 then ((group_First.f a2).bind fun t163 => ((vespersref03_First.f k1 a2).bind fun t164 => (if t163 = t164 then ((group_Both.f a0 a1).bind fun t165 => ((vespersref03_Both.f k1 a0 a1).bind fun t166 => (if t165 = t166 then ((group_Less.f a0 a1).bind fun t167 => ((vespersref03_Less.f k1 a0 a1).bind fun t168 => (some (t167 == t168)))) else (none)))) else (none)))) else (none)) = some r := H
                      have A38 := Aside0.mk A380
                      clear A380
                      by_cases c39 : t161 = t162
                      · rw [if_pos c39] at H
                        have c39b0 : (t161 == t162) = true := beq_iff_eq.mpr c39
                        have c39b1 : (t161 != t162) = false := bne_eq_false_iff_eq.mpr c39
                        clear c39
                        replace H := Option.bind_eq_some_iff.mp H
                        obtain ⟨t163, A400, H⟩ := H
                        replace H : ((vespersref03_First.f k1 a2).bind fun t164 => (if t163 = t164 then ((group_Both.f a0 a1).bind fun t165 => ((vespersref03_Both.f k1 a0 a1).bind fun t166 => (if t165 = t166 then ((group_Less.f a0 a1).bind fun t167 => ((vespersref03_Less.f k1 a0 a1).bind fun t168 => (some (t167 == t168)))) else (none)))) else (none))) = some r := H
                        have A40 := Aside0.mk A400
                        clear A400
                        replace H := Option.bind_eq_some_iff.mp H
                        obtain ⟨t164, A410, H⟩ := H
                        replace H : (if t163 = t164 then ((group_Both.f a0 a1).bind fun t165 => ((vespersref03_Both.f k1 a0 a1).bind fun t166 => (if t165 = t166 then ((group_Less.f a0 a1).bind fun t167 => ((vespersref03_Less.f k1 a0 a1).bind fun t168 => (some (t167 == t168)))) else (none)))) else (none)) = some r := H
                        have A41 := Aside0.mk A410
                        clear A410
                        by_cases c42 : t163 = t164
                        · rw [if_pos c42] at H
                          have c42b0 : (t163 == t164) = true := beq_iff_eq.mpr c42
                          have c42b1 : (t163 != t164) = false := bne_eq_false_iff_eq.mpr c42
                          clear c42
                          replace H := Option.bind_eq_some_iff.mp H
                          obtain ⟨t165, A430, H⟩ := H
                          replace H : ((vespersref03_Both.f k1 a0 a1).bind fun t166 => (if t165 = t166 then ((group_Less.f a0 a1).bind fun t167 => ((vespersref03_Less.f k1 a0 a1).bind fun t168 => (some (t167 == t168)))) else (none))) = some r := H
                          have A43 := Aside0.mk A430
                          clear A430
                          replace H := Option.bind_eq_some_iff.mp H
                          obtain ⟨t166, A440, H⟩ := H
                          replace H : (if t165 = t166 then ((group_Less.f a0 a1).bind fun t167 => ((vespersref03_Less.f k1 a0 a1).bind fun t168 => (some (t167 == t168)))) else (none)) = some r := H
                          have A44 := Aside0.mk A440
                          clear A440
                          by_cases c45 : t165 = t166
                          · rw [if_pos c45] at H
                            have c45b0 : (t165 == t166) = true := beq_iff_eq.mpr c45
                            have c45b1 : (t165 != t166) = false := bne_eq_false_iff_eq.mpr c45
                            clear c45
                            replace H := Option.bind_eq_some_iff.mp H
                            obtain ⟨t167, A460, H⟩ := H
                            replace H : ((vespersref03_Less.f k1 a0 a1).bind fun t168 => (some (t167 == t168))) = some r := H
                            have A46 := Aside0.mk A460
                            clear A460
                            replace H := Option.bind_eq_some_iff.mp H
                            obtain ⟨t168, A470, H⟩ := H
                            replace H : (some (t167 == t168)) = some r := H
                            have A47 := Aside0.mk A470
                            clear A470
                            obtain rfl := Option.some.inj H
                            go_wp2_with (first | (go_at_call 11; (with_reducible refine (group_List.calls a0 t144 _ A18.out).mono ?_); rintro e w48 ⟨v145, rfl, ho0, hb⟩; have n0_ := Aside0.mk (Kd.R_elder' (by (with_reducible repeat (first | apply Kd.R_alloc | apply Kd.R_drewN | apply Kd.R_drew)); exact HO_7.out) (Kd.R_base ho0) hb); have n1_ := Aside0.mk (Kd.R_lower (Kd.R_new' ho0 (Kd.R_lt (by (with_reducible repeat (first | apply Kd.R_alloc | apply Kd.R_drewN | apply Kd.R_drew)); exact HO_7.out))) (below_size (by repeat (first | (with_reducible first | exact HB.out | apply below_alloc | apply pw_below_drewN | apply below_drew1) | exact HB.out)))); have n2_ := Aside0.mk (below_step (by repeat (first | (with_reducible first | exact HB.out | apply below_alloc | apply pw_below_drewN | apply below_drew1) | exact HB.out)) hb); clear HO_7; clear HB; have HO_7 := n0_; have HO146 := n1_; have HB := n2_; clear n0_ n1_ n2_; (try clear hb); (try clear hb2); (try clear hk); (try clear hi); (try clear ho0)) | (go_at_call 13; (with_reducible refine (vespersref03_List.calls k1 a0 t147 _ A19.out).mono ?_); rintro e w49 ⟨v148, rfl, ho0, hb⟩; have n0_ := Aside0.mk (Kd.R_elder' (by (with_reducible repeat (first | apply Kd.R_alloc | apply Kd.R_drewN | apply Kd.R_drew)); exact HO_7.out) (Kd.R_base ho0) hb); have n1_ := Aside0.mk (Kd.R_elder' (by (with_reducible repeat (first | apply Kd.R_alloc | apply Kd.R_drewN | apply Kd.R_drew)); exact HO146.out) (Kd.R_base ho0) hb); have n2_ := Aside0.mk (Kd.R_lower (Kd.R_new' (Kd.R_new' ho0 (Kd.R_lt (by (with_reducible repeat (first | apply Kd.R_alloc | apply Kd.R_drewN | apply Kd.R_drew)); exact HO_7.out))) (Kd.R_lt (by (with_reducible repeat (first | apply Kd.R_alloc | apply Kd.R_drewN | apply Kd.R_drew)); exact HO146.out))) (below_size (by repeat (first | (with_reducible first | exact HB.out | apply below_alloc | apply pw_below_drewN | apply below_drew1) | exact HB.out)))); have n3_ := Aside0.mk (below_step (by repeat (first | (with_reducible first | exact HB.out | apply below_alloc | apply pw_below_drewN | apply below_drew1) | exact HB.out)) hb); clear HO_7; clear HO146; clear HB; have HO_7 := n0_; have HO146 := n1_; have HO149 := n2_; have HB := n3_; clear n0_ n1_ n2_ n3_; (try clear hb); (try clear hb2); (try clear hk); (try clear hi); (try clear ho0); obtain ⟨Ao50, co50, eo50⟩ := Kd.R_slice HO146.out; subst eo50; obtain ⟨Ao51, co51, eo51⟩ := Kd.R_slice HO149.out; subst eo51) | (go_at_call 12; (with_reducible refine (vespersref03_Ints.calls k1 _ _ t144 _ _ t147 true _ ?side1 ?side2 ?side3 ?side4 A20.out).mono ?_); (case side1 => repeat (first | exact (Kd.R_reads' HO146.out).2.2 | (with_reducible refine Kd.C_alloc ?_ _) | (with_reducible refine Kd.C_drewN ?_ _) | (with_reducible refine Kd.C_drew ?_))); (case side2 => exact (Kd.R_reads' HO146.out).2.1); (case side3 => repeat (first | exact (Kd.R_reads' HO149.out).2.2 | (with_reducible refine Kd.C_alloc ?_ _) | (with_reducible refine Kd.C_drewN ?_ _) | (with_reducible refine Kd.C_drew ?_))); (case side4 => exact (Kd.R_reads' HO149.out).2.1); rintro e w' ⟨rfl, ⟨nd, rfl⟩⟩) | (go_at_call 14; (with_reducible refine (group_Has.calls a0 a2 t151 _ A22.out).mono ?_); rintro e w' ⟨rfl, ⟨nd, rfl⟩⟩) | (go_at_call 15; (with_reducible refine (vespersref03_Has.calls k1 a0 a2 t152 _ A23.out).mono ?_); rintro e w' ⟨rfl, ⟨nd, rfl⟩⟩) | (go_at_call 16; (with_reducible refine (group_With.calls a0 a2 t153 _ A25.out).mono ?_); rintro e w' ⟨rfl, ⟨nd, rfl⟩⟩) | (go_at_call 17; (with_reducible refine (vespersref03_With.calls k1 a0 a2 t154 _ A26.out).mono ?_); rintro e w' ⟨rfl, ⟨nd, rfl⟩⟩) | (go_at_call 18; (with_reducible refine (group_Without.calls a0 a2 t155 _ A28.out).mono ?_); rintro e w' ⟨rfl, ⟨nd, rfl⟩⟩) | (go_at_call 19; (with_reducible refine (vespersref03_Without.calls k1 a0 a2 t156 _ A29.out).mono ?_); rintro e w' ⟨rfl, ⟨nd, rfl⟩⟩) | (go_at_call 20; (with_reducible refine (group_Count.calls a0 t157 _ A31.out).mono ?_); rintro e w' ⟨rfl, ⟨nd, rfl⟩⟩) | (go_at_call 21; (with_reducible refine (vespersref03_Count.calls k1 a0 t158 _ A32.out).mono ?_); rintro e w52 ⟨rfl, hb⟩; have n0_ := Aside0.mk (Kd.R_below (by (with_reducible repeat (first | apply Kd.R_alloc | apply Kd.R_drewN | apply Kd.R_drew)); exact HO_7.out) hb); have n1_ := Aside0.mk (Kd.R_below (by (with_reducible repeat (first | apply Kd.R_alloc | apply Kd.R_drewN | apply Kd.R_drew)); exact HO146.out) hb); have n2_ := Aside0.mk (Kd.R_below (by (with_reducible repeat (first | apply Kd.R_alloc | apply Kd.R_drewN | apply Kd.R_drew)); exact HO149.out) hb); have n3_ := Aside0.mk (below_step (by repeat (first | (with_reducible first | exact HB.out | apply below_alloc | apply pw_below_drewN | apply below_drew1) | exact HB.out)) hb); clear HO_7; clear HO146; clear HO149; clear HB; have HO_7 := n0_; have HO146 := n1_; have HO149 := n2_; have HB := n3_; clear n0_ n1_ n2_ n3_; (try clear hb); (try clear hb2); (try clear hk); (try clear hi)) | (go_at_call 22; (with_reducible refine (group_Next.calls a0 a2 t159 _ A34.out).mono ?_); rintro e w53 ⟨rfl, hb⟩; have n0_ := Aside0.mk (Kd.R_below (by (with_reducible repeat (first | apply Kd.R_alloc | apply Kd.R_drewN | apply Kd.R_drew)); exact HO_7.out) hb); have n1_ := Aside0.mk (Kd.R_below (by (with_reducible repeat (first | apply Kd.R_alloc | apply Kd.R_drewN | apply Kd.R_drew)); exact HO146.out) hb); have n2_ := Aside0.mk (Kd.R_below (by (with_reducible repeat (first | apply Kd.R_alloc | apply Kd.R_drewN | apply Kd.R_drew)); exact HO149.out) hb); have n3_ := Aside0.mk (below_step (by repeat (first | (with_reducible first | exact HB.out | apply below_alloc | apply pw_below_drewN | apply below_drew1) | exact HB.out)) hb); clear HO_7; clear HO146; clear HO149; clear HB; have HO_7 := n0_; have HO146 := n1_; have HO149 := n2_; have HB := n3_; clear n0_ n1_ n2_ n3_; (try clear hb); (try clear hb2); (try clear hk); (try clear hi)) | (go_at_call 23; (with_reducible refine (vespersref03_Next.calls k1 a0 a2 t160 _ A35.out).mono ?_); rintro e w' ⟨rfl, ⟨nd, rfl⟩⟩) | (go_at_call 24; (with_reducible refine (group_Rank.calls a0 a2 t161 _ A37.out).mono ?_); rintro e w54 ⟨rfl, hb⟩; have n0_ := Aside0.mk (Kd.R_below (by (with_reducible repeat (first | apply Kd.R_alloc | apply Kd.R_drewN | apply Kd.R_drew)); exact HO_7.out) hb); have n1_ := Aside0.mk (Kd.R_below (by (with_reducible repeat (first | apply Kd.R_alloc | apply Kd.R_drewN | apply Kd.R_drew)); exact HO146.out) hb); have n2_ := Aside0.mk (Kd.R_below (by (with_reducible repeat (first | apply Kd.R_alloc | apply Kd.R_drewN | apply Kd.R_drew)); exact HO149.out) hb); have n3_ := Aside0.mk (below_step (by repeat (first | (with_reducible first | exact HB.out | apply below_alloc | apply pw_below_drewN | apply below_drew1) | exact HB.out)) hb); clear HO_7; clear HO146; clear HO149; clear HB; have HO_7 := n0_; have HO146 := n1_; have HO149 := n2_; have HB := n3_; clear n0_ n1_ n2_ n3_; (try clear hb); (try clear hb2); (try clear hk); (try clear hi)) | (go_at_call 25; (with_reducible refine (vespersref03_Rank.calls k1 a0 a2 t162 _ A38.out).mono ?_); rintro e w55 ⟨rfl, hb⟩; have n0_ := Aside0.mk (Kd.R_below (by (with_reducible repeat (first | apply Kd.R_alloc | apply Kd.R_drewN | apply Kd.R_drew)); exact HO_7.out) hb); have n1_ := Aside0.mk (Kd.R_below (by (with_reducible repeat (first | apply Kd.R_alloc | apply Kd.R_drewN | apply Kd.R_drew)); exact HO146.out) hb); have n2_ := Aside0.mk (Kd.R_below (by (with_reducible repeat (first | apply Kd.R_alloc | apply Kd.R_drewN | apply Kd.R_drew)); exact HO149.out) hb); have n3_ := Aside0.mk (below_step (by repeat (first | (with_reducible first | exact HB.out | apply below_alloc | apply pw_below_drewN | apply below_drew1) | exact HB.out)) hb); clear HO_7; clear HO146; clear HO149; clear HB; have HO_7 := n0_; have HO146 := n1_; have HO149 := n2_; have HB := n3_; clear n0_ n1_ n2_ n3_; (try clear hb); (try clear hb2); (try clear hk); (try clear hi)) | (go_at_call 26; (with_reducible refine (group_First.calls a2 t163 _ A40.out).mono ?_); rintro e w56 ⟨rfl, hb⟩; have n0_ := Aside0.mk (Kd.R_below (by (with_reducible repeat (first | apply Kd.R_alloc | apply Kd.R_drewN | apply Kd.R_drew)); exact HO_7.out) hb); have n1_ := Aside0.mk (Kd.R_below (by (with_reducible repeat (first | apply Kd.R_alloc | apply Kd.R_drewN | apply Kd.R_drew)); exact HO146.out) hb); have n2_ := Aside0.mk (Kd.R_below (by (with_reducible repeat (first | apply Kd.R_alloc | apply Kd.R_drewN | apply Kd.R_drew)); exact HO149.out) hb); have n3_ := Aside0.mk (below_step (by repeat (first | (with_reducible first | exact HB.out | apply below_alloc | apply pw_below_drewN | apply below_drew1) | exact HB.out)) hb); clear HO_7; clear HO146; clear HO149; clear HB; have HO_7 := n0_; have HO146 := n1_; have HO149 := n2_; have HB := n3_; clear n0_ n1_ n2_ n3_; (try clear hb); (try clear hb2); (try clear hk); (try clear hi)) | (go_at_call 27; (with_reducible refine (vespersref03_First.calls k1 a2 t164 _ A41.out).mono ?_); rintro e w' ⟨rfl, ⟨nd, rfl⟩⟩) | (go_at_call 28; (with_reducible refine (group_Both.calls a0 a1 t165 _ A43.out).mono ?_); rintro e w' ⟨rfl, ⟨nd, rfl⟩⟩) | (go_at_call 29; (with_reducible refine (vespersref03_Both.calls k1 a0 a1 t166 _ A44.out).mono ?_); rintro e w57 ⟨rfl, hb⟩; have n0_ := Aside0.mk (Kd.R_below (by (with_reducible repeat (first | apply Kd.R_alloc | apply Kd.R_drewN | apply Kd.R_drew)); exact HO_7.out) hb); have n1_ := Aside0.mk (Kd.R_below (by (with_reducible repeat (first | apply Kd.R_alloc | apply Kd.R_drewN | apply Kd.R_drew)); exact HO146.out) hb); have n2_ := Aside0.mk (Kd.R_below (by (with_reducible repeat (first | apply Kd.R_alloc | apply Kd.R_drewN | apply Kd.R_drew)); exact HO149.out) hb); have n3_ := Aside0.mk (below_step (by repeat (first | (with_reducible first | exact HB.out | apply below_alloc | apply pw_below_drewN | apply below_drew1) | exact HB.out)) hb); clear HO_7; clear HO146; clear HO149; clear HB; have HO_7 := n0_; have HO146 := n1_; have HO149 := n2_; have HB := n3_; clear n0_ n1_ n2_ n3_; (try clear hb); (try clear hb2); (try clear hk); (try clear hi)) | (go_at_call 30; (with_reducible refine (group_Less.calls a0 a1 t167 _ A46.out).mono ?_); rintro e w' ⟨rfl, ⟨nd, rfl⟩⟩) | (go_at_call 31; (with_reducible refine (vespersref03_Less.calls k1 a0 a1 t168 _ A47.out).mono ?_); rintro e w58 ⟨rfl, hb⟩; have n0_ := Aside0.mk (Kd.R_below (by (with_reducible repeat (first | apply Kd.R_alloc | apply Kd.R_drewN | apply Kd.R_drew)); exact HO_7.out) hb); have n1_ := Aside0.mk (Kd.R_below (by (with_reducible repeat (first | apply Kd.R_alloc | apply Kd.R_drewN | apply Kd.R_drew)); exact HO146.out) hb); have n2_ := Aside0.mk (Kd.R_below (by (with_reducible repeat (first | apply Kd.R_alloc | apply Kd.R_drewN | apply Kd.R_drew)); exact HO149.out) hb); have n3_ := Aside0.mk (below_step (by repeat (first | (with_reducible first | exact HB.out | apply below_alloc | apply pw_below_drewN | apply below_drew1) | exact HB.out)) hb); clear HO_7; clear HO146; clear HO149; clear HB; have HO_7 := n0_; have HO146 := n1_; have HO149 := n2_; have HB := n3_; clear n0_ n1_ n2_ n3_; (try clear hb); (try clear hb2); (try clear hk); (try clear hi)))
                            go_ret
                            exact ⟨by first | rfl | (simp [errW_none, errW_some] <;> rfl) | (simp [*, errW_none, errW_some] <;> rfl), by repeat (first | (with_reducible first | exact HB.out | apply below_alloc | apply pw_below_drewN | apply below_drew1) | exact HB.out)⟩
                          · rw [if_neg c45] at H
                            exact absurd H (by simp)
                        · rw [if_neg c42] at H
                          exact absurd H (by simp)
                      · rw [if_neg c39] at H
                        exact absurd H (by simp)
                    · rw [if_neg c36] at H
                      exact absurd H (by simp)
                  · rw [if_neg c33] at H
                    exact absurd H (by simp)
                · rw [if_neg c30] at H
                  exact absurd H (by simp)
              · rw [if_neg c27] at H
                exact absurd H (by simp)
            · rw [if_neg c24] at H
              exact absurd H (by simp)
          · replace c21 := Bool.eq_false_iff.mpr c21
            subst c21
            have H1 : (none) = some r := by rw [if_neg (show ¬ (false = true) by decide)] at H; exact H
            clear H
            have H := H1
            clear H1
            exact absurd H (by simp)
        · replace c17 := Bool.eq_false_iff.mpr c17
          subst c17
          have H1 : (none) = some r := by rw [if_neg (show ¬ (false = true) by decide)] at H; exact H
          clear H
          have H := H1
          clear H1
          exact absurd H (by simp)

/-- THE ONE PURE STATEMENT of vesperslaw03_GroupAsks: yours. -/
def vesperslaw03_GroupAsks.Pure : Prop := ∀ (a0 : Int) (a1 : Int) (a2 : Int), (Lit.int .u16 a0).wf = true → (Lit.int .u16 a1).wf = true → (Lit.int .i64 a2).wf = true → ∃ k, vesperslaw03_GroupAsks.f k a0 a1 a2 = some true
theorem vesperslaw03_GroupAsks.walk (P : vesperslaw03_GroupAsks.Pure) (a0 : Int) (a1 : Int) (a2 : Int) (w : World) (w0 : (Lit.int .u16 a0).wf = true) (w1 : (Lit.int .u16 a1).wf = true) (w2 : (Lit.int .i64 a2).wf = true) :
    Calls Try.prog 3 #[.int .u16 a0, .int .u16 a1, .int .i64 a2] w fun e w' => e = .returned (.bool true) ∧ Below w.heap.size w w' := by
  obtain ⟨k, h⟩ := P a0 a1 a2 w0 w1 w2
  refine (vesperslaw03_GroupAsks.calls k a0 a1 a2 true w h).mono ?_
  rintro e w' ⟨rfl, hd⟩
  exact ⟨rfl, hd⟩

end Go.Proofs.Ytfjjeadoaoedoaa.PA
