/- Written by a program of this session (wip/jprint.py, over the printer of the kit): functions that a law comes to, as plain Lean functions, and walks; Lean checks it. -/
import Derived.Test.YtfjjeadoaoedoaaPCx0
import Derived.Test.YtfjjeadoaoedoaaPCx1
namespace Go.Proofs.Ytfjjeadoaoedoaa.PC
open Go.RowKit Go.Proofs.Ytfjjeadoaoedoaa.Hand Go.Proofs.Ytfjjeadoaoedoaa.PA Go.Proofs.Ytfjjeadoaoedoaa.PB Go.Proofs.YtfjjeadoaoedoaaW.PrintWords Go.Proofs.YtfjjeadoaoedoaaW.PrintLast Go.Proofs.YtfjjeadoaoedoaaW.PrintMore
attribute [local go_sem] max2_int min2_int max_two min_two max_three min_three max_four min_four   -- for this text's walks alone
set_option linter.unusedVariables false
set_option linter.unusedSimpArgs false

/-! ### vespersref03_Text: function 38 -/
def vespersref03_Text.l0 : Nat → List Int → ByteArray → Int → Option (ByteArray)
  | 0, _, _, _ => none
  | k + 1, x3, x4, x5 => if x5 < (x3.length : Int) then (if 0 ≤ x5 then (if 0 ≤ (rd x3 x5) then (if (rd x3 x5) ≤ (wrap64 ((rd x3 x5) + 1)) then (if (wrap64 ((rd x3 x5) + 1)) ≤ 16 then (if x4.size + ((⟨#[48, 49, 50, 51, 52, 53, 54, 55, 56, 57, 97, 98, 99, 100, 101, 102]⟩ : ByteArray).extract ((rd x3 x5) : Int).toNat ((wrap64 ((rd x3 x5) + 1)) : Int).toNat).size ≤ 9223372036854775807 then (vespersref03_Text.l0 k x3 (x4 ++ ((⟨#[48, 49, 50, 51, 52, 53, 54, 55, 56, 57, 97, 98, 99, 100, 101, 102]⟩ : ByteArray).extract ((rd x3 x5) : Int).toNat ((wrap64 ((rd x3 x5) + 1)) : Int).toNat)) (wrap64 (x5 + 1))) else (none)) else (none)) else (none)) else (none)) else (none)) else (some x4)
def vespersref03_Text.f (k : Nat) (a0 : Int) : Option (ByteArray) := (vespersref03_List.f k a0).bind fun t125 => (if (t125.length : Int) = 0 then (some (⟨#[45]⟩ : ByteArray)) else (vespersref03_Text.l0 k t125 (⟨#[]⟩ : ByteArray) 0))
theorem vespersref03_Text.mono_l : ∀ k, (∀ y0 y1 y2, LeO (vespersref03_Text.l0 k y0 y1 y2) (vespersref03_Text.l0 (k + 1) y0 y1 y2))
  | 0 => fun _ _ _ r h => by simp [vespersref03_Text.l0] at h
  | k + 1 => by
    have ih0 := vespersref03_Text.mono_l k
    · intro y0 y1 y2
      unfold vespersref03_Text.l0
      repeat' first
      | (with_reducible exact ih0 _ _ _)
      | (with_reducible exact vespersref03_List.mono _ _)
      | (with_reducible exact LeO.refl _)
      | (with_reducible exact LeO.none _)
      | (with_reducible refine LeO.ite ?_ ?_)
      | (with_reducible refine LeO.bind ?_ (fun _ => ?_))
      | exact ih0 _ _ _
      | exact vespersref03_List.mono _ _
      | exact LeO.none _
      | refine LeO.ite ?_ ?_
      | refine LeO.bind ?_ (fun _ => ?_)
theorem vespersref03_Text.mono : ∀ a0 k, LeO (vespersref03_Text.f k a0) (vespersref03_Text.f (k + 1) a0) := by
  intro a0 k
  have ih0 := vespersref03_Text.mono_l k
  unfold vespersref03_Text.f
  repeat' first
      | (with_reducible exact ih0 _ _ _)
      | (with_reducible exact vespersref03_List.mono _ _)
      | (with_reducible exact LeO.refl _)
      | (with_reducible exact LeO.none _)
      | (with_reducible refine LeO.ite ?_ ?_)
      | (with_reducible refine LeO.bind ?_ (fun _ => ?_))
      | exact ih0 _ _ _
      | exact vespersref03_List.mono _ _
      | exact LeO.none _
      | refine LeO.ite ?_ ?_
      | refine LeO.bind ?_ (fun _ => ?_)
set_option maxHeartbeats 8000000 in
set_option maxRecDepth 100000 in
theorem vespersref03_Text.calls (k : Nat) (a0 : Int) (r : ByteArray) (w : World) (h : vespersref03_Text.f k a0 = some r) :
    Calls Try.prog 38 #[.int .u16 a0] w fun e w' => e = .returned (.string r) ∧ Below w.heap.size w w' := by
  have HB := Aside0.mk (Below.refl w.heap.size w)
  have H : ((vespersref03_List.f k a0).bind fun t125 => (if (t125.length : Int) = 0 then (some (⟨#[45]⟩ : ByteArray)) else (vespersref03_Text.l0 k t125 (⟨#[]⟩ : ByteArray) 0))) = some r := h
  clear h
  replace H := Option.bind_eq_some_iff.mp H
  obtain ⟨t125, A20, H⟩ := H
  replace H : (if (t125.length : Int) = 0 then (some (⟨#[45]⟩ : ByteArray)) else (vespersref03_Text.l0 k t125 (⟨#[]⟩ : ByteArray) 0)) = some r := H
  have A2 := Aside0.mk A20
  clear A20
  by_cases c3 : (t125.length : Int) = 0
  · rw [if_pos c3] at H
    have c3b0 : ((t125.length : Int) == 0) = true := beq_iff_eq.mpr c3
    have c3b1 : ((t125.length : Int) != 0) = false := bne_eq_false_iff_eq.mpr c3
    clear c3
    obtain rfl := Option.some.inj H
    go_enter Try.func38, Try.ntmps38
    go_wp2_with (first | (go_at_call 13; (with_reducible refine (vespersref03_List.calls k a0 t125 _ A2.out).mono ?_); rintro e w4 ⟨v126, rfl, ho0, hb⟩; have n0_ := Aside0.mk (Kd.R_lower ho0 (below_size (by repeat (first | (with_reducible first | exact HB.out | apply below_alloc | apply pw_below_drewN | apply below_drew1) | exact HB.out)))); have n1_ := Aside0.mk (below_step (by repeat (first | (with_reducible first | exact HB.out | apply below_alloc | apply pw_below_drewN | apply below_drew1) | exact HB.out)) hb); clear HB; have HO127 := n0_; have HB := n1_; clear n0_ n1_; (try clear hb); (try clear hb2); (try clear hk); (try clear hi); (try clear ho0); obtain ⟨Ao5, co5, eo5⟩ := Kd.R_slice HO127.out; subst eo5))
    repeat (go_quiet (first | (go_at_call 13; (with_reducible refine (vespersref03_List.calls k a0 t125 _ A2.out).mono ?_); rintro e w4 ⟨v126, rfl, ho0, hb⟩; have n0_ := Aside0.mk (Kd.R_lower ho0 (below_size (by repeat (first | (with_reducible first | exact HB.out | apply below_alloc | apply pw_below_drewN | apply below_drew1) | exact HB.out)))); have n1_ := Aside0.mk (below_step (by repeat (first | (with_reducible first | exact HB.out | apply below_alloc | apply pw_below_drewN | apply below_drew1) | exact HB.out)) hb); clear HB; have HO127 := n0_; have HB := n1_; clear n0_ n1_; (try clear hb); (try clear hb2); (try clear hk); (try clear hi); (try clear ho0); obtain ⟨Ao5, co5, eo5⟩ := Kd.R_slice HO127.out; subst eo5)); try go_wp2_with (first | (go_at_call 13; (with_reducible refine (vespersref03_List.calls k a0 t125 _ A2.out).mono ?_); rintro e w4 ⟨v126, rfl, ho0, hb⟩; have n0_ := Aside0.mk (Kd.R_lower ho0 (below_size (by repeat (first | (with_reducible first | exact HB.out | apply below_alloc | apply pw_below_drewN | apply below_drew1) | exact HB.out)))); have n1_ := Aside0.mk (below_step (by repeat (first | (with_reducible first | exact HB.out | apply below_alloc | apply pw_below_drewN | apply below_drew1) | exact HB.out)) hb); clear HB; have HO127 := n0_; have HB := n1_; clear n0_ n1_; (try clear hb); (try clear hb2); (try clear hk); (try clear hi); (try clear ho0); obtain ⟨Ao5, co5, eo5⟩ := Kd.R_slice HO127.out; subst eo5)))
    go_ret
    exact ⟨by first | rfl | (simp [errW_none, errW_some] <;> rfl) | (simp [*, errW_none, errW_some] <;> rfl), by repeat (first | (with_reducible first | exact HB.out | apply below_alloc | apply pw_below_drewN | apply below_drew1) | exact HB.out)⟩
  · rw [if_neg c3] at H
    have c3b0 : ((t125.length : Int) == 0) = false := beq_eq_false_iff_ne.mpr c3
    have c3b1 : ((t125.length : Int) != 0) = true := bne_iff_ne.mpr c3
    have c3b2 : ¬ (t125 = []) := fun h_ => c3 (by rw [h_]; rfl)
    have H' := Aside0.mk H
    clear H
    go_enter Try.func38, Try.ntmps38
    go_wp2_with (first | (go_at_call 13; (with_reducible refine (vespersref03_List.calls k a0 t125 _ A2.out).mono ?_); rintro e w6 ⟨v126, rfl, ho0, hb⟩; have n0_ := Aside0.mk (Kd.R_lower ho0 (below_size (by repeat (first | (with_reducible first | exact HB.out | apply below_alloc | apply pw_below_drewN | apply below_drew1) | exact HB.out)))); have n1_ := Aside0.mk (below_step (by repeat (first | (with_reducible first | exact HB.out | apply below_alloc | apply pw_below_drewN | apply below_drew1) | exact HB.out)) hb); clear HB; have HO127 := n0_; have HB := n1_; clear n0_ n1_; (try clear hb); (try clear hb2); (try clear hk); (try clear hi); (try clear ho0); obtain ⟨Ao7, co7, eo7⟩ := Kd.R_slice HO127.out; subst eo7))
    repeat (go_quiet (first | (go_at_call 13; (with_reducible refine (vespersref03_List.calls k a0 t125 _ A2.out).mono ?_); rintro e w6 ⟨v126, rfl, ho0, hb⟩; have n0_ := Aside0.mk (Kd.R_lower ho0 (below_size (by repeat (first | (with_reducible first | exact HB.out | apply below_alloc | apply pw_below_drewN | apply below_drew1) | exact HB.out)))); have n1_ := Aside0.mk (below_step (by repeat (first | (with_reducible first | exact HB.out | apply below_alloc | apply pw_below_drewN | apply below_drew1) | exact HB.out)) hb); clear HB; have HO127 := n0_; have HB := n1_; clear n0_ n1_; (try clear hb); (try clear hb2); (try clear hk); (try clear hi); (try clear ho0); obtain ⟨Ao7, co7, eo7⟩ := Kd.R_slice HO127.out; subst eo7)); try go_wp2_with (first | (go_at_call 13; (with_reducible refine (vespersref03_List.calls k a0 t125 _ A2.out).mono ?_); rintro e w6 ⟨v126, rfl, ho0, hb⟩; have n0_ := Aside0.mk (Kd.R_lower ho0 (below_size (by repeat (first | (with_reducible first | exact HB.out | apply below_alloc | apply pw_below_drewN | apply below_drew1) | exact HB.out)))); have n1_ := Aside0.mk (below_step (by repeat (first | (with_reducible first | exact HB.out | apply below_alloc | apply pw_below_drewN | apply below_drew1) | exact HB.out)) hb); clear HB; have HO127 := n0_; have HB := n1_; clear n0_ n1_; (try clear hb); (try clear hb2); (try clear hk); (try clear hi); (try clear ho0); obtain ⟨Ao7, co7, eo7⟩ := Kd.R_slice HO127.out; subst eo7)))
    go_loopg [4, 5] k (fun kq v4 v5 w' => ∃ (x4_1 : ByteArray) (x5_1 : Int), v4 = .string x4_1 ∧ v5 = .int .i64 x5_1 ∧ Aside0 (vespersref03_Text.l0 kq t125 x4_1 x5_1 = some r) ∧ Aside0 (kq ≤ k) ∧ Aside0 (Kd.R (Kd.int .i64) 3 w' w.heap.size (fun _ => True) (.slice Ao7 t125.length co7) t125) ∧ Aside0 (Below w.heap.size w w'))
    case atStart => exact ⟨((⟨#[]⟩ : ByteArray)), (0), (by first | rfl | (simp; done) | (simp [*]; done)), (by first | rfl | (simp; done) | (simp [*]; done)), H', ⟨Nat.le_refl _⟩, ⟨by (with_reducible repeat (first | apply Kd.R_alloc | apply Kd.R_drewN | apply Kd.R_drew)); exact HO127.out⟩, ⟨by repeat (first | (with_reducible first | exact HB.out | apply below_alloc | apply pw_below_drewN | apply below_drew1) | exact HB.out)⟩⟩
    case round =>
      clear H'
      try clear p2
      try clear c3
      try clear c3b0
      try clear c3b1
      try clear c3b2
      obtain ⟨x4_1, x5_1, rfl, rfl, HA, HK1, HO_3, HB⟩ := hrel
      cases gk with
      | zero => exact absurd HA.out (by simp [vespersref03_Text.l0])
      | succ k1 =>
        have H := HA.out
        clear HA
        simp only [vespersref03_Text.l0] at H
        by_cases c8 : x5_1 < (t125.length : Int)
        · rw [if_pos c8] at H
          have c8b0 : decide (x5_1 < (t125.length : Int)) = true := decide_eq_true c8
          clear c8
          by_cases c9 : 0 ≤ x5_1
          · rw [if_pos c9] at H
            have c9b0 : decide (0 ≤ x5_1) = true := decide_eq_true c9
            clear c9
            by_cases c10 : 0 ≤ (rd t125 x5_1)
            · rw [if_pos c10] at H
              have c10b0 := eq_true c10
              have c10b1 : decide (0 ≤ (rd t125 x5_1)) = true := decide_eq_true c10
              clear c10
              by_cases c11 : (rd t125 x5_1) ≤ (wrap64 ((rd t125 x5_1) + 1))
              · rw [if_pos c11] at H
                have c11b0 := eq_true c11
                have c11b1 : decide ((rd t125 x5_1) ≤ (wrap64 ((rd t125 x5_1) + 1))) = true := decide_eq_true c11
                by_cases c12 : (wrap64 ((rd t125 x5_1) + 1)) ≤ 16
                · rw [if_pos c12] at H
                  have c12b0 := eq_true c12
                  have c12b1 : decide ((wrap64 ((rd t125 x5_1) + 1)) ≤ 16) = true := decide_eq_true c12
                  by_cases c13 : x4_1.size + ((⟨#[48, 49, 50, 51, 52, 53, 54, 55, 56, 57, 97, 98, 99, 100, 101, 102]⟩ : ByteArray).extract ((rd t125 x5_1) : Int).toNat ((wrap64 ((rd t125 x5_1) + 1)) : Int).toNat).size ≤ 9223372036854775807
                  · rw [if_pos c13] at H
                    have c13b0 := eq_true c13
                    have c13b1 : decide (x4_1.size + ((⟨#[48, 49, 50, 51, 52, 53, 54, 55, 56, 57, 97, 98, 99, 100, 101, 102]⟩ : ByteArray).extract ((rd t125 x5_1) : Int).toNat ((wrap64 ((rd t125 x5_1) + 1)) : Int).toNat).size ≤ 9223372036854775807) = true := decide_eq_true c13
                    try have c13b2 : (9223372036854775807 < x4_1.size + ((⟨#[48, 49, 50, 51, 52, 53, 54, 55, 56, 57, 97, 98, 99, 100, 101, 102]⟩ : ByteArray).extract ((rd t125 x5_1) : Int).toNat ((wrap64 ((rd t125 x5_1) + 1)) : Int).toNat).size) = False := eq_false (Nat.not_lt.2 c13)
                    have H' := Aside0.mk H
                    clear H
                    have p128 : 0 ≤ (x5_1 : Int) := of_decide_eq_true (by first | (with_reducible assumption) | assumption)
                    have q128 : x5_1 < (t125.length : Int) := of_decide_eq_true (by first | (with_reducible assumption) | assumption)
                    obtain ⟨ad128, e128, hx128_0⟩ := Kd.at_int (Kd.R_reads' HO_3.out).2.2 x5_1 p128 q128
                    cases e128
                    replace p128 := eq_true p128
                    replace q128 := eq_true q128
                    have p129 : 0 ≤ (x5_1 : Int) := of_decide_eq_true (by first | (with_reducible assumption) | assumption)
                    have q129 : x5_1 < (t125.length : Int) := of_decide_eq_true (by first | (with_reducible assumption) | assumption)
                    obtain ⟨ad129, e129, hx129_0⟩ := Kd.at_int (Kd.R_reads' HO_3.out).2.2 x5_1 p129 q129
                    obtain rfl : ad128 = ad129 := (by injection e129)
                    replace p129 := eq_true p129
                    replace q129 := eq_true q129
                    go_wp2
                    repeat (go_quiet (fail); try go_wp2)
                    go_roundg k1
                    case measure => have := HK1.out; omega
                    case rel => exact ⟨(x4_1 ++ ((⟨#[48, 49, 50, 51, 52, 53, 54, 55, 56, 57, 97, 98, 99, 100, 101, 102]⟩ : ByteArray).extract ((rd t125 x5_1) : Int).toNat ((wrap64 ((rd t125 x5_1) + 1)) : Int).toNat)), (wrap64 (x5_1 + 1)), (by first | rfl | (simp; done) | (simp [*]; done)), (by first | rfl | (simp; done) | (simp [*]; done)), H', ⟨by have := HK1.out; omega⟩, ⟨by (with_reducible repeat (first | apply Kd.R_alloc | apply Kd.R_drewN | apply Kd.R_drew)); exact HO_3.out⟩, ⟨by repeat (first | (with_reducible first | exact HB.out | apply below_alloc | apply pw_below_drewN | apply below_drew1) | exact HB.out)⟩⟩
                  · rw [if_neg c13] at H
                    exact absurd H (by simp)
                · rw [if_neg c12] at H
                  exact absurd H (by simp)
              · rw [if_neg c11] at H
                exact absurd H (by simp)
            · rw [if_neg c10] at H
              exact absurd H (by simp)
          · rw [if_neg c9] at H
            exact absurd H (by simp)
        · rw [if_neg c8] at H
          have c8b0 : decide (x5_1 < (t125.length : Int)) = false := decide_eq_false c8
          clear c8
          obtain rfl := Option.some.inj H
          go_wp2
          repeat (go_quiet (fail); try go_wp2)
          go_ret
          exact ⟨by first | rfl | (simp [errW_none, errW_some] <;> rfl) | (simp [*, errW_none, errW_some] <;> rfl), by repeat (first | (with_reducible first | exact HB.out | apply below_alloc | apply pw_below_drewN | apply below_drew1) | exact HB.out)⟩

/-! ### vesperslaw03_GroupForms: function 8 -/
def vesperslaw03_GroupForms.j0 : Nat → Int → List Int → ByteArray → Bool → Option (Bool)
  | 0, _, _, _, _ => none
  | k + 1, x0, x1, x2, x23 => if x23 = true then (some true) else ((some (([] : List Int) : List Int)).bind fun y130 => (if y130.length + x1.length < 17592186044416 then ((some (y130 ++ x1 : List Int)).bind fun y133 => ((group_Of.f k y133).bind fun bt136 => ((vespersref03_Of.f k x1).bind fun bt138 => ((group_Parse.f x2).bind fun bt140 => ((vespersref03_Parse.f k x2).bind fun bt142 => (if bt136.1 = bt138.1 then (if bt136.2 = bt138.2 then ((group_Text.f x0).bind fun t144 => ((vespersref03_Text.f k x0).bind fun t145 => (if t144.toList = t145.toList then (if bt140.1 = bt142.1 then (if bt140.2 = bt142.2 then ((vespersref03_Ints.f k y133 x1).bind fun t146 => (some t146)) else (none)) else (none)) else (none)))) else (none)) else (none))))))) else (none)))
def vesperslaw03_GroupForms.f (k : Nat) (a0 : Int) (l1 : List Int) (a2 : ByteArray) : Option (Bool) := if (l1.length : Int) > 50 then (vesperslaw03_GroupForms.j0 k a0 l1 a2 true) else (vesperslaw03_GroupForms.j0 k a0 l1 a2 (decide ((a2.size : Int) > 100)))
theorem vesperslaw03_GroupForms.mono_l : ∀ k, (∀ y0 y1 y2 y3, LeO (vesperslaw03_GroupForms.j0 k y0 y1 y2 y3) (vesperslaw03_GroupForms.j0 (k + 1) y0 y1 y2 y3))
  | 0 => fun _ _ _ _ r h => by simp [vesperslaw03_GroupForms.j0] at h
  | k + 1 => by
    have ih0 := vesperslaw03_GroupForms.mono_l k
    · intro y0 y1 y2 y3
      unfold vesperslaw03_GroupForms.j0
      repeat' first
      | (with_reducible exact ih0 _ _ _ _)
      | (with_reducible exact group_Of.mono _ _)
      | (with_reducible exact vespersref03_Ints.mono _ _ _)
      | (with_reducible exact vespersref03_Of.mono _ _)
      | (with_reducible exact vespersref03_Parse.mono _ _)
      | (with_reducible exact vespersref03_Text.mono _ _)
      | (with_reducible exact LeO.refl _)
      | (with_reducible exact LeO.none _)
      | (with_reducible refine LeO.ite ?_ ?_)
      | (with_reducible refine LeO.bind ?_ (fun _ => ?_))
      | exact ih0 _ _ _ _
      | exact group_Of.mono _ _
      | exact vespersref03_Ints.mono _ _ _
      | exact vespersref03_Of.mono _ _
      | exact vespersref03_Parse.mono _ _
      | exact vespersref03_Text.mono _ _
      | exact LeO.none _
      | refine LeO.ite ?_ ?_
      | refine LeO.bind ?_ (fun _ => ?_)
theorem vesperslaw03_GroupForms.mono : ∀ a0 a1 a2 k, LeO (vesperslaw03_GroupForms.f k a0 a1 a2) (vesperslaw03_GroupForms.f (k + 1) a0 a1 a2) := by
  intro a0 a1 a2 k
  have ih0 := vesperslaw03_GroupForms.mono_l k
  unfold vesperslaw03_GroupForms.f
  repeat' first
      | (with_reducible exact ih0 _ _ _ _)
      | (with_reducible exact group_Of.mono _ _)
      | (with_reducible exact vespersref03_Ints.mono _ _ _)
      | (with_reducible exact vespersref03_Of.mono _ _)
      | (with_reducible exact vespersref03_Parse.mono _ _)
      | (with_reducible exact vespersref03_Text.mono _ _)
      | (with_reducible exact LeO.refl _)
      | (with_reducible exact LeO.none _)
      | (with_reducible refine LeO.ite ?_ ?_)
      | (with_reducible refine LeO.bind ?_ (fun _ => ?_))
      | exact ih0 _ _ _ _
      | exact group_Of.mono _ _
      | exact vespersref03_Ints.mono _ _ _
      | exact vespersref03_Of.mono _ _
      | exact vespersref03_Parse.mono _ _
      | exact vespersref03_Text.mono _ _
      | exact LeO.none _
      | refine LeO.ite ?_ ?_
      | refine LeO.bind ?_ (fun _ => ?_)
set_option maxHeartbeats 8000000 in
set_option maxRecDepth 100000 in
theorem vesperslaw03_GroupForms.calls (k : Nat) (a0 : Int) (A1 : Option Addr) (c1 : Nat) (l1 : List Int) (a2 : ByteArray) (r : Bool) (w : World) (hm : MaxAt w) (hr1 : Kd.C (Kd.int .i64) w A1 l1.length l1) (hc1 : l1.length ≤ c1) (h : vesperslaw03_GroupForms.f k a0 l1 a2 = some r) :
    Calls Try.prog 8 #[.int .u16 a0, .slice A1 l1.length c1, .string a2] w fun e w' => e = .returned (.bool r) ∧ Below w.heap.size w w' := by
  have HR1 := Aside0.mk hr1
  have HC1 := Aside0.mk hc1
  clear hr1 hc1
  have HB := Aside0.mk (Below.refl w.heap.size w)
  have H : (if (l1.length : Int) > 50 then (vesperslaw03_GroupForms.j0 k a0 l1 a2 true) else (vesperslaw03_GroupForms.j0 k a0 l1 a2 (decide ((a2.size : Int) > 100)))) = some r := h
  clear h
  have HC4 := Aside0.mk H
  clear H
  go_enter Try.func8, Try.ntmps8
  go_upto_region 1 with (fail)
  go_cut [23] (fun v23 wc => ∃ (kq : Nat) (x23_3 : Bool), v23 = .bool x23_3 ∧ Aside0 (vesperslaw03_GroupForms.j0 kq a0 l1 a2 x23_3 = some r) ∧ Aside0 (kq ≤ k) ∧ Aside0 (Below w.heap.size w wc))
  case first =>
    have H := HC4.out
    clear HC4
    by_cases c5 : (l1.length : Int) > 50
    · rw [if_pos c5] at H
      have c5b0 : decide (50 < (l1.length : Int)) = true := decide_eq_true c5
      have c5b1 : decide (50 < l1.length) = true := decide_eq_true (by omega)
      clear c5
      (first | rw [c5b0] | (simp only [i64_w, i32_w]; rw [c5b0]) | skip)
      have H' := Aside0.mk H
      clear H
      go_wp2
      go_meet
      case rel => exact ⟨_, (true), (by first | rfl | (simp; done) | (simp [*]; done)), H', ⟨by first | omega | exact Nat.le_refl _⟩, ⟨by repeat (first | (with_reducible first | exact HB.out | apply below_alloc | apply pw_below_drewN | apply below_drew1) | exact HB.out)⟩⟩
    · rw [if_neg c5] at H
      have c5b0 : decide (50 < (l1.length : Int)) = false := decide_eq_false c5
      have c5b1 : decide (50 < l1.length) = false := decide_eq_false (by omega)
      clear c5
      (first | rw [c5b0] | (simp only [i64_w, i32_w]; rw [c5b0]) | skip)
      have H' := Aside0.mk H
      clear H
      go_wp2
      go_meet
      case rel => exact ⟨_, (decide ((a2.size : Int) > 100)), (by first | rfl | (simp; done) | (simp [*]; done)), H', ⟨by first | omega | exact Nat.le_refl _⟩, ⟨by repeat (first | (with_reducible first | exact HB.out | apply below_alloc | apply pw_below_drewN | apply below_drew1) | exact HB.out)⟩⟩
  case rest =>
    clear HC4
    try clear c1
    try clear p2
    try clear c5
    try clear c5b0
    try clear c5b1
    obtain ⟨kq, x23_3, rfl, HA, HJ3, HB⟩ := hcut
    cases kq with
    | zero => exact absurd HA.out (by simp [vesperslaw03_GroupForms.j0])
    | succ kj3 =>
      have H := HA.out
      clear HA
      simp only [vesperslaw03_GroupForms.j0] at H
      by_cases c6 : x23_3 = true
      · subst c6
        have H1 : (some true) = some r := by rw [if_pos rfl] at H; exact H
        clear H
        have H := H1
        clear H1
        obtain rfl := Option.some.inj H
        go_wp2
        go_ret
        exact ⟨by first | rfl | (simp [errW_none, errW_some] <;> rfl) | (simp [*, errW_none, errW_some] <;> rfl), by repeat (first | (with_reducible first | exact HB.out | apply below_alloc | apply pw_below_drewN | apply below_drew1) | exact HB.out)⟩
      · replace c6 := Bool.eq_false_iff.mpr c6
        subst c6
        have H1 : ((some (([] : List Int) : List Int)).bind fun y130 => (if y130.length + l1.length < 17592186044416 then ((some (y130 ++ l1 : List Int)).bind fun y133 => ((group_Of.f kj3 y133).bind fun bt136 => ((vespersref03_Of.f kj3 l1).bind fun bt138 => ((group_Parse.f a2).bind fun bt140 => ((vespersref03_Parse.f kj3 a2).bind fun bt142 => (if bt136.1 = bt138.1 then (if bt136.2 = bt138.2 then ((group_Text.f a0).bind fun t144 => ((vespersref03_Text.f kj3 a0).bind fun t145 => (if t144.toList = t145.toList then (if bt140.1 = bt142.1 then (if bt140.2 = bt142.2 then ((vespersref03_Ints.f kj3 y133 l1).bind fun t146 => (some t146)) else (none)) else (none)) else (none)))) else (none)) else (none))))))) else (none))) = some r := by rw [if_neg (show ¬ (false = true) by decide)] at H; exact H
        clear H
        have H := H1
        clear H1
        obtain ⟨y130, hy130⟩ : ∃ y_ : List Int, y_ = (([] : List Int)) := ⟨_, rfl⟩
        replace H : (if y130.length + l1.length < 17592186044416 then ((some (y130 ++ l1 : List Int)).bind fun y133 => ((group_Of.f kj3 y133).bind fun bt136 => ((vespersref03_Of.f kj3 l1).bind fun bt138 => ((group_Parse.f a2).bind fun bt140 => ((vespersref03_Parse.f kj3 a2).bind fun bt142 => (if bt136.1 = bt138.1 then (if bt136.2 = bt138.2 then ((group_Text.f a0).bind fun t144 => ((vespersref03_Text.f kj3 a0).bind fun t145 => (if t144.toList = t145.toList then (if bt140.1 = bt142.1 then (if bt140.2 = bt142.2 then ((vespersref03_Ints.f kj3 y133 l1).bind fun t146 => (some t146)) else (none)) else (none)) else (none)))) else (none)) else (none))))))) else (none)) = some r := by first | (rw [hy130]; with_reducible exact H) | (have H2_ := (Option.bind_some _ _).symm.trans H; rw [hy130]; with_reducible exact H2_) | (have H2_ := (Option.bind_some _ _).symm.trans H; with_reducible exact H2_) | with_reducible exact H | (rw [hy130]; exact H) | exact H
        have Ny130 := Aside0.mk hy130
        clear hy130
        by_cases c7 : y130.length + l1.length < 17592186044416
        · rw [if_pos c7] at H
          have LMc7 := Aside0.mk c7
          clear c7
          obtain ⟨y133, hy133⟩ : ∃ y_ : List Int, y_ = (y130 ++ l1) := ⟨_, rfl⟩
          replace H : ((group_Of.f kj3 y133).bind fun bt136 => ((vespersref03_Of.f kj3 l1).bind fun bt138 => ((group_Parse.f a2).bind fun bt140 => ((vespersref03_Parse.f kj3 a2).bind fun bt142 => (if bt136.1 = bt138.1 then (if bt136.2 = bt138.2 then ((group_Text.f a0).bind fun t144 => ((vespersref03_Text.f kj3 a0).bind fun t145 => (if t144.toList = t145.toList then (if bt140.1 = bt142.1 then (if bt140.2 = bt142.2 then ((vespersref03_Ints.f kj3 y133 l1).bind fun t146 => (some t146)) else (none)) else (none)) else (none)))) else (none)) else (none)))))) = some r := by first | (rw [hy133]; with_reducible exact H) | (have H2_ := (Option.bind_some _ _).symm.trans H; rw [hy133]; with_reducible exact H2_) | (have H2_ := (Option.bind_some _ _).symm.trans H; with_reducible exact H2_) | with_reducible exact H | (rw [hy133]; exact H) | exact H
          have Ny133 := Aside0.mk hy133
          clear hy133
          replace H := Option.bind_eq_some_iff.mp H
          obtain ⟨⟨t136, t137⟩, A80, H⟩ := H
          replace H : ((vespersref03_Of.f kj3 l1).bind fun bt138 => ((group_Parse.f a2).bind fun bt140 => ((vespersref03_Parse.f kj3 a2).bind fun bt142 => (if t136 = bt138.1 then (if t137 = bt138.2 then ((group_Text.f a0).bind fun t144 => ((vespersref03_Text.f kj3 a0).bind fun t145 => (if t144.toList = t145.toList then (if bt140.1 = bt142.1 then (if bt140.2 = bt142.2 then ((vespersref03_Ints.f kj3 y133 l1).bind fun t146 => (some t146)) else (none)) else (none)) else (none)))) else (none)) else (none))))) = some r := H
          have A8 := Aside0.mk A80
          clear A80
          replace H := Option.bind_eq_some_iff.mp H
          obtain ⟨⟨t138, t139⟩, A90, H⟩ := H
          replace H : ((group_Parse.f a2).bind fun bt140 => ((vespersref03_Parse.f kj3 a2).bind fun bt142 => (if t136 = t138 then (if t137 = t139 then ((group_Text.f a0).bind fun t144 => ((vespersref03_Text.f kj3 a0).bind fun t145 => (if t144.toList = t145.toList then (if bt140.1 = bt142.1 then (if bt140.2 = bt142.2 then ((vespersref03_Ints.f kj3 y133 l1).bind fun t146 => (some t146)) else (none)) else (none)) else (none)))) else (none)) else (none)))) = some r := H
          have A9 := Aside0.mk A90
          clear A90
          replace H := Option.bind_eq_some_iff.mp H
          obtain ⟨⟨t140, t141⟩, A100, H⟩ := H
          replace H : ((vespersref03_Parse.f kj3 a2).bind fun bt142 => (if t136 = t138 then (if t137 = t139 then ((group_Text.f a0).bind fun t144 => ((vespersref03_Text.f kj3 a0).bind fun t145 => (if t144.toList = t145.toList then (if t140 = bt142.1 then (if t141 = bt142.2 then ((vespersref03_Ints.f kj3 y133 l1).bind fun t146 => (some t146)) else (none)) else (none)) else (none)))) else (none)) else (none))) = some r := H
          have A10 := Aside0.mk A100
          clear A100
          replace H := Option.bind_eq_some_iff.mp H
          obtain ⟨⟨t142, t143⟩, A110, H⟩ := H
          replace H : (if t136 = t138 then (if t137 = t139 then ((group_Text.f a0).bind fun t144 => ((vespersref03_Text.f kj3 a0).bind fun t145 => (if t144.toList = t145.toList then (if t140 = t142 then (if t141 = t143 then ((vespersref03_Ints.f kj3 y133 l1).bind fun t146 => (some t146)) else (none)) else (none)) else (none)))) else (none)) else (none)) = some r := H
          have A11 := Aside0.mk A110
          clear A110
          by_cases c12 : t136 = t138
          · rw [if_pos c12] at H
            have c12b0 : (t136 == t138) = true := beq_iff_eq.mpr c12
            have c12b1 : (t136 != t138) = false := bne_eq_false_iff_eq.mpr c12
            clear c12
            by_cases c13 : t137 = t139
            · rw [if_pos c13] at H
              have c13b0 : (t137 == t139) = true := beq_iff_eq.mpr c13
              have c13b1 : (t137 != t139) = false := bne_eq_false_iff_eq.mpr c13
              clear c13
              replace H := Option.bind_eq_some_iff.mp H
              obtain ⟨t144, A140, H⟩ := H
              replace H : ((vespersref03_Text.f kj3 a0).bind fun t145 => (if t144.toList = t145.toList then (if t140 = t142 then (if t141 = t143 then ((vespersref03_Ints.f kj3 y133 l1).bind fun t146 => (some t146)) else (none)) else (none)) else (none))) = some r := H
              have A14 := Aside0.mk A140
              clear A140
              replace H := Option.bind_eq_some_iff.mp H
              obtain ⟨t145, A150, H⟩ := H
              replace H : (if t144.toList = t145.toList then (if t140 = t142 then (if t141 = t143 then ((vespersref03_Ints.f kj3 y133 l1).bind fun t146 => (some t146)) else (none)) else (none)) else (none)) = some r := H
              have A15 := Aside0.mk A150
              clear A150
              by_cases c16 : t144.toList = t145.toList
              · rw [if_pos c16] at H
                have c16b0 : (t144.toList == t145.toList) = true := beq_iff_eq.mpr c16
                have c16b1 : (t144.toList != t145.toList) = false := bne_eq_false_iff_eq.mpr c16
                clear c16
                by_cases c17 : t140 = t142
                · rw [if_pos c17] at H
                  have c17b0 : (t140 == t142) = true := beq_iff_eq.mpr c17
                  have c17b1 : (t140 != t142) = false := bne_eq_false_iff_eq.mpr c17
                  clear c17
                  by_cases c18 : t141 = t143
                  · rw [if_pos c18] at H
                    have c18b0 : (t141 == t143) = true := beq_iff_eq.mpr c18
                    have c18b1 : (t141 != t143) = false := bne_eq_false_iff_eq.mpr c18
                    clear c18
                    replace H := Option.bind_eq_some_iff.mp H
                    obtain ⟨t146, A190, H⟩ := H
                    replace H : (some t146) = some r := H
                    have A19 := Aside0.mk A190
                    clear A190
                    obtain rfl := Option.some.inj H
                    go_wp2_with (first | ((with_reducible refine gate_dst (N := 24) rfl ?_); (try (refine gate_guard (by rfl) ?_; dsimp only)); refine Kd.R_lit (Kd.int .i64) _ 3 ?hg (N := 24) ?hd (xs := ([] : List Int)) (inner := []) (ok := fun _ => True) (okp := fun _ => True) ?hr ?hp (fun _ hk => hk) trivial (Below.refl _ _) (Nat.le_refl _) (by simp) ?_; (case hd => rfl); (case hg => rfl); (case hr => first | (go_simp; done) | (go_simp; rfl)); (case hp => exact (Reps.none _ _)); intro v131 w20 ho21 hb hg_ hnew_; clear hg_ hnew_; (first | rw [← Ny130.out] at ho21 | (simp only [Int.reduceToNat] at ho21; rw [← Ny130.out] at ho21)); have n0_ := Aside0.mk (Kd.R_lower ho21 (below_size (by repeat (first | (with_reducible first | exact HB.out | apply below_alloc | apply pw_below_drewN | apply below_drew1) | exact HB.out)))); have n1_ := Aside0.mk (below_step (by repeat (first | (with_reducible first | exact HB.out | apply below_alloc | apply pw_below_drewN | apply below_drew1) | exact HB.out)) hb); clear HB; have HO132 := n0_; have HB := n1_; clear n0_ n1_; clear hb ho21) | ((with_reducible refine gate_builtin (b := .append) (xs := #[.tmp 24, .tmp 25]) rfl ?_); (try (refine gate_guard (by rfl) ?_; dsimp only)); at_builtin; refine Kd.R_append_rows (Kd.int .i64) (w0 := w) w.heap.size rfl (.tmp 24) (.tmp 25) 24 3 (.int .i64 0) 8 rfl Try.underlying24 info3 rfl (by decide) (by omega) v131 y130 l1 _ _ _ (fun _ => True) (fun _ => False) rfl rfl ?aO ?aR (fun _ _ h => h) (fun _ h => h.elim) ?aF ?aB ?aS ?aL ?_; (case aR => repeat (first | exact (Kd.C_below HR1.out HB.out) | (with_reducible refine Kd.C_alloc ?_ _) | (with_reducible refine Kd.C_drewN ?_ _) | (with_reducible refine Kd.C_drew ?_))); (case aB => exact (by repeat (first | (with_reducible first | exact HB.out | apply below_alloc | apply pw_below_drewN | apply below_drew1) | exact HB.out))); (case aF => exact (fun _ _ => trivial)); (case aO => exact (by (with_reducible repeat (first | apply Kd.R_alloc | apply Kd.R_drewN | apply Kd.R_drew)); exact HO132.out)); (case aS => exact (below_size (by repeat (first | (with_reducible first | exact HB.out | apply below_alloc | apply pw_below_drewN | apply below_drew1) | exact HB.out)))); (case aL => have := LMc7.out; omega); intro v134 w22 ho hb hg hat; rw [← Ny133.out] at ho; have n0_ := Aside0.mk (hb); have n1_ := Aside0.mk (ho); clear HB; clear HO132; have HB := n0_; have HO135 := n1_; clear n0_ n1_; clear ho hb hg hat; obtain ⟨Ao23, co23, eo23⟩ := Kd.R_slice HO135.out; subst eo23) | ((with_reducible refine gate_callee (f := 33) rfl ?_); refine goesL_ (some 29) rfl rfl Try.func33 (by kernel_rfl) rfl #[.slice Ao23 y133.length co23] rfl (by (try simp only [List.map_toArray, List.map_cons, List.map_nil]); first | done | rfl | (simp only [List.length_drop, List.length_take]; rfl)) ?_; (with_reducible refine (group_Of.calls kj3 _ _ y133 t136 t137 _ ?side1 ?side2 A8.out).mono ?_); (case side1 => repeat (first | exact (Kd.R_reads' HO135.out).2.2 | (with_reducible refine Kd.C_alloc ?_ _) | (with_reducible refine Kd.C_drewN ?_ _) | (with_reducible refine Kd.C_drew ?_))); (case side2 => exact (Kd.R_reads' HO135.out).2.1); rintro e w' ⟨rfl, ⟨nd, rfl⟩⟩; refine ⟨_, rfl, ?_⟩) | ((with_reducible refine gate_callee (f := 35) rfl ?_); refine goesL_ (some 34) rfl rfl Try.func35 (by kernel_rfl) rfl #[.slice A1 l1.length c1] rfl (by (try simp only [List.map_toArray, List.map_cons, List.map_nil]); first | done | rfl | (simp only [List.length_drop, List.length_take]; rfl)) ?_; (with_reducible refine (vespersref03_Of.calls kj3 _ _ l1 t138 t139 _ ?side1 ?side2 A9.out).mono ?_); (case side1 => repeat (first | exact (Kd.C_below HR1.out (by repeat (first | (with_reducible first | exact HB.out | apply below_alloc | apply pw_below_drewN | apply below_drew1) | exact HB.out))) | (with_reducible refine Kd.C_alloc ?_ _) | (with_reducible refine Kd.C_drewN ?_ _) | (with_reducible refine Kd.C_drew ?_))); (case side2 => exact HC1.out); rintro e w' ⟨rfl, ⟨nd, rfl⟩⟩; refine ⟨_, rfl, ?_⟩) | ((with_reducible refine gate_callee (f := 36) rfl ?_); refine goesL_ (some 39) rfl rfl Try.func36 (by kernel_rfl) rfl #[.string a2] rfl (by (try simp only [List.map_toArray, List.map_cons, List.map_nil]); first | done | rfl | (simp only [List.length_drop, List.length_take]; rfl)) ?_; (with_reducible refine (group_Parse.callsAt a2 t140 t141 _ (hm.below (n := 0) (by repeat (first | (with_reducible first | exact HB.out | apply below_alloc | apply pw_below_drewN | apply below_drew1) | exact HB.out))) A10.out).mono ?_); rintro e w24 ⟨rfl, hb⟩; refine ⟨_, rfl, ?_⟩; have n0_ := Aside0.mk (Kd.R_below (by (with_reducible repeat (first | apply Kd.R_alloc | apply Kd.R_drewN | apply Kd.R_drew)); exact HO135.out) hb); have n1_ := Aside0.mk (below_step (by repeat (first | (with_reducible first | exact HB.out | apply below_alloc | apply pw_below_drewN | apply below_drew1) | exact HB.out)) hb); clear HO135; clear HB; have HO135 := n0_; have HB := n1_; clear n0_ n1_; (try clear hb); (try clear hb2); (try clear hk); (try clear hi)) | ((with_reducible refine gate_callee (f := 37) rfl ?_); refine goesL_ (some 44) rfl rfl Try.func37 (by kernel_rfl) rfl #[.string a2] rfl (by (try simp only [List.map_toArray, List.map_cons, List.map_nil]); first | done | rfl | (simp only [List.length_drop, List.length_take]; rfl)) ?_; (with_reducible refine (vespersref03_Parse.calls kj3 a2 t142 t143 _ A11.out).mono ?_); rintro e w' ⟨rfl, ⟨nd, rfl⟩⟩; refine ⟨_, rfl, ?_⟩) | (go_at_call 34; (with_reducible refine (group_Text.calls a0 t144 _ A14.out).mono ?_); rintro e w25 ⟨rfl, hb⟩; have n0_ := Aside0.mk (Kd.R_below (by (with_reducible repeat (first | apply Kd.R_alloc | apply Kd.R_drewN | apply Kd.R_drew)); exact HO135.out) hb); have n1_ := Aside0.mk (below_step (by repeat (first | (with_reducible first | exact HB.out | apply below_alloc | apply pw_below_drewN | apply below_drew1) | exact HB.out)) hb); clear HO135; clear HB; have HO135 := n0_; have HB := n1_; clear n0_ n1_; (try clear hb); (try clear hb2); (try clear hk); (try clear hi)) | (go_at_call 38; (with_reducible refine (vespersref03_Text.calls kj3 a0 t145 _ A15.out).mono ?_); rintro e w26 ⟨rfl, hb⟩; have n0_ := Aside0.mk (Kd.R_below (by (with_reducible repeat (first | apply Kd.R_alloc | apply Kd.R_drewN | apply Kd.R_drew)); exact HO135.out) hb); have n1_ := Aside0.mk (below_step (by repeat (first | (with_reducible first | exact HB.out | apply below_alloc | apply pw_below_drewN | apply below_drew1) | exact HB.out)) hb); clear HO135; clear HB; have HO135 := n0_; have HB := n1_; clear n0_ n1_; (try clear hb); (try clear hb2); (try clear hk); (try clear hi)) | (go_at_call 12; (with_reducible refine (vespersref03_Ints.calls kj3 _ _ y133 _ _ l1 t146 _ ?side1 ?side2 ?side3 ?side4 A19.out).mono ?_); (case side1 => repeat (first | exact (Kd.R_reads' HO135.out).2.2 | (with_reducible refine Kd.C_alloc ?_ _) | (with_reducible refine Kd.C_drewN ?_ _) | (with_reducible refine Kd.C_drew ?_))); (case side2 => exact (Kd.R_reads' HO135.out).2.1); (case side3 => repeat (first | exact (Kd.C_below HR1.out HB.out) | (with_reducible refine Kd.C_alloc ?_ _) | (with_reducible refine Kd.C_drewN ?_ _) | (with_reducible refine Kd.C_drew ?_))); (case side4 => exact HC1.out); rintro e w' ⟨rfl, ⟨nd, rfl⟩⟩))
                    go_ret
                    exact ⟨by first | rfl | (simp [errW_none, errW_some] <;> rfl) | (simp [*, errW_none, errW_some] <;> rfl), by repeat (first | (with_reducible first | exact HB.out | apply below_alloc | apply pw_below_drewN | apply below_drew1) | exact HB.out)⟩
                  · rw [if_neg c18] at H
                    exact absurd H (by simp)
                · rw [if_neg c17] at H
                  exact absurd H (by simp)
              · rw [if_neg c16] at H
                exact absurd H (by simp)
            · rw [if_neg c13] at H
              exact absurd H (by simp)
          · rw [if_neg c12] at H
            exact absurd H (by simp)
        · rw [if_neg c7] at H
          exact absurd H (by simp)

/-- THE ONE PURE STATEMENT of vesperslaw03_GroupForms: yours. -/
def vesperslaw03_GroupForms.Pure : Prop := ∀ (a0 : Int) (l1 : List Int) (a2 : ByteArray), (Lit.int .u16 a0).wf = true → l1.length ≤ maxLen → l1.length * 8 ≤ 140737488351232 → (∀ x ∈ l1, (Lit.int .i64 x).wf = true) → a2.size ≤ 140737488351232 → ∃ k, vesperslaw03_GroupForms.f k a0 l1 a2 = some true
theorem vesperslaw03_GroupForms.walk (P : vesperslaw03_GroupForms.Pure) (a0 : Int) (a1 : Option Addr) (len1 cap1 : Nat) (z1 : List Int) (a2 : ByteArray) (w : World) (hm : MaxAt w) (w0 : (Lit.int .u16 a0).wf = true) (w1 : (a1 = none ∧ len1 = 0 ∧ cap1 = 0 ∧ z1 = []) ∨ ∃ x, a1 = some x ∧ len1 ≤ cap1 ∧ cap1 ≤ maxLen ∧ z1.length = cap1 ∧ (∀ i, i < z1.length → w.cell? (x.add i) = some (.int .i64 (z1.getD i 0))) ∧ ∀ n ∈ z1, (Lit.int .i64 n).wf = true) (y1 : len1 * 8 ≤ 140737488351232) (w2 : a2.size ≤ 140737488351232) :
    Calls Try.prog 8 #[.int .u16 a0, .slice a1 len1 cap1, .string a2] w fun e w' => e = .returned (.bool true) ∧ Below w.heap.size w w' := by
  obtain ⟨l1, rfl, hr1, hm1, hw1, hc1⟩ := ReadsInt.ofRowC w1
  obtain ⟨k, h⟩ := P a0 l1 a2 w0 hm1 y1 hw1 w2
  refine (vesperslaw03_GroupForms.calls k a0 _ _ l1 a2 true w hm (Kd.C_of_reads (d := (0 : Int)) (h1 := fun _ => rfl) hr1) hc1 h).mono ?_
  rintro e w' ⟨rfl, hd⟩
  exact ⟨rfl, hd⟩

end Go.Proofs.Ytfjjeadoaoedoaa.PC
