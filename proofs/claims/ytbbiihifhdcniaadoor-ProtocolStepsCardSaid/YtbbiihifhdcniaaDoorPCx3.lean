/- Written by a program of this session (wip/jprint.py, over the printer of the kit): functions that a law comes to, as plain Lean functions, and walks; Lean checks it. -/
import Derived.Test.YtbbiihifhdcniaaDoorPCx0
import Derived.Test.YtbbiihifhdcniaaDoorPCx2
namespace Go.Proofs.YtbbiihifhdcniaaDoor.PC
open Go.RowKit Go.Proofs.YtbbiihifhdcniaaDoor.Hand Go.Proofs.YtbbiihifhdcniaaDoor.PA Go.Proofs.YtbbiihifhdcniaaDoorW.PrintWords Go.Proofs.YtbbiihifhdcniaaDoorW.PrintLast Go.Proofs.YtbbiihifhdcniaaDoorW.PrintMore
attribute [local go_sem] max2_int min2_int max_two min_two max_three min_three max_four min_four   -- for this text's walks alone
set_option linter.unusedVariables false
set_option linter.unusedSimpArgs false

-- BY HAND: function 13 (vespersref20_Same)

-- BY HAND: function 14 (protocol_Events)

-- BY HAND: function 15 (vespersref20_Events)

-- BY HAND: function 16 (protocol_May)

-- BY HAND: function 17 (vespersref20_May)

-- BY HAND: function 18 (protocol_Name)

-- BY HAND: function 19 (vespersref20_Name)

/-! ### vesperslaw20_ProtocolSteps: function 3 -/
mutual
def vesperslaw20_ProtocolSteps.j0 : Nat → Int → Int → Int → Int → List Int → ByteArray → Bool → Option (Bool)
  | 0, _, _, _, _, _, _, _ => none
  | k + 1, x0, x1, x2, x3, x4, x5, x39 => if x39 = true then (some true) else ((protocol_Next.f x0 x1).bind fun bt138 => ((vespersref20_Next.f k x0 x1).bind fun bt140 => ((some (([] : List Int) : List Int)).bind fun y142 => (if y142.length + x4.length < 17592186044416 then ((protocol_Run.f k x0 (y142 ++ x4)).bind fun bt148 => ((vespersref20_Run.f k x0 x4).bind fun bt152 => ((protocol_Parse.f x5).bind fun bt156 => ((vespersref20_Parse.f k x5).bind fun bt158 => ((protocol_Way.f x0 x3).bind fun bt160 => ((vespersref20_Way.f k x0 x3).bind fun bt164 => (if bt138.1 = bt140.1 then (if bt138.2 = bt140.2 then ((vespersref20_Same.f k bt148.1 bt152.1).bind fun t168 => (if t168 = true then (if bt148.2 = bt152.2 then (if bt156.1 = bt158.1 then (if bt156.2 = bt158.2 then ((vespersref20_Same.f k bt160.1 bt164.1).bind fun t169 => (if t169 = true then (vesperslaw20_ProtocolSteps.j1 k x0 x2 x3 bt160.1 bt164.1 (bt160.2 != bt164.2)) else (vesperslaw20_ProtocolSteps.j1 k x0 x2 x3 bt160.1 bt164.1 true))) else (vesperslaw20_ProtocolSteps.j1 k x0 x2 x3 bt160.1 bt164.1 true)) else (vesperslaw20_ProtocolSteps.j1 k x0 x2 x3 bt160.1 bt164.1 true)) else (vesperslaw20_ProtocolSteps.j1 k x0 x2 x3 bt160.1 bt164.1 true)) else (vesperslaw20_ProtocolSteps.j1 k x0 x2 x3 bt160.1 bt164.1 true))) else (vesperslaw20_ProtocolSteps.j1 k x0 x2 x3 bt160.1 bt164.1 true)) else (vesperslaw20_ProtocolSteps.j1 k x0 x2 x3 bt160.1 bt164.1 true)))))))) else (none)))))
def vesperslaw20_ProtocolSteps.j1 : Nat → Int → Int → Int → List Int → List Int → Bool → Option (Bool)
  | 0, _, _, _, _, _, _ => none
  | k + 1, x0, x2, x3, x25, x27, x127 => if x127 = true then (none) else (vesperslaw20_ProtocolSteps.l0 k x0 x2 x3 x25 x27 (x25.length : Int) 0)
def vesperslaw20_ProtocolSteps.l0 : Nat → Int → Int → Int → List Int → List Int → Int → Int → Option (Bool)
  | 0, _, _, _, _, _, _, _ => none
  | k + 1, x0, x2, x3, x25, x27, x129, x130 => if x130 < x129 then (if 0 ≤ x130 then (if x130 < (x25.length : Int) then (vesperslaw20_ProtocolSteps.l0 k x0 x2 x3 (x25.set (x130 : Int).toNat (-1)) x27 x129 (wrap64 (x130 + 1))) else (none)) else (none)) else ((protocol_Way.f x0 x3).bind fun bt171 => ((vespersref20_Same.f k bt171.1 x27).bind fun t175 => (if t175 = true then ((protocol_Events.f x0).bind fun t176 => ((vespersref20_Events.f k x0).bind fun t179 => ((vespersref20_Same.f k t176 t179).bind fun t182 => (if t182 = true then ((protocol_May.f x0 x2).bind fun t183 => ((vespersref20_May.f x0 x2).bind fun t184 => (if (t183 == t184) = true then ((protocol_Name.f x0).bind fun t185 => ((vespersref20_Name.f x0).bind fun t186 => (some (t185.toList == t186.toList)))) else (none)))) else (none))))) else (none))))
end
def vesperslaw20_ProtocolSteps.f (k : Nat) (a0 : Int) (a1 : Int) (a2 : Int) (a3 : Int) (l4 : List Int) (a5 : ByteArray) : Option (Bool) := if (l4.length : Int) > 100 then (vesperslaw20_ProtocolSteps.j0 k a0 a1 a2 a3 l4 a5 true) else (vesperslaw20_ProtocolSteps.j0 k a0 a1 a2 a3 l4 a5 (decide ((a5.size : Int) > 100)))
theorem vesperslaw20_ProtocolSteps.mono_l : ∀ k, (∀ y0 y1 y2 y3 y4 y5 y6, LeO (vesperslaw20_ProtocolSteps.j0 k y0 y1 y2 y3 y4 y5 y6) (vesperslaw20_ProtocolSteps.j0 (k + 1) y0 y1 y2 y3 y4 y5 y6)) ∧ (∀ y0 y1 y2 y3 y4 y5, LeO (vesperslaw20_ProtocolSteps.j1 k y0 y1 y2 y3 y4 y5) (vesperslaw20_ProtocolSteps.j1 (k + 1) y0 y1 y2 y3 y4 y5)) ∧ (∀ y0 y1 y2 y3 y4 y5 y6, LeO (vesperslaw20_ProtocolSteps.l0 k y0 y1 y2 y3 y4 y5 y6) (vesperslaw20_ProtocolSteps.l0 (k + 1) y0 y1 y2 y3 y4 y5 y6))
  | 0 => ⟨fun _ _ _ _ _ _ _ r h => by simp [vesperslaw20_ProtocolSteps.j0] at h, fun _ _ _ _ _ _ r h => by simp [vesperslaw20_ProtocolSteps.j1] at h, fun _ _ _ _ _ _ _ r h => by simp [vesperslaw20_ProtocolSteps.l0] at h⟩
  | k + 1 => by
    obtain ⟨ih0, ih1, ih2⟩ := vesperslaw20_ProtocolSteps.mono_l k
    refine ⟨?_, ?_, ?_⟩
    · intro y0 y1 y2 y3 y4 y5 y6
      unfold vesperslaw20_ProtocolSteps.j0
      repeat' first
      | (with_reducible exact ih0 _ _ _ _ _ _ _)
      | (with_reducible exact ih1 _ _ _ _ _ _)
      | (with_reducible exact ih2 _ _ _ _ _ _ _)
      | (with_reducible exact protocol_Run.mono _ _ _)
      | (with_reducible exact vespersref20_Events.mono _ _)
      | (with_reducible exact vespersref20_Next.mono _ _ _)
      | (with_reducible exact vespersref20_Parse.mono _ _)
      | (with_reducible exact vespersref20_Run.mono _ _ _)
      | (with_reducible exact vespersref20_Same.mono _ _ _)
      | (with_reducible exact vespersref20_Way.mono _ _ _)
      | (with_reducible exact LeO.refl _)
      | (with_reducible exact LeO.none _)
      | (with_reducible refine LeO.ite ?_ ?_)
      | (with_reducible refine LeO.bind ?_ (fun _ => ?_))
      | exact ih0 _ _ _ _ _ _ _
      | exact ih1 _ _ _ _ _ _
      | exact ih2 _ _ _ _ _ _ _
      | exact protocol_Run.mono _ _ _
      | exact vespersref20_Events.mono _ _
      | exact vespersref20_Next.mono _ _ _
      | exact vespersref20_Parse.mono _ _
      | exact vespersref20_Run.mono _ _ _
      | exact vespersref20_Same.mono _ _ _
      | exact vespersref20_Way.mono _ _ _
      | exact LeO.none _
      | refine LeO.ite ?_ ?_
      | refine LeO.bind ?_ (fun _ => ?_)
    · intro y0 y1 y2 y3 y4 y5
      unfold vesperslaw20_ProtocolSteps.j1
      repeat' first
      | (with_reducible exact ih0 _ _ _ _ _ _ _)
      | (with_reducible exact ih1 _ _ _ _ _ _)
      | (with_reducible exact ih2 _ _ _ _ _ _ _)
      | (with_reducible exact protocol_Run.mono _ _ _)
      | (with_reducible exact vespersref20_Events.mono _ _)
      | (with_reducible exact vespersref20_Next.mono _ _ _)
      | (with_reducible exact vespersref20_Parse.mono _ _)
      | (with_reducible exact vespersref20_Run.mono _ _ _)
      | (with_reducible exact vespersref20_Same.mono _ _ _)
      | (with_reducible exact vespersref20_Way.mono _ _ _)
      | (with_reducible exact LeO.refl _)
      | (with_reducible exact LeO.none _)
      | (with_reducible refine LeO.ite ?_ ?_)
      | (with_reducible refine LeO.bind ?_ (fun _ => ?_))
      | exact ih0 _ _ _ _ _ _ _
      | exact ih1 _ _ _ _ _ _
      | exact ih2 _ _ _ _ _ _ _
      | exact protocol_Run.mono _ _ _
      | exact vespersref20_Events.mono _ _
      | exact vespersref20_Next.mono _ _ _
      | exact vespersref20_Parse.mono _ _
      | exact vespersref20_Run.mono _ _ _
      | exact vespersref20_Same.mono _ _ _
      | exact vespersref20_Way.mono _ _ _
      | exact LeO.none _
      | refine LeO.ite ?_ ?_
      | refine LeO.bind ?_ (fun _ => ?_)
    · intro y0 y1 y2 y3 y4 y5 y6
      unfold vesperslaw20_ProtocolSteps.l0
      repeat' first
      | (with_reducible exact ih0 _ _ _ _ _ _ _)
      | (with_reducible exact ih1 _ _ _ _ _ _)
      | (with_reducible exact ih2 _ _ _ _ _ _ _)
      | (with_reducible exact protocol_Run.mono _ _ _)
      | (with_reducible exact vespersref20_Events.mono _ _)
      | (with_reducible exact vespersref20_Next.mono _ _ _)
      | (with_reducible exact vespersref20_Parse.mono _ _)
      | (with_reducible exact vespersref20_Run.mono _ _ _)
      | (with_reducible exact vespersref20_Same.mono _ _ _)
      | (with_reducible exact vespersref20_Way.mono _ _ _)
      | (with_reducible exact LeO.refl _)
      | (with_reducible exact LeO.none _)
      | (with_reducible refine LeO.ite ?_ ?_)
      | (with_reducible refine LeO.bind ?_ (fun _ => ?_))
      | exact ih0 _ _ _ _ _ _ _
      | exact ih1 _ _ _ _ _ _
      | exact ih2 _ _ _ _ _ _ _
      | exact protocol_Run.mono _ _ _
      | exact vespersref20_Events.mono _ _
      | exact vespersref20_Next.mono _ _ _
      | exact vespersref20_Parse.mono _ _
      | exact vespersref20_Run.mono _ _ _
      | exact vespersref20_Same.mono _ _ _
      | exact vespersref20_Way.mono _ _ _
      | exact LeO.none _
      | refine LeO.ite ?_ ?_
      | refine LeO.bind ?_ (fun _ => ?_)
theorem vesperslaw20_ProtocolSteps.mono : ∀ a0 a1 a2 a3 a4 a5 k, LeO (vesperslaw20_ProtocolSteps.f k a0 a1 a2 a3 a4 a5) (vesperslaw20_ProtocolSteps.f (k + 1) a0 a1 a2 a3 a4 a5) := by
  intro a0 a1 a2 a3 a4 a5 k
  obtain ⟨ih0, ih1, ih2⟩ := vesperslaw20_ProtocolSteps.mono_l k
  unfold vesperslaw20_ProtocolSteps.f
  repeat' first
      | (with_reducible exact ih0 _ _ _ _ _ _ _)
      | (with_reducible exact ih1 _ _ _ _ _ _)
      | (with_reducible exact ih2 _ _ _ _ _ _ _)
      | (with_reducible exact protocol_Run.mono _ _ _)
      | (with_reducible exact vespersref20_Events.mono _ _)
      | (with_reducible exact vespersref20_Next.mono _ _ _)
      | (with_reducible exact vespersref20_Parse.mono _ _)
      | (with_reducible exact vespersref20_Run.mono _ _ _)
      | (with_reducible exact vespersref20_Same.mono _ _ _)
      | (with_reducible exact vespersref20_Way.mono _ _ _)
      | (with_reducible exact LeO.refl _)
      | (with_reducible exact LeO.none _)
      | (with_reducible refine LeO.ite ?_ ?_)
      | (with_reducible refine LeO.bind ?_ (fun _ => ?_))
      | exact ih0 _ _ _ _ _ _ _
      | exact ih1 _ _ _ _ _ _
      | exact ih2 _ _ _ _ _ _ _
      | exact protocol_Run.mono _ _ _
      | exact vespersref20_Events.mono _ _
      | exact vespersref20_Next.mono _ _ _
      | exact vespersref20_Parse.mono _ _
      | exact vespersref20_Run.mono _ _ _
      | exact vespersref20_Same.mono _ _ _
      | exact vespersref20_Way.mono _ _ _
      | exact LeO.none _
      | refine LeO.ite ?_ ?_
      | refine LeO.bind ?_ (fun _ => ?_)
set_option maxHeartbeats 8000000 in
set_option maxRecDepth 100000 in
theorem vesperslaw20_ProtocolSteps.calls (k : Nat) (a0 : Int) (a1 : Int) (a2 : Int) (a3 : Int) (A4 : Option Addr) (c4 : Nat) (l4 : List Int) (a5 : ByteArray) (r : Bool) (w : World) (hm : FieldsAt w) (hr4 : Kd.C (Kd.int .i64) w A4 l4.length l4) (hc4 : l4.length ≤ c4) (h : vesperslaw20_ProtocolSteps.f k a0 a1 a2 a3 l4 a5 = some r) :
    Calls Tryd.prog 3 #[.int .i64 a0, .int .i64 a1, .int .i64 a2, .int .i64 a3, .slice A4 l4.length c4, .string a5] w fun e w' => e = .returned (.bool r) ∧ Below w.heap.size w w' := by
  have HR4 := Aside0.mk hr4
  have HC4 := Aside0.mk hc4
  clear hr4 hc4
  have HB := Aside0.mk (Below.refl w.heap.size w)
  have H : (if (l4.length : Int) > 100 then (vesperslaw20_ProtocolSteps.j0 k a0 a1 a2 a3 l4 a5 true) else (vesperslaw20_ProtocolSteps.j0 k a0 a1 a2 a3 l4 a5 (decide ((a5.size : Int) > 100)))) = some r := h
  clear h
  have HC7 := Aside0.mk H
  clear H
  go_enter Tryd.func3, Tryd.ntmps3
  go_upto_region 1 with (fail)
  go_cut [39] (fun v39 wc => ∃ (kq : Nat) (x39_6 : Bool), v39 = .bool x39_6 ∧ Aside0 (vesperslaw20_ProtocolSteps.j0 kq a0 a1 a2 a3 l4 a5 x39_6 = some r) ∧ Aside0 (kq ≤ k) ∧ Aside0 (Below w.heap.size w wc))
  case first =>
    have H := HC7.out
    clear HC7
    by_cases c8 : (l4.length : Int) > 100
    · rw [if_pos c8] at H
      have c8b0 : decide (100 < (l4.length : Int)) = true := decide_eq_true c8
      have c8b1 : decide (100 < l4.length) = true := decide_eq_true (by omega)
      clear c8
      (first | rw [c8b0] | (simp only [i64_w, i32_w]; rw [c8b0]) | skip)
      have H' := Aside0.mk H
      clear H
      go_wp2
      go_meet
      case rel => exact ⟨_, (true), (by first | rfl | (simp; done) | (simp [*]; done)), H', ⟨by first | omega | exact Nat.le_refl _⟩, ⟨by repeat (first | (with_reducible first | exact HB.out | apply below_alloc | apply pw_below_drewN | apply below_drew1) | exact HB.out)⟩⟩
    · rw [if_neg c8] at H
      have c8b0 : decide (100 < (l4.length : Int)) = false := decide_eq_false c8
      have c8b1 : decide (100 < l4.length) = false := decide_eq_false (by omega)
      clear c8
      (first | rw [c8b0] | (simp only [i64_w, i32_w]; rw [c8b0]) | skip)
      have H' := Aside0.mk H
      clear H
      go_wp2
      go_meet
      case rel => exact ⟨_, (decide ((a5.size : Int) > 100)), (by first | rfl | (simp; done) | (simp [*]; done)), H', ⟨by first | omega | exact Nat.le_refl _⟩, ⟨by repeat (first | (with_reducible first | exact HB.out | apply below_alloc | apply pw_below_drewN | apply below_drew1) | exact HB.out)⟩⟩
  case rest =>
    clear HC7
    try clear p2
    try clear c3
    try clear c4
    try clear c8
    try clear c8b0
    try clear c8b1
    obtain ⟨kq, x39_6, rfl, HA, HJ6, HB⟩ := hcut
    cases kq with
    | zero => exact absurd HA.out (by simp [vesperslaw20_ProtocolSteps.j0])
    | succ kj6 =>
      have H := HA.out
      clear HA
      simp only [vesperslaw20_ProtocolSteps.j0] at H
      by_cases c9 : x39_6 = true
      · subst c9
        have H1 : (some true) = some r := by rw [if_pos rfl] at H; exact H
        clear H
        have H := H1
        clear H1
        obtain rfl := Option.some.inj H
        go_wp2
        go_ret
        exact ⟨by first | rfl | (simp [errW_none, errW_some] <;> rfl) | (simp [*, errW_none, errW_some] <;> rfl), by repeat (first | (with_reducible first | exact HB.out | apply below_alloc | apply pw_below_drewN | apply below_drew1) | exact HB.out)⟩
      · replace c9 := Bool.eq_false_iff.mpr c9
        subst c9
        have H1 : ((protocol_Next.f a0 a1).bind fun bt138 => ((vespersref20_Next.f kj6 a0 a1).bind fun bt140 => ((some (([] : List Int) : List Int)).bind fun y142 => (if y142.length + l4.length < 17592186044416 then ((protocol_Run.f kj6 a0 (y142 ++ l4)).bind fun bt148 => ((vespersref20_Run.f kj6 a0 l4).bind fun bt152 => ((protocol_Parse.f a5).bind fun bt156 => ((vespersref20_Parse.f kj6 a5).bind fun bt158 => ((protocol_Way.f a0 a3).bind fun bt160 => ((vespersref20_Way.f kj6 a0 a3).bind fun bt164 => (if bt138.1 = bt140.1 then (if bt138.2 = bt140.2 then ((vespersref20_Same.f kj6 bt148.1 bt152.1).bind fun t168 => (if t168 = true then (if bt148.2 = bt152.2 then (if bt156.1 = bt158.1 then (if bt156.2 = bt158.2 then ((vespersref20_Same.f kj6 bt160.1 bt164.1).bind fun t169 => (if t169 = true then (vesperslaw20_ProtocolSteps.j1 kj6 a0 a2 a3 bt160.1 bt164.1 (bt160.2 != bt164.2)) else (vesperslaw20_ProtocolSteps.j1 kj6 a0 a2 a3 bt160.1 bt164.1 true))) else (vesperslaw20_ProtocolSteps.j1 kj6 a0 a2 a3 bt160.1 bt164.1 true)) else (vesperslaw20_ProtocolSteps.j1 kj6 a0 a2 a3 bt160.1 bt164.1 true)) else (vesperslaw20_ProtocolSteps.j1 kj6 a0 a2 a3 bt160.1 bt164.1 true)) else (vesperslaw20_ProtocolSteps.j1 kj6 a0 a2 a3 bt160.1 bt164.1 true))) else (vesperslaw20_ProtocolSteps.j1 kj6 a0 a2 a3 bt160.1 bt164.1 true)) else (vesperslaw20_ProtocolSteps.j1 kj6 a0 a2 a3 bt160.1 bt164.1 true)))))))) else (none))))) = some r := by rw [if_neg (show ¬ (false = true) by decide)] at H; exact H
        clear H
        have H := H1
        clear H1
        replace H := Option.bind_eq_some_iff.mp H
        obtain ⟨⟨t138, t139⟩, A100, H⟩ := H
        replace H : ((vespersref20_Next.f kj6 a0 a1).bind fun bt140 => ((some (([] : List Int) : List Int)).bind fun y142 => (if y142.length + l4.length < 17592186044416 then ((protocol_Run.f kj6 a0 (y142 ++ l4)).bind fun bt148 => ((vespersref20_Run.f kj6 a0 l4).bind fun bt152 => ((protocol_Parse.f a5).bind fun bt156 => ((vespersref20_Parse.f kj6 a5).bind fun bt158 => ((protocol_Way.f a0 a3).bind fun bt160 => ((vespersref20_Way.f kj6 a0 a3).bind fun bt164 => (if t138 = bt140.1 then (if t139 = bt140.2 then ((vespersref20_Same.f kj6 bt148.1 bt152.1).bind fun t168 => (if t168 = true then (if bt148.2 = bt152.2 then (if bt156.1 = bt158.1 then (if bt156.2 = bt158.2 then ((vespersref20_Same.f kj6 bt160.1 bt164.1).bind fun t169 => (if t169 = true then (vesperslaw20_ProtocolSteps.j1 kj6 a0 a2 a3 bt160.1 bt164.1 (bt160.2 != bt164.2)) else (vesperslaw20_ProtocolSteps.j1 kj6 a0 a2 a3 bt160.1 bt164.1 true))) else (vesperslaw20_ProtocolSteps.j1 kj6 a0 a2 a3 bt160.1 bt164.1 true)) else (vesperslaw20_ProtocolSteps.j1 kj6 a0 a2 a3 bt160.1 bt164.1 true)) else (vesperslaw20_ProtocolSteps.j1 kj6 a0 a2 a3 bt160.1 bt164.1 true)) else (vesperslaw20_ProtocolSteps.j1 kj6 a0 a2 a3 bt160.1 bt164.1 true))) else (vesperslaw20_ProtocolSteps.j1 kj6 a0 a2 a3 bt160.1 bt164.1 true)) else (vesperslaw20_ProtocolSteps.j1 kj6 a0 a2 a3 bt160.1 bt164.1 true)))))))) else (none)))) = some r := H
        have A10 := Aside0.mk A100
        clear A100
        replace H := Option.bind_eq_some_iff.mp H
        obtain ⟨⟨t140, t141⟩, A110, H⟩ := H
        replace H : ((some (([] : List Int) : List Int)).bind fun y142 => (if y142.length + l4.length < 17592186044416 then ((protocol_Run.f kj6 a0 (y142 ++ l4)).bind fun bt148 => ((vespersref20_Run.f kj6 a0 l4).bind fun bt152 => ((protocol_Parse.f a5).bind fun bt156 => ((vespersref20_Parse.f kj6 a5).bind fun bt158 => ((protocol_Way.f a0 a3).bind fun bt160 => ((vespersref20_Way.f kj6 a0 a3).bind fun bt164 => (if t138 = t140 then (if t139 = t141 then ((vespersref20_Same.f kj6 bt148.1 bt152.1).bind fun t168 => (if t168 = true then (if bt148.2 = bt152.2 then (if bt156.1 = bt158.1 then (if bt156.2 = bt158.2 then ((vespersref20_Same.f kj6 bt160.1 bt164.1).bind fun t169 => (if t169 = true then (vesperslaw20_ProtocolSteps.j1 kj6 a0 a2 a3 bt160.1 bt164.1 (bt160.2 != bt164.2)) else (vesperslaw20_ProtocolSteps.j1 kj6 a0 a2 a3 bt160.1 bt164.1 true))) else (vesperslaw20_ProtocolSteps.j1 kj6 a0 a2 a3 bt160.1 bt164.1 true)) else (vesperslaw20_ProtocolSteps.j1 kj6 a0 a2 a3 bt160.1 bt164.1 true)) else (vesperslaw20_ProtocolSteps.j1 kj6 a0 a2 a3 bt160.1 bt164.1 true)) else (vesperslaw20_ProtocolSteps.j1 kj6 a0 a2 a3 bt160.1 bt164.1 true))) else (vesperslaw20_ProtocolSteps.j1 kj6 a0 a2 a3 bt160.1 bt164.1 true)) else (vesperslaw20_ProtocolSteps.j1 kj6 a0 a2 a3 bt160.1 bt164.1 true)))))))) else (none))) = some r := H
        have A11 := Aside0.mk A110
        clear A110
        obtain ⟨y142, hy142⟩ : ∃ y_ : List Int, y_ = (([] : List Int)) := ⟨_, rfl⟩
        replace H : (if y142.length + l4.length < 17592186044416 then ((protocol_Run.f kj6 a0 (y142 ++ l4)).bind fun bt148 => ((vespersref20_Run.f kj6 a0 l4).bind fun bt152 => ((protocol_Parse.f a5).bind fun bt156 => ((vespersref20_Parse.f kj6 a5).bind fun bt158 => ((protocol_Way.f a0 a3).bind fun bt160 => ((vespersref20_Way.f kj6 a0 a3).bind fun bt164 => (if t138 = t140 then (if t139 = t141 then ((vespersref20_Same.f kj6 bt148.1 bt152.1).bind fun t168 => (if t168 = true then (if bt148.2 = bt152.2 then (if bt156.1 = bt158.1 then (if bt156.2 = bt158.2 then ((vespersref20_Same.f kj6 bt160.1 bt164.1).bind fun t169 => (if t169 = true then (vesperslaw20_ProtocolSteps.j1 kj6 a0 a2 a3 bt160.1 bt164.1 (bt160.2 != bt164.2)) else (vesperslaw20_ProtocolSteps.j1 kj6 a0 a2 a3 bt160.1 bt164.1 true))) else (vesperslaw20_ProtocolSteps.j1 kj6 a0 a2 a3 bt160.1 bt164.1 true)) else (vesperslaw20_ProtocolSteps.j1 kj6 a0 a2 a3 bt160.1 bt164.1 true)) else (vesperslaw20_ProtocolSteps.j1 kj6 a0 a2 a3 bt160.1 bt164.1 true)) else (vesperslaw20_ProtocolSteps.j1 kj6 a0 a2 a3 bt160.1 bt164.1 true))) else (vesperslaw20_ProtocolSteps.j1 kj6 a0 a2 a3 bt160.1 bt164.1 true)) else (vesperslaw20_ProtocolSteps.j1 kj6 a0 a2 a3 bt160.1 bt164.1 true)))))))) else (none)) = some r := by first | (rw [hy142]; with_reducible exact H) | (have H2_ := (Option.bind_some _ _).symm.trans H; rw [hy142]; with_reducible exact H2_) | (have H2_ := (Option.bind_some _ _).symm.trans H; with_reducible exact H2_) | with_reducible exact H | (rw [hy142]; exact H) | exact H
        have Ny142 := Aside0.mk hy142
        clear hy142
        by_cases c12 : y142.length + l4.length < 17592186044416
        · rw [if_pos c12] at H
          have LMc12 := Aside0.mk c12
          clear c12
          obtain ⟨y145, hy145⟩ : ∃ y_ : List Int, y_ = (y142 ++ l4) := ⟨_, rfl⟩
          replace H : ((protocol_Run.f kj6 a0 y145).bind fun bt148 => ((vespersref20_Run.f kj6 a0 l4).bind fun bt152 => ((protocol_Parse.f a5).bind fun bt156 => ((vespersref20_Parse.f kj6 a5).bind fun bt158 => ((protocol_Way.f a0 a3).bind fun bt160 => ((vespersref20_Way.f kj6 a0 a3).bind fun bt164 => (if t138 = t140 then (if t139 = t141 then ((vespersref20_Same.f kj6 bt148.1 bt152.1).bind fun t168 => (if t168 = true then (if bt148.2 = bt152.2 then (if bt156.1 = bt158.1 then (if bt156.2 = bt158.2 then ((vespersref20_Same.f kj6 bt160.1 bt164.1).bind fun t169 => (if t169 = true then (vesperslaw20_ProtocolSteps.j1 kj6 a0 a2 a3 bt160.1 bt164.1 (bt160.2 != bt164.2)) else (vesperslaw20_ProtocolSteps.j1 kj6 a0 a2 a3 bt160.1 bt164.1 true))) else (vesperslaw20_ProtocolSteps.j1 kj6 a0 a2 a3 bt160.1 bt164.1 true)) else (vesperslaw20_ProtocolSteps.j1 kj6 a0 a2 a3 bt160.1 bt164.1 true)) else (vesperslaw20_ProtocolSteps.j1 kj6 a0 a2 a3 bt160.1 bt164.1 true)) else (vesperslaw20_ProtocolSteps.j1 kj6 a0 a2 a3 bt160.1 bt164.1 true))) else (vesperslaw20_ProtocolSteps.j1 kj6 a0 a2 a3 bt160.1 bt164.1 true)) else (vesperslaw20_ProtocolSteps.j1 kj6 a0 a2 a3 bt160.1 bt164.1 true)))))))) = some r := by first | (rw [hy145]; with_reducible exact H) | (have H2_ := (Option.bind_some _ _).symm.trans H; rw [hy145]; with_reducible exact H2_) | (have H2_ := (Option.bind_some _ _).symm.trans H; with_reducible exact H2_) | with_reducible exact H | (rw [hy145]; exact H) | exact H
          have Ny145 := Aside0.mk hy145
          clear hy145
          replace H := Option.bind_eq_some_iff.mp H
          obtain ⟨⟨t148, t149⟩, A130, H⟩ := H
          replace H : ((vespersref20_Run.f kj6 a0 l4).bind fun bt152 => ((protocol_Parse.f a5).bind fun bt156 => ((vespersref20_Parse.f kj6 a5).bind fun bt158 => ((protocol_Way.f a0 a3).bind fun bt160 => ((vespersref20_Way.f kj6 a0 a3).bind fun bt164 => (if t138 = t140 then (if t139 = t141 then ((vespersref20_Same.f kj6 t148 bt152.1).bind fun t168 => (if t168 = true then (if t149 = bt152.2 then (if bt156.1 = bt158.1 then (if bt156.2 = bt158.2 then ((vespersref20_Same.f kj6 bt160.1 bt164.1).bind fun t169 => (if t169 = true then (vesperslaw20_ProtocolSteps.j1 kj6 a0 a2 a3 bt160.1 bt164.1 (bt160.2 != bt164.2)) else (vesperslaw20_ProtocolSteps.j1 kj6 a0 a2 a3 bt160.1 bt164.1 true))) else (vesperslaw20_ProtocolSteps.j1 kj6 a0 a2 a3 bt160.1 bt164.1 true)) else (vesperslaw20_ProtocolSteps.j1 kj6 a0 a2 a3 bt160.1 bt164.1 true)) else (vesperslaw20_ProtocolSteps.j1 kj6 a0 a2 a3 bt160.1 bt164.1 true)) else (vesperslaw20_ProtocolSteps.j1 kj6 a0 a2 a3 bt160.1 bt164.1 true))) else (vesperslaw20_ProtocolSteps.j1 kj6 a0 a2 a3 bt160.1 bt164.1 true)) else (vesperslaw20_ProtocolSteps.j1 kj6 a0 a2 a3 bt160.1 bt164.1 true))))))) = some r := H
          have A13 := Aside0.mk A130
          clear A130
          replace H := Option.bind_eq_some_iff.mp H
          obtain ⟨⟨t152, t153⟩, A140, H⟩ := H
          replace H : ((protocol_Parse.f a5).bind fun bt156 => ((vespersref20_Parse.f kj6 a5).bind fun bt158 => ((protocol_Way.f a0 a3).bind fun bt160 => ((vespersref20_Way.f kj6 a0 a3).bind fun bt164 => (if t138 = t140 then (if t139 = t141 then ((vespersref20_Same.f kj6 t148 t152).bind fun t168 => (if t168 = true then (if t149 = t153 then (if bt156.1 = bt158.1 then (if bt156.2 = bt158.2 then ((vespersref20_Same.f kj6 bt160.1 bt164.1).bind fun t169 => (if t169 = true then (vesperslaw20_ProtocolSteps.j1 kj6 a0 a2 a3 bt160.1 bt164.1 (bt160.2 != bt164.2)) else (vesperslaw20_ProtocolSteps.j1 kj6 a0 a2 a3 bt160.1 bt164.1 true))) else (vesperslaw20_ProtocolSteps.j1 kj6 a0 a2 a3 bt160.1 bt164.1 true)) else (vesperslaw20_ProtocolSteps.j1 kj6 a0 a2 a3 bt160.1 bt164.1 true)) else (vesperslaw20_ProtocolSteps.j1 kj6 a0 a2 a3 bt160.1 bt164.1 true)) else (vesperslaw20_ProtocolSteps.j1 kj6 a0 a2 a3 bt160.1 bt164.1 true))) else (vesperslaw20_ProtocolSteps.j1 kj6 a0 a2 a3 bt160.1 bt164.1 true)) else (vesperslaw20_ProtocolSteps.j1 kj6 a0 a2 a3 bt160.1 bt164.1 true)))))) = some r := H
          have A14 := Aside0.mk A140
          clear A140
          replace H := Option.bind_eq_some_iff.mp H
          obtain ⟨⟨t156, t157⟩, A150, H⟩ := H
          replace H : ((vespersref20_Parse.f kj6 a5).bind fun bt158 => ((protocol_Way.f a0 a3).bind fun bt160 => ((vespersref20_Way.f kj6 a0 a3).bind fun bt164 => (if t138 = t140 then (if t139 = t141 then ((vespersref20_Same.f kj6 t148 t152).bind fun t168 => (if t168 = true then (if t149 = t153 then (if t156 = bt158.1 then (if t157 = bt158.2 then ((vespersref20_Same.f kj6 bt160.1 bt164.1).bind fun t169 => (if t169 = true then (vesperslaw20_ProtocolSteps.j1 kj6 a0 a2 a3 bt160.1 bt164.1 (bt160.2 != bt164.2)) else (vesperslaw20_ProtocolSteps.j1 kj6 a0 a2 a3 bt160.1 bt164.1 true))) else (vesperslaw20_ProtocolSteps.j1 kj6 a0 a2 a3 bt160.1 bt164.1 true)) else (vesperslaw20_ProtocolSteps.j1 kj6 a0 a2 a3 bt160.1 bt164.1 true)) else (vesperslaw20_ProtocolSteps.j1 kj6 a0 a2 a3 bt160.1 bt164.1 true)) else (vesperslaw20_ProtocolSteps.j1 kj6 a0 a2 a3 bt160.1 bt164.1 true))) else (vesperslaw20_ProtocolSteps.j1 kj6 a0 a2 a3 bt160.1 bt164.1 true)) else (vesperslaw20_ProtocolSteps.j1 kj6 a0 a2 a3 bt160.1 bt164.1 true))))) = some r := H
          have A15 := Aside0.mk A150
          clear A150
          replace H := Option.bind_eq_some_iff.mp H
          obtain ⟨⟨t158, t159⟩, A160, H⟩ := H
          replace H : ((protocol_Way.f a0 a3).bind fun bt160 => ((vespersref20_Way.f kj6 a0 a3).bind fun bt164 => (if t138 = t140 then (if t139 = t141 then ((vespersref20_Same.f kj6 t148 t152).bind fun t168 => (if t168 = true then (if t149 = t153 then (if t156 = t158 then (if t157 = t159 then ((vespersref20_Same.f kj6 bt160.1 bt164.1).bind fun t169 => (if t169 = true then (vesperslaw20_ProtocolSteps.j1 kj6 a0 a2 a3 bt160.1 bt164.1 (bt160.2 != bt164.2)) else (vesperslaw20_ProtocolSteps.j1 kj6 a0 a2 a3 bt160.1 bt164.1 true))) else (vesperslaw20_ProtocolSteps.j1 kj6 a0 a2 a3 bt160.1 bt164.1 true)) else (vesperslaw20_ProtocolSteps.j1 kj6 a0 a2 a3 bt160.1 bt164.1 true)) else (vesperslaw20_ProtocolSteps.j1 kj6 a0 a2 a3 bt160.1 bt164.1 true)) else (vesperslaw20_ProtocolSteps.j1 kj6 a0 a2 a3 bt160.1 bt164.1 true))) else (vesperslaw20_ProtocolSteps.j1 kj6 a0 a2 a3 bt160.1 bt164.1 true)) else (vesperslaw20_ProtocolSteps.j1 kj6 a0 a2 a3 bt160.1 bt164.1 true)))) = some r := H
          have A16 := Aside0.mk A160
          clear A160
          replace H := Option.bind_eq_some_iff.mp H
          obtain ⟨⟨t160, t161⟩, A170, H⟩ := H
          replace H : ((vespersref20_Way.f kj6 a0 a3).bind fun bt164 => (if t138 = t140 then (if t139 = t141 then ((vespersref20_Same.f kj6 t148 t152).bind fun t168 => (if t168 = true then (if t149 = t153 then (if t156 = t158 then (if t157 = t159 then ((vespersref20_Same.f kj6 t160 bt164.1).bind fun t169 => (if t169 = true then (vesperslaw20_ProtocolSteps.j1 kj6 a0 a2 a3 t160 bt164.1 (t161 != bt164.2)) else (vesperslaw20_ProtocolSteps.j1 kj6 a0 a2 a3 t160 bt164.1 true))) else (vesperslaw20_ProtocolSteps.j1 kj6 a0 a2 a3 t160 bt164.1 true)) else (vesperslaw20_ProtocolSteps.j1 kj6 a0 a2 a3 t160 bt164.1 true)) else (vesperslaw20_ProtocolSteps.j1 kj6 a0 a2 a3 t160 bt164.1 true)) else (vesperslaw20_ProtocolSteps.j1 kj6 a0 a2 a3 t160 bt164.1 true))) else (vesperslaw20_ProtocolSteps.j1 kj6 a0 a2 a3 t160 bt164.1 true)) else (vesperslaw20_ProtocolSteps.j1 kj6 a0 a2 a3 t160 bt164.1 true))) = some r := H
          have A17 := Aside0.mk A170
          clear A170
          replace H := Option.bind_eq_some_iff.mp H
          obtain ⟨⟨t164, t167⟩, A180, H⟩ := H
          replace H : (if t138 = t140 then (if t139 = t141 then ((vespersref20_Same.f kj6 t148 t152).bind fun t168 => (if t168 = true then (if t149 = t153 then (if t156 = t158 then (if t157 = t159 then ((vespersref20_Same.f kj6 t160 t164).bind fun t169 => (if t169 = true then (vesperslaw20_ProtocolSteps.j1 kj6 a0 a2 a3 t160 t164 (t161 != t167)) else (vesperslaw20_ProtocolSteps.j1 kj6 a0 a2 a3 t160 t164 true))) else (vesperslaw20_ProtocolSteps.j1 kj6 a0 a2 a3 t160 t164 true)) else (vesperslaw20_ProtocolSteps.j1 kj6 a0 a2 a3 t160 t164 true)) else (vesperslaw20_ProtocolSteps.j1 kj6 a0 a2 a3 t160 t164 true)) else (vesperslaw20_ProtocolSteps.j1 kj6 a0 a2 a3 t160 t164 true))) else (vesperslaw20_ProtocolSteps.j1 kj6 a0 a2 a3 t160 t164 true)) else (vesperslaw20_ProtocolSteps.j1 kj6 a0 a2 a3 t160 t164 true)) = some r := H
          have A18 := Aside0.mk A180
          clear A180
          have HC19 := Aside0.mk H
          clear H
          go_upto_region 11 with (first | ((with_reducible refine gate_callee (f := 5) rfl ?_); refine goesL_ (some 43) rfl rfl Tryd.func5 (by kernel_rfl) rfl #[.int .i64 a0, .int .i64 a1] rfl (by (try simp only [List.map_toArray, List.map_cons, List.map_nil]); first | done | rfl | (simp only [List.length_drop, List.length_take]; rfl)) ?_; (with_reducible refine (protocol_Next.calls a0 a1 t138 t139 _ A10.out).mono ?_); rintro e w20 ⟨rfl, hb⟩; refine ⟨_, rfl, ?_⟩; have n0_ := Aside0.mk (below_step (by repeat (first | (with_reducible first | exact HB.out | apply below_alloc | apply pw_below_drewN | apply below_drew1) | exact HB.out)) hb); clear HB; have HB := n0_; clear n0_; (try clear hb); (try clear hb2); (try clear hk); (try clear hi)) | ((with_reducible refine gate_callee (f := 6) rfl ?_); refine goesL_ (some 49) rfl rfl Tryd.func6 (by kernel_rfl) rfl #[.int .i64 a0, .int .i64 a1] rfl (by (try simp only [List.map_toArray, List.map_cons, List.map_nil]); first | done | rfl | (simp only [List.length_drop, List.length_take]; rfl)) ?_; (with_reducible refine (vespersref20_Next.calls kj6 a0 a1 t140 t141 _ A11.out).mono ?_); rintro e w' ⟨rfl, ⟨nd, rfl⟩⟩; refine ⟨_, rfl, ?_⟩) | ((with_reducible refine gate_dst (N := 54) rfl ?_); (try (refine gate_guard (by rfl) ?_; dsimp only)); refine Kd.R_lit (Kd.int .i64) _ 3 ?hg (N := 54) ?hd (xs := ([] : List Int)) (inner := []) (ok := fun _ => True) (okp := fun _ => True) ?hr ?hp (fun _ hk => hk) trivial (Below.refl _ _) (Nat.le_refl _) (by simp) ?_; (case hd => rfl); (case hg => rfl); (case hr => first | (go_simp; done) | (go_simp; rfl)); (case hp => exact (Reps.none _ _)); intro v143 w21 ho22 hb hg_ hnew_; clear hg_ hnew_; (first | rw [← Ny142.out] at ho22 | (simp only [Int.reduceToNat] at ho22; rw [← Ny142.out] at ho22)); have n0_ := Aside0.mk (Kd.R_lower ho22 (below_size (by repeat (first | (with_reducible first | exact HB.out | apply below_alloc | apply pw_below_drewN | apply below_drew1) | exact HB.out)))); have n1_ := Aside0.mk (below_step (by repeat (first | (with_reducible first | exact HB.out | apply below_alloc | apply pw_below_drewN | apply below_drew1) | exact HB.out)) hb); clear HB; have HO144 := n0_; have HB := n1_; clear n0_ n1_; clear hb ho22) | ((with_reducible refine gate_builtin (b := .append) (xs := #[.tmp 54, .tmp 55]) rfl ?_); (try (refine gate_guard (by rfl) ?_; dsimp only)); at_builtin; refine Kd.R_append_rows (Kd.int .i64) (w0 := w) w.heap.size rfl (.tmp 54) (.tmp 55) 22 3 (.int .i64 0) 8 rfl Tryd.underlying22 info3 rfl (by decide) (by omega) v143 y142 l4 _ _ _ (fun _ => True) (fun _ => False) rfl rfl ?aO ?aR (fun _ _ h => h) (fun _ h => h.elim) ?aF ?aB ?aS ?aL ?_; (case aR => repeat (first | exact (Kd.C_below HR4.out HB.out) | (with_reducible refine Kd.C_alloc ?_ _) | (with_reducible refine Kd.C_drewN ?_ _) | (with_reducible refine Kd.C_drew ?_))); (case aB => exact (by repeat (first | (with_reducible first | exact HB.out | apply below_alloc | apply pw_below_drewN | apply below_drew1) | exact HB.out))); (case aF => exact (fun _ _ => trivial)); (case aO => exact (by (with_reducible repeat (first | apply Kd.R_alloc | apply Kd.R_drewN | apply Kd.R_drew)); exact HO144.out)); (case aS => exact (below_size (by repeat (first | (with_reducible first | exact HB.out | apply below_alloc | apply pw_below_drewN | apply below_drew1) | exact HB.out)))); (case aL => have := LMc12.out; omega); intro v146 w23 ho hb hg hat; rw [← Ny145.out] at ho; have n0_ := Aside0.mk (hb); have n1_ := Aside0.mk (ho); clear HB; clear HO144; have HB := n0_; have HO147 := n1_; clear n0_ n1_; clear ho hb hg hat; obtain ⟨Ao24, co24, eo24⟩ := Kd.R_slice HO147.out; subst eo24) | ((with_reducible refine gate_callee (f := 7) rfl ?_); refine goesL_ (some 57) rfl rfl Tryd.func7 (by kernel_rfl) rfl #[.int .i64 a0, .slice Ao24 y145.length co24] rfl (by (try simp only [List.map_toArray, List.map_cons, List.map_nil]); first | done | rfl | (simp only [List.length_drop, List.length_take]; rfl)) ?_; (with_reducible refine (protocol_Run.calls kj6 a0 _ _ y145 t148 t149 _ ?side1 ?side2 A13.out).mono ?_); (case side1 => repeat (first | exact (Kd.R_reads' HO147.out).2.2 | (with_reducible refine Kd.C_alloc ?_ _) | (with_reducible refine Kd.C_drewN ?_ _) | (with_reducible refine Kd.C_drew ?_))); (case side2 => exact (Kd.R_reads' HO147.out).2.1); rintro e w25 ⟨v150, rfl, ho0, hb⟩; refine ⟨_, rfl, ?_⟩; have n0_ := Aside0.mk (Kd.R_elder' (by (with_reducible repeat (first | apply Kd.R_alloc | apply Kd.R_drewN | apply Kd.R_drew)); exact HO147.out) (Kd.R_base ho0) hb); have n1_ := Aside0.mk (Kd.R_lower (Kd.R_new' ho0 (Kd.R_lt (by (with_reducible repeat (first | apply Kd.R_alloc | apply Kd.R_drewN | apply Kd.R_drew)); exact HO147.out))) (below_size (by repeat (first | (with_reducible first | exact HB.out | apply below_alloc | apply pw_below_drewN | apply below_drew1) | exact HB.out)))); have n2_ := Aside0.mk (below_step (by repeat (first | (with_reducible first | exact HB.out | apply below_alloc | apply pw_below_drewN | apply below_drew1) | exact HB.out)) hb); clear HO147; clear HB; have HO147 := n0_; have HO151 := n1_; have HB := n2_; clear n0_ n1_ n2_; (try clear hb); (try clear hb2); (try clear hk); (try clear hi); (try clear ho0)) | ((with_reducible refine gate_callee (f := 8) rfl ?_); refine goesL_ (some 63) rfl rfl Tryd.func8 (by kernel_rfl) rfl #[.int .i64 a0, .slice A4 l4.length c4] rfl (by (try simp only [List.map_toArray, List.map_cons, List.map_nil]); first | done | rfl | (simp only [List.length_drop, List.length_take]; rfl)) ?_; (with_reducible refine (vespersref20_Run.calls kj6 a0 _ _ l4 t152 t153 _ ?side1 ?side2 A14.out).mono ?_); (case side1 => repeat (first | exact (Kd.C_below HR4.out HB.out) | (with_reducible refine Kd.C_alloc ?_ _) | (with_reducible refine Kd.C_drewN ?_ _) | (with_reducible refine Kd.C_drew ?_))); (case side2 => exact HC4.out); rintro e w26 ⟨v154, rfl, ho0, hb⟩; refine ⟨_, rfl, ?_⟩; have n0_ := Aside0.mk (Kd.R_elder' (by (with_reducible repeat (first | apply Kd.R_alloc | apply Kd.R_drewN | apply Kd.R_drew)); exact HO147.out) (Kd.R_base ho0) hb); have n1_ := Aside0.mk (Kd.R_elder' (by (with_reducible repeat (first | apply Kd.R_alloc | apply Kd.R_drewN | apply Kd.R_drew)); exact HO151.out) (Kd.R_base ho0) hb); have n2_ := Aside0.mk (Kd.R_lower (Kd.R_new' (Kd.R_new' ho0 (Kd.R_lt (by (with_reducible repeat (first | apply Kd.R_alloc | apply Kd.R_drewN | apply Kd.R_drew)); exact HO147.out))) (Kd.R_lt (by (with_reducible repeat (first | apply Kd.R_alloc | apply Kd.R_drewN | apply Kd.R_drew)); exact HO151.out))) (below_size (by repeat (first | (with_reducible first | exact HB.out | apply below_alloc | apply pw_below_drewN | apply below_drew1) | exact HB.out)))); have n3_ := Aside0.mk (below_step (by repeat (first | (with_reducible first | exact HB.out | apply below_alloc | apply pw_below_drewN | apply below_drew1) | exact HB.out)) hb); clear HO147; clear HO151; clear HB; have HO147 := n0_; have HO151 := n1_; have HO155 := n2_; have HB := n3_; clear n0_ n1_ n2_ n3_; (try clear hb); (try clear hb2); (try clear hk); (try clear hi); (try clear ho0)) | ((with_reducible refine gate_callee (f := 9) rfl ?_); refine goesL_ (some 68) rfl rfl Tryd.func9 (by kernel_rfl) rfl #[.string a5] rfl (by (try simp only [List.map_toArray, List.map_cons, List.map_nil]); first | done | rfl | (simp only [List.length_drop, List.length_take]; rfl)) ?_; (with_reducible refine (protocol_Parse.callsAt a5 t156 t157 _ (hm.below (by repeat (first | (with_reducible first | exact HB.out | apply below_alloc | apply pw_below_drewN | apply below_drew1) | exact HB.out)) (Nat.le_refl _)) A15.out).mono ?_); rintro e w27 ⟨rfl, hb⟩; refine ⟨_, rfl, ?_⟩; have n0_ := Aside0.mk (Kd.R_below (by (with_reducible repeat (first | apply Kd.R_alloc | apply Kd.R_drewN | apply Kd.R_drew)); exact HO147.out) hb); have n1_ := Aside0.mk (Kd.R_below (by (with_reducible repeat (first | apply Kd.R_alloc | apply Kd.R_drewN | apply Kd.R_drew)); exact HO151.out) hb); have n2_ := Aside0.mk (Kd.R_below (by (with_reducible repeat (first | apply Kd.R_alloc | apply Kd.R_drewN | apply Kd.R_drew)); exact HO155.out) hb); have n3_ := Aside0.mk (below_step (by repeat (first | (with_reducible first | exact HB.out | apply below_alloc | apply pw_below_drewN | apply below_drew1) | exact HB.out)) hb); clear HO147; clear HO151; clear HO155; clear HB; have HO147 := n0_; have HO151 := n1_; have HO155 := n2_; have HB := n3_; clear n0_ n1_ n2_ n3_; (try clear hb); (try clear hb2); (try clear hk); (try clear hi)) | ((with_reducible refine gate_callee (f := 10) rfl ?_); refine goesL_ (some 73) rfl rfl Tryd.func10 (by kernel_rfl) rfl #[.string a5] rfl (by (try simp only [List.map_toArray, List.map_cons, List.map_nil]); first | done | rfl | (simp only [List.length_drop, List.length_take]; rfl)) ?_; (with_reducible refine (vespersref20_Parse.calls kj6 a5 t158 t159 _ A16.out).mono ?_); rintro e w' ⟨rfl, ⟨nd, rfl⟩⟩; refine ⟨_, rfl, ?_⟩) | ((with_reducible refine gate_callee (f := 11) rfl ?_); refine goesL_ (some 79) rfl rfl Tryd.func11 (by kernel_rfl) rfl #[.int .i64 a0, .int .i64 a3] rfl (by (try simp only [List.map_toArray, List.map_cons, List.map_nil]); first | done | rfl | (simp only [List.length_drop, List.length_take]; rfl)) ?_; (with_reducible refine (protocol_Way.calls a0 a3 t160 t161 _ A17.out).mono ?_); rintro e w28 ⟨v162, rfl, ho0, hb⟩; refine ⟨_, rfl, ?_⟩; have n0_ := Aside0.mk (Kd.R_elder' (by (with_reducible repeat (first | apply Kd.R_alloc | apply Kd.R_drewN | apply Kd.R_drew)); exact HO147.out) (Kd.R_base ho0) hb); have n1_ := Aside0.mk (Kd.R_elder' (by (with_reducible repeat (first | apply Kd.R_alloc | apply Kd.R_drewN | apply Kd.R_drew)); exact HO151.out) (Kd.R_base ho0) hb); have n2_ := Aside0.mk (Kd.R_elder' (by (with_reducible repeat (first | apply Kd.R_alloc | apply Kd.R_drewN | apply Kd.R_drew)); exact HO155.out) (Kd.R_base ho0) hb); have n3_ := Aside0.mk (Kd.R_lower (Kd.R_new' (Kd.R_new' (Kd.R_new' ho0 (Kd.R_lt (by (with_reducible repeat (first | apply Kd.R_alloc | apply Kd.R_drewN | apply Kd.R_drew)); exact HO147.out))) (Kd.R_lt (by (with_reducible repeat (first | apply Kd.R_alloc | apply Kd.R_drewN | apply Kd.R_drew)); exact HO151.out))) (Kd.R_lt (by (with_reducible repeat (first | apply Kd.R_alloc | apply Kd.R_drewN | apply Kd.R_drew)); exact HO155.out))) (below_size (by repeat (first | (with_reducible first | exact HB.out | apply below_alloc | apply pw_below_drewN | apply below_drew1) | exact HB.out)))); have n4_ := Aside0.mk (below_step (by repeat (first | (with_reducible first | exact HB.out | apply below_alloc | apply pw_below_drewN | apply below_drew1) | exact HB.out)) hb); clear HO147; clear HO151; clear HO155; clear HB; have HO147 := n0_; have HO151 := n1_; have HO155 := n2_; have HO163 := n3_; have HB := n4_; clear n0_ n1_ n2_ n3_ n4_; (try clear hb); (try clear hb2); (try clear hk); (try clear hi); (try clear ho0)) | ((with_reducible refine gate_callee (f := 12) rfl ?_); refine goesL_ (some 85) rfl rfl Tryd.func12 (by kernel_rfl) rfl #[.int .i64 a0, .int .i64 a3] rfl (by (try simp only [List.map_toArray, List.map_cons, List.map_nil]); first | done | rfl | (simp only [List.length_drop, List.length_take]; rfl)) ?_; (with_reducible refine (vespersref20_Way.calls kj6 a0 a3 t164 t167 _ A18.out).mono ?_); rintro e w29 ⟨v165, rfl, ho0, hb⟩; refine ⟨_, rfl, ?_⟩; have n0_ := Aside0.mk (Kd.R_below (by (with_reducible repeat (first | apply Kd.R_alloc | apply Kd.R_drewN | apply Kd.R_drew)); exact HO147.out) hb); have n1_ := Aside0.mk (Kd.R_below (by (with_reducible repeat (first | apply Kd.R_alloc | apply Kd.R_drewN | apply Kd.R_drew)); exact HO151.out) hb); have n2_ := Aside0.mk (Kd.R_below (by (with_reducible repeat (first | apply Kd.R_alloc | apply Kd.R_drewN | apply Kd.R_drew)); exact HO155.out) hb); have n3_ := Aside0.mk (Kd.R_below (by (with_reducible repeat (first | apply Kd.R_alloc | apply Kd.R_drewN | apply Kd.R_drew)); exact HO163.out) hb); have n4_ := Aside0.mk (Kd.V_lower (Kd.V_mono (ok' := fun k_ => some k_ ≠ (.slice Ao24 y145.length co24 : Value).ownBlock ∧ some k_ ≠ (v150 : Value).ownBlock ∧ some k_ ≠ (v154 : Value).ownBlock ∧ some k_ ≠ (v162 : Value).ownBlock) ho0 (fun k_ hk_ => ⟨(Kd.fresh' (Kd.R_lt (by (with_reducible repeat (first | apply Kd.R_alloc | apply Kd.R_drewN | apply Kd.R_drew)); exact HO147.out)) k_ hk_), (Kd.fresh' (Kd.R_lt (by (with_reducible repeat (first | apply Kd.R_alloc | apply Kd.R_drewN | apply Kd.R_drew)); exact HO151.out)) k_ hk_), (Kd.fresh' (Kd.R_lt (by (with_reducible repeat (first | apply Kd.R_alloc | apply Kd.R_drewN | apply Kd.R_drew)); exact HO155.out)) k_ hk_), (Kd.fresh' (Kd.R_lt (by (with_reducible repeat (first | apply Kd.R_alloc | apply Kd.R_drewN | apply Kd.R_drew)); exact HO163.out)) k_ hk_)⟩)) (below_size (by repeat (first | (with_reducible first | exact HB.out | apply below_alloc | apply pw_below_drewN | apply below_drew1) | exact HB.out)))); have n5_ := Aside0.mk (below_step (by repeat (first | (with_reducible first | exact HB.out | apply below_alloc | apply pw_below_drewN | apply below_drew1) | exact HB.out)) hb); clear HO147; clear HO151; clear HO155; clear HO163; clear HB; have HO147 := n0_; have HO151 := n1_; have HO155 := n2_; have HO163 := n3_; have HO166 := n4_; have HB := n5_; clear n0_ n1_ n2_ n3_ n4_ n5_; (try clear hb); (try clear hb2); (try clear hk); (try clear hi); (try clear ho0)))
          (try simp only [Act.put, List.setIfInBounds_toArray, List.set_cons_zero, List.set_cons_succ])
          go_cut [127] (fun v127 wc => ∃ (kq : Nat) (x127_18 : Bool), v127 = .bool x127_18 ∧ Aside0 (vesperslaw20_ProtocolSteps.j1 kq a0 a2 a3 t160 t164 x127_18 = some r) ∧ Aside0 (kq ≤ kj6) ∧ Aside0 (Kd.R (Kd.int .i64) 3 wc w.heap.size (fun _ => True) v162 t160) ∧ Aside0 (Kd.V (Kd.int .i64) 3 wc w.heap.size (fun k_ => some k_ ≠ (v162 : Value).ownBlock) v165 t164) ∧ Aside0 (Below w.heap.size w wc))
          case first =>
            have H := HC19.out
            clear HC19
            by_cases c30 : t138 = t140
            · rw [if_pos c30] at H
              have c30b0 : (t138 == t140) = true := beq_iff_eq.mpr c30
              have c30b1 : (t138 != t140) = false := bne_eq_false_iff_eq.mpr c30
              clear c30
              (first | rw [c30b0] | (simp only [i64_w, i32_w]; rw [c30b0]) | skip)
              by_cases c31 : t139 = t141
              · rw [if_pos c31] at H
                have c31b0 : (t139 == t141) = true := beq_iff_eq.mpr c31
                have c31b1 : (t139 != t141) = false := bne_eq_false_iff_eq.mpr c31
                clear c31
                replace H := Option.bind_eq_some_iff.mp H
                obtain ⟨t168, A320, H⟩ := H
                replace H : (if t168 = true then (if t149 = t153 then (if t156 = t158 then (if t157 = t159 then ((vespersref20_Same.f kj6 t160 t164).bind fun t169 => (if t169 = true then (vesperslaw20_ProtocolSteps.j1 kj6 a0 a2 a3 t160 t164 (t161 != t167)) else (vesperslaw20_ProtocolSteps.j1 kj6 a0 a2 a3 t160 t164 true))) else (vesperslaw20_ProtocolSteps.j1 kj6 a0 a2 a3 t160 t164 true)) else (vesperslaw20_ProtocolSteps.j1 kj6 a0 a2 a3 t160 t164 true)) else (vesperslaw20_ProtocolSteps.j1 kj6 a0 a2 a3 t160 t164 true)) else (vesperslaw20_ProtocolSteps.j1 kj6 a0 a2 a3 t160 t164 true)) = some r := H
                have A32 := Aside0.mk A320
                clear A320
                by_cases c33 : t168 = true
                · subst c33
                  have H1 : (if t149 = t153 then (if t156 = t158 then (if t157 = t159 then ((vespersref20_Same.f kj6 t160 t164).bind fun t169 => (if t169 = true then (vesperslaw20_ProtocolSteps.j1 kj6 a0 a2 a3 t160 t164 (t161 != t167)) else (vesperslaw20_ProtocolSteps.j1 kj6 a0 a2 a3 t160 t164 true))) else (vesperslaw20_ProtocolSteps.j1 kj6 a0 a2 a3 t160 t164 true)) else (vesperslaw20_ProtocolSteps.j1 kj6 a0 a2 a3 t160 t164 true)) else (vesperslaw20_ProtocolSteps.j1 kj6 a0 a2 a3 t160 t164 true)) = some r := by rw [if_pos rfl] at H; exact H
                  clear H
                  have H := H1
                  clear H1
                  by_cases c34 : t149 = t153
                  · rw [if_pos c34] at H
                    have c34b0 : (t149 == t153) = true := beq_iff_eq.mpr c34
                    have c34b1 : (t149 != t153) = false := bne_eq_false_iff_eq.mpr c34
                    clear c34
                    by_cases c35 : t156 = t158
                    · rw [if_pos c35] at H
                      have c35b0 : (t156 == t158) = true := beq_iff_eq.mpr c35
                      have c35b1 : (t156 != t158) = false := bne_eq_false_iff_eq.mpr c35
                      clear c35
                      by_cases c36 : t157 = t159
                      · rw [if_pos c36] at H
                        have c36b0 : (t157 == t159) = true := beq_iff_eq.mpr c36
                        have c36b1 : (t157 != t159) = false := bne_eq_false_iff_eq.mpr c36
                        clear c36
                        replace H := Option.bind_eq_some_iff.mp H
                        obtain ⟨t169, A370, H⟩ := H
                        replace H : (if t169 = true then (vesperslaw20_ProtocolSteps.j1 kj6 a0 a2 a3 t160 t164 (t161 != t167)) else (vesperslaw20_ProtocolSteps.j1 kj6 a0 a2 a3 t160 t164 true)) = some r := H
                        have A37 := Aside0.mk A370
                        clear A370
                        by_cases c38 : t169 = true
                        · subst c38
                          have H1 : (vesperslaw20_ProtocolSteps.j1 kj6 a0 a2 a3 t160 t164 (t161 != t167)) = some r := by rw [if_pos rfl] at H; exact H
                          clear H
                          have H := H1
                          clear H1
                          have H' := Aside0.mk H
                          clear H
                          obtain ⟨Ao39, co39, eo39⟩ := Kd.R_slice HO151.out
                          subst eo39
                          obtain ⟨Ao40, co40, eo40⟩ := Kd.R_slice HO155.out
                          subst eo40
                          go_wp2_with (first | (go_at_call 13; (with_reducible refine (vespersref20_Same.calls kj6 _ _ t148 _ _ t152 true _ ?side1 ?side2 ?side3 ?side4 A32.out).mono ?_); (case side1 => repeat (first | exact (Kd.R_reads' HO151.out).2.2 | (with_reducible refine Kd.C_alloc ?_ _) | (with_reducible refine Kd.C_drewN ?_ _) | (with_reducible refine Kd.C_drew ?_))); (case side2 => exact (Kd.R_reads' HO151.out).2.1); (case side3 => repeat (first | exact (Kd.R_reads' HO155.out).2.2 | (with_reducible refine Kd.C_alloc ?_ _) | (with_reducible refine Kd.C_drewN ?_ _) | (with_reducible refine Kd.C_drew ?_))); (case side4 => exact (Kd.R_reads' HO155.out).2.1); rintro e w' ⟨rfl, ⟨nd, rfl⟩⟩; obtain ⟨Ao41, co41, eo41⟩ := Kd.R_slice HO163.out; subst eo41; obtain ⟨Ao42, co42, eo42⟩ := Kd.V_slice HO166.out; subst eo42) | (go_at_call 13; (with_reducible refine (vespersref20_Same.calls kj6 _ _ t160 _ _ t164 true _ ?side1 ?side2 ?side3 ?side4 A37.out).mono ?_); (case side1 => repeat (first | exact (Kd.R_reads' HO163.out).2.2 | (with_reducible refine Kd.C_alloc ?_ _) | (with_reducible refine Kd.C_drewN ?_ _) | (with_reducible refine Kd.C_drew ?_))); (case side2 => exact (Kd.R_reads' HO163.out).2.1); (case side3 => repeat (first | exact (Kd.V_reads' HO166.out).2.2 | (with_reducible refine Kd.C_alloc ?_ _) | (with_reducible refine Kd.C_drewN ?_ _) | (with_reducible refine Kd.C_drew ?_))); (case side4 => exact (Kd.V_reads' HO166.out).2.1); rintro e w' ⟨rfl, ⟨nd, rfl⟩⟩))
                          go_meet
                          case rel => exact ⟨_, ((t161 != t167)), (by first | rfl | (simp; done) | (simp [*]; done)), H', ⟨by have := HJ6.out; first | omega | exact Nat.le_refl _⟩, ⟨by (with_reducible repeat (first | apply Kd.R_alloc | apply Kd.R_drewN | apply Kd.R_drew)); exact Kd.R_mono HO163.out (fun _ hk => trivial)⟩, ⟨by (with_reducible repeat (first | apply Kd.V_alloc | apply Kd.V_drewN | apply Kd.V_drew)); exact Kd.V_mono HO166.out (fun _ hk => hk.2.2.2)⟩, ⟨by repeat (first | (with_reducible first | exact HB.out | apply below_alloc | apply pw_below_drewN | apply below_drew1) | exact HB.out)⟩⟩
                        · replace c38 := Bool.eq_false_iff.mpr c38
                          subst c38
                          have H1 : (vesperslaw20_ProtocolSteps.j1 kj6 a0 a2 a3 t160 t164 true) = some r := by rw [if_neg (show ¬ (false = true) by decide)] at H; exact H
                          clear H
                          have H := H1
                          clear H1
                          have H' := Aside0.mk H
                          clear H
                          obtain ⟨Ao43, co43, eo43⟩ := Kd.R_slice HO151.out
                          subst eo43
                          obtain ⟨Ao44, co44, eo44⟩ := Kd.R_slice HO155.out
                          subst eo44
                          go_wp2_with (first | (go_at_call 13; (with_reducible refine (vespersref20_Same.calls kj6 _ _ t148 _ _ t152 true _ ?side1 ?side2 ?side3 ?side4 A32.out).mono ?_); (case side1 => repeat (first | exact (Kd.R_reads' HO151.out).2.2 | (with_reducible refine Kd.C_alloc ?_ _) | (with_reducible refine Kd.C_drewN ?_ _) | (with_reducible refine Kd.C_drew ?_))); (case side2 => exact (Kd.R_reads' HO151.out).2.1); (case side3 => repeat (first | exact (Kd.R_reads' HO155.out).2.2 | (with_reducible refine Kd.C_alloc ?_ _) | (with_reducible refine Kd.C_drewN ?_ _) | (with_reducible refine Kd.C_drew ?_))); (case side4 => exact (Kd.R_reads' HO155.out).2.1); rintro e w' ⟨rfl, ⟨nd, rfl⟩⟩; obtain ⟨Ao45, co45, eo45⟩ := Kd.R_slice HO163.out; subst eo45; obtain ⟨Ao46, co46, eo46⟩ := Kd.V_slice HO166.out; subst eo46) | (go_at_call 13; (with_reducible refine (vespersref20_Same.calls kj6 _ _ t160 _ _ t164 false _ ?side1 ?side2 ?side3 ?side4 A37.out).mono ?_); (case side1 => repeat (first | exact (Kd.R_reads' HO163.out).2.2 | (with_reducible refine Kd.C_alloc ?_ _) | (with_reducible refine Kd.C_drewN ?_ _) | (with_reducible refine Kd.C_drew ?_))); (case side2 => exact (Kd.R_reads' HO163.out).2.1); (case side3 => repeat (first | exact (Kd.V_reads' HO166.out).2.2 | (with_reducible refine Kd.C_alloc ?_ _) | (with_reducible refine Kd.C_drewN ?_ _) | (with_reducible refine Kd.C_drew ?_))); (case side4 => exact (Kd.V_reads' HO166.out).2.1); rintro e w' ⟨rfl, ⟨nd, rfl⟩⟩))
                          go_meet
                          case rel => exact ⟨_, (true), (by first | rfl | (simp; done) | (simp [*]; done)), H', ⟨by have := HJ6.out; first | omega | exact Nat.le_refl _⟩, ⟨by (with_reducible repeat (first | apply Kd.R_alloc | apply Kd.R_drewN | apply Kd.R_drew)); exact Kd.R_mono HO163.out (fun _ hk => trivial)⟩, ⟨by (with_reducible repeat (first | apply Kd.V_alloc | apply Kd.V_drewN | apply Kd.V_drew)); exact Kd.V_mono HO166.out (fun _ hk => hk.2.2.2)⟩, ⟨by repeat (first | (with_reducible first | exact HB.out | apply below_alloc | apply pw_below_drewN | apply below_drew1) | exact HB.out)⟩⟩
                      · rw [if_neg c36] at H
                        have c36b0 : (t157 == t159) = false := beq_eq_false_iff_ne.mpr c36
                        have c36b1 : (t157 != t159) = true := bne_iff_ne.mpr c36
                        have H' := Aside0.mk H
                        clear H
                        obtain ⟨Ao47, co47, eo47⟩ := Kd.R_slice HO151.out
                        subst eo47
                        obtain ⟨Ao48, co48, eo48⟩ := Kd.R_slice HO155.out
                        subst eo48
                        go_wp2_with (first | (go_at_call 13; (with_reducible refine (vespersref20_Same.calls kj6 _ _ t148 _ _ t152 true _ ?side1 ?side2 ?side3 ?side4 A32.out).mono ?_); (case side1 => repeat (first | exact (Kd.R_reads' HO151.out).2.2 | (with_reducible refine Kd.C_alloc ?_ _) | (with_reducible refine Kd.C_drewN ?_ _) | (with_reducible refine Kd.C_drew ?_))); (case side2 => exact (Kd.R_reads' HO151.out).2.1); (case side3 => repeat (first | exact (Kd.R_reads' HO155.out).2.2 | (with_reducible refine Kd.C_alloc ?_ _) | (with_reducible refine Kd.C_drewN ?_ _) | (with_reducible refine Kd.C_drew ?_))); (case side4 => exact (Kd.R_reads' HO155.out).2.1); rintro e w' ⟨rfl, ⟨nd, rfl⟩⟩))
                        go_meet
                        case rel => exact ⟨_, (true), (by first | rfl | (simp; done) | (simp [*]; done)), H', ⟨by have := HJ6.out; first | omega | exact Nat.le_refl _⟩, ⟨by (with_reducible repeat (first | apply Kd.R_alloc | apply Kd.R_drewN | apply Kd.R_drew)); exact Kd.R_mono HO163.out (fun _ hk => trivial)⟩, ⟨by (with_reducible repeat (first | apply Kd.V_alloc | apply Kd.V_drewN | apply Kd.V_drew)); exact Kd.V_mono HO166.out (fun _ hk => hk.2.2.2)⟩, ⟨by repeat (first | (with_reducible first | exact HB.out | apply below_alloc | apply pw_below_drewN | apply below_drew1) | exact HB.out)⟩⟩
                    · rw [if_neg c35] at H
                      have c35b0 : (t156 == t158) = false := beq_eq_false_iff_ne.mpr c35
                      have c35b1 : (t156 != t158) = true := bne_iff_ne.mpr c35
                      have H' := Aside0.mk H
                      clear H
                      obtain ⟨Ao49, co49, eo49⟩ := Kd.R_slice HO151.out
                      subst eo49
                      obtain ⟨Ao50, co50, eo50⟩ := Kd.R_slice HO155.out
                      subst eo50
                      go_wp2_with (first | (go_at_call 13; (with_reducible refine (vespersref20_Same.calls kj6 _ _ t148 _ _ t152 true _ ?side1 ?side2 ?side3 ?side4 A32.out).mono ?_); (case side1 => repeat (first | exact (Kd.R_reads' HO151.out).2.2 | (with_reducible refine Kd.C_alloc ?_ _) | (with_reducible refine Kd.C_drewN ?_ _) | (with_reducible refine Kd.C_drew ?_))); (case side2 => exact (Kd.R_reads' HO151.out).2.1); (case side3 => repeat (first | exact (Kd.R_reads' HO155.out).2.2 | (with_reducible refine Kd.C_alloc ?_ _) | (with_reducible refine Kd.C_drewN ?_ _) | (with_reducible refine Kd.C_drew ?_))); (case side4 => exact (Kd.R_reads' HO155.out).2.1); rintro e w' ⟨rfl, ⟨nd, rfl⟩⟩))
                      go_meet
                      case rel => exact ⟨_, (true), (by first | rfl | (simp; done) | (simp [*]; done)), H', ⟨by have := HJ6.out; first | omega | exact Nat.le_refl _⟩, ⟨by (with_reducible repeat (first | apply Kd.R_alloc | apply Kd.R_drewN | apply Kd.R_drew)); exact Kd.R_mono HO163.out (fun _ hk => trivial)⟩, ⟨by (with_reducible repeat (first | apply Kd.V_alloc | apply Kd.V_drewN | apply Kd.V_drew)); exact Kd.V_mono HO166.out (fun _ hk => hk.2.2.2)⟩, ⟨by repeat (first | (with_reducible first | exact HB.out | apply below_alloc | apply pw_below_drewN | apply below_drew1) | exact HB.out)⟩⟩
                  · rw [if_neg c34] at H
                    have c34b0 : (t149 == t153) = false := beq_eq_false_iff_ne.mpr c34
                    have c34b1 : (t149 != t153) = true := bne_iff_ne.mpr c34
                    have H' := Aside0.mk H
                    clear H
                    obtain ⟨Ao51, co51, eo51⟩ := Kd.R_slice HO151.out
                    subst eo51
                    obtain ⟨Ao52, co52, eo52⟩ := Kd.R_slice HO155.out
                    subst eo52
                    go_wp2_with (first | (go_at_call 13; (with_reducible refine (vespersref20_Same.calls kj6 _ _ t148 _ _ t152 true _ ?side1 ?side2 ?side3 ?side4 A32.out).mono ?_); (case side1 => repeat (first | exact (Kd.R_reads' HO151.out).2.2 | (with_reducible refine Kd.C_alloc ?_ _) | (with_reducible refine Kd.C_drewN ?_ _) | (with_reducible refine Kd.C_drew ?_))); (case side2 => exact (Kd.R_reads' HO151.out).2.1); (case side3 => repeat (first | exact (Kd.R_reads' HO155.out).2.2 | (with_reducible refine Kd.C_alloc ?_ _) | (with_reducible refine Kd.C_drewN ?_ _) | (with_reducible refine Kd.C_drew ?_))); (case side4 => exact (Kd.R_reads' HO155.out).2.1); rintro e w' ⟨rfl, ⟨nd, rfl⟩⟩))
                    go_meet
                    case rel => exact ⟨_, (true), (by first | rfl | (simp; done) | (simp [*]; done)), H', ⟨by have := HJ6.out; first | omega | exact Nat.le_refl _⟩, ⟨by (with_reducible repeat (first | apply Kd.R_alloc | apply Kd.R_drewN | apply Kd.R_drew)); exact Kd.R_mono HO163.out (fun _ hk => trivial)⟩, ⟨by (with_reducible repeat (first | apply Kd.V_alloc | apply Kd.V_drewN | apply Kd.V_drew)); exact Kd.V_mono HO166.out (fun _ hk => hk.2.2.2)⟩, ⟨by repeat (first | (with_reducible first | exact HB.out | apply below_alloc | apply pw_below_drewN | apply below_drew1) | exact HB.out)⟩⟩
                · replace c33 := Bool.eq_false_iff.mpr c33
                  subst c33
                  have H1 : (vesperslaw20_ProtocolSteps.j1 kj6 a0 a2 a3 t160 t164 true) = some r := by rw [if_neg (show ¬ (false = true) by decide)] at H; exact H
                  clear H
                  have H := H1
                  clear H1
                  have H' := Aside0.mk H
                  clear H
                  obtain ⟨Ao53, co53, eo53⟩ := Kd.R_slice HO151.out
                  subst eo53
                  obtain ⟨Ao54, co54, eo54⟩ := Kd.R_slice HO155.out
                  subst eo54
                  go_wp2_with (first | (go_at_call 13; (with_reducible refine (vespersref20_Same.calls kj6 _ _ t148 _ _ t152 false _ ?side1 ?side2 ?side3 ?side4 A32.out).mono ?_); (case side1 => repeat (first | exact (Kd.R_reads' HO151.out).2.2 | (with_reducible refine Kd.C_alloc ?_ _) | (with_reducible refine Kd.C_drewN ?_ _) | (with_reducible refine Kd.C_drew ?_))); (case side2 => exact (Kd.R_reads' HO151.out).2.1); (case side3 => repeat (first | exact (Kd.R_reads' HO155.out).2.2 | (with_reducible refine Kd.C_alloc ?_ _) | (with_reducible refine Kd.C_drewN ?_ _) | (with_reducible refine Kd.C_drew ?_))); (case side4 => exact (Kd.R_reads' HO155.out).2.1); rintro e w' ⟨rfl, ⟨nd, rfl⟩⟩))
                  go_meet
                  case rel => exact ⟨_, (true), (by first | rfl | (simp; done) | (simp [*]; done)), H', ⟨by have := HJ6.out; first | omega | exact Nat.le_refl _⟩, ⟨by (with_reducible repeat (first | apply Kd.R_alloc | apply Kd.R_drewN | apply Kd.R_drew)); exact Kd.R_mono HO163.out (fun _ hk => trivial)⟩, ⟨by (with_reducible repeat (first | apply Kd.V_alloc | apply Kd.V_drewN | apply Kd.V_drew)); exact Kd.V_mono HO166.out (fun _ hk => hk.2.2.2)⟩, ⟨by repeat (first | (with_reducible first | exact HB.out | apply below_alloc | apply pw_below_drewN | apply below_drew1) | exact HB.out)⟩⟩
              · rw [if_neg c31] at H
                have c31b0 : (t139 == t141) = false := beq_eq_false_iff_ne.mpr c31
                have c31b1 : (t139 != t141) = true := bne_iff_ne.mpr c31
                have H' := Aside0.mk H
                clear H
                go_wp2
                go_meet
                case rel => exact ⟨_, (true), (by first | rfl | (simp; done) | (simp [*]; done)), H', ⟨by have := HJ6.out; first | omega | exact Nat.le_refl _⟩, ⟨by (with_reducible repeat (first | apply Kd.R_alloc | apply Kd.R_drewN | apply Kd.R_drew)); exact Kd.R_mono HO163.out (fun _ hk => trivial)⟩, ⟨by (with_reducible repeat (first | apply Kd.V_alloc | apply Kd.V_drewN | apply Kd.V_drew)); exact Kd.V_mono HO166.out (fun _ hk => hk.2.2.2)⟩, ⟨by repeat (first | (with_reducible first | exact HB.out | apply below_alloc | apply pw_below_drewN | apply below_drew1) | exact HB.out)⟩⟩
            · rw [if_neg c30] at H
              have c30b0 : (t138 == t140) = false := beq_eq_false_iff_ne.mpr c30
              have c30b1 : (t138 != t140) = true := bne_iff_ne.mpr c30
              (first | rw [c30b0] | (simp only [i64_w, i32_w]; rw [c30b0]) | skip)
              have H' := Aside0.mk H
              clear H
              go_wp2
              go_meet
              case rel => exact ⟨_, (true), (by first | rfl | (simp; done) | (simp [*]; done)), H', ⟨by have := HJ6.out; first | omega | exact Nat.le_refl _⟩, ⟨by (with_reducible repeat (first | apply Kd.R_alloc | apply Kd.R_drewN | apply Kd.R_drew)); exact Kd.R_mono HO163.out (fun _ hk => trivial)⟩, ⟨by (with_reducible repeat (first | apply Kd.V_alloc | apply Kd.V_drewN | apply Kd.V_drew)); exact Kd.V_mono HO166.out (fun _ hk => hk.2.2.2)⟩, ⟨by repeat (first | (with_reducible first | exact HB.out | apply below_alloc | apply pw_below_drewN | apply below_drew1) | exact HB.out)⟩⟩
          case rest =>
            clear HC19
            try clear c1
            try clear p2
            try clear c3
            try clear c4
            try clear c5
            try clear c6
            try clear c7
            try clear c8
            try clear c8b0
            try clear c8b1
            try clear c9
            try clear c10
            try clear c11
            try clear c12
            try clear c30
            try clear c30b0
            try clear c30b1
            try clear c31
            try clear c31b0
            try clear c31b1
            try clear c33
            try clear c34
            try clear c34b0
            try clear c34b1
            try clear c35
            try clear c35b0
            try clear c35b1
            try clear c36
            try clear c36b0
            try clear c36b1
            try clear c38
            try clear p2
            obtain ⟨kq, x127_18, rfl, HA, HJ18, HO_25, HO_27, HB⟩ := hcut
            cases kq with
            | zero => exact absurd HA.out (by simp [vesperslaw20_ProtocolSteps.j1])
            | succ kj18 =>
              have H := HA.out
              clear HA
              simp only [vesperslaw20_ProtocolSteps.j1] at H
              by_cases c55 : x127_18 = true
              · subst c55
                have H1 : (none) = some r := by rw [if_pos rfl] at H; exact H
                clear H
                have H := H1
                clear H1
                exact absurd H (by simp)
              · replace c55 := Bool.eq_false_iff.mpr c55
                subst c55
                have H1 : (vesperslaw20_ProtocolSteps.l0 kj18 a0 a2 a3 t160 t164 (t160.length : Int) 0) = some r := by rw [if_neg (show ¬ (false = true) by decide)] at H; exact H
                clear H
                have H := H1
                clear H1
                have H' := Aside0.mk H
                clear H
                obtain ⟨Ao56, co56, eo56⟩ := Kd.R_slice HO_25.out
                subst eo56
                go_wp2
                go_loopg [130] kj18 (fun kq v130 w' => ∃ (x25_3 : List Int) (x130_3 : Int), v130 = .int .i64 x130_3 ∧ Aside0 (vesperslaw20_ProtocolSteps.l0 kq a0 a2 a3 x25_3 t164 (t160.length : Int) x130_3 = some r) ∧ Aside0 (kq ≤ kj18) ∧ Aside0 (Kd.R (Kd.int .i64) 3 w' w.heap.size (fun _ => True) (.slice Ao56 t160.length co56) x25_3) ∧ Aside0 (Kd.V (Kd.int .i64) 3 w' w.heap.size (fun k_ => some k_ ≠ ((.slice Ao56 t160.length co56) : Value).ownBlock) v165 t164) ∧ Aside0 (Below w.heap.size w w'))
                case atStart => exact ⟨(t160), (0), (by first | rfl | (simp; done) | (simp [*]; done)), H', ⟨Nat.le_refl _⟩, ⟨by (with_reducible repeat (first | apply Kd.R_alloc | apply Kd.R_drewN | apply Kd.R_drew)); exact HO_25.out⟩, ⟨by (with_reducible repeat (first | apply Kd.V_alloc | apply Kd.V_drewN | apply Kd.V_drew)); exact HO_27.out⟩, ⟨by repeat (first | (with_reducible first | exact HB.out | apply below_alloc | apply pw_below_drewN | apply below_drew1) | exact HB.out)⟩⟩
                case round =>
                  clear H'
                  try clear c1
                  try clear p2
                  try clear c3
                  try clear c4
                  try clear c5
                  try clear c6
                  try clear c7
                  try clear c8
                  try clear c8b0
                  try clear c8b1
                  try clear c9
                  try clear c10
                  try clear c11
                  try clear c12
                  try clear c30
                  try clear c30b0
                  try clear c30b1
                  try clear c31
                  try clear c31b0
                  try clear c31b1
                  try clear c33
                  try clear c34
                  try clear c34b0
                  try clear c34b1
                  try clear c35
                  try clear c35b0
                  try clear c35b1
                  try clear c36
                  try clear c36b0
                  try clear c36b1
                  try clear c38
                  try clear c55
                  try clear p2
                  obtain ⟨x25_3, x130_3, rfl, HA, HK3, HO_25, HO_27, HB⟩ := hrel
                  have hl25_3 := (Kd.R_reads' HO_25.out).1
                  rw [hl25_3] at HO_25
                  (try simp only [hl25_3])
                  (try simp only [hl25_3] at HO_27)
                  cases gk with
                  | zero => exact absurd HA.out (by simp [vesperslaw20_ProtocolSteps.l0])
                  | succ k3 =>
                    have H := HA.out
                    clear HA
                    simp only [vesperslaw20_ProtocolSteps.l0] at H
                    by_cases c57 : x130_3 < (t160.length : Int)
                    · rw [if_pos c57] at H
                      have c57b0 : decide (x130_3 < (t160.length : Int)) = true := decide_eq_true c57
                      clear c57
                      by_cases c58 : 0 ≤ x130_3
                      · rw [if_pos c58] at H
                        have c58b0 : decide (0 ≤ x130_3) = true := decide_eq_true c58
                        clear c58
                        by_cases c59 : x130_3 < (x25_3.length : Int)
                        · rw [if_pos c59] at H
                          have c59b0 : decide (x130_3 < (x25_3.length : Int)) = true := decide_eq_true c59
                          clear c59
                          obtain ⟨y170, hy170⟩ : ∃ y_ : List Int, y_ = (x25_3.set (x130_3 : Int).toNat (-1)) := ⟨_, rfl⟩
                          replace H : (vesperslaw20_ProtocolSteps.l0 k3 a0 a2 a3 y170 t164 (t160.length : Int) (wrap64 (x130_3 + 1))) = some r := by first | (rw [hy170]; with_reducible exact H) | (have H2_ := (Option.bind_some _ _).symm.trans H; rw [hy170]; with_reducible exact H2_) | (have H2_ := (Option.bind_some _ _).symm.trans H; with_reducible exact H2_) | with_reducible exact H | (rw [hy170]; exact H) | exact H
                          have Ny170 := Aside0.mk hy170
                          clear hy170
                          have H' := Aside0.mk H
                          clear H
                          have p60 : 0 ≤ (x130_3 : Int) := of_decide_eq_true (by first | (with_reducible assumption) | assumption)
                          have q60 : (x130_3 : Int) < ((x25_3.length : Int) : Int) := of_decide_eq_true (by first | (with_reducible assumption) | assumption)
                          obtain ⟨go60, co60, eo60, gb60, gl60, cl60, HG60⟩ := Kd.R_form HO_25.out (by omega)
                          (first | cases eo60 | (injection eo60 with ea_ en_ ec_; (first | subst ea_ | (injection ea_ with ea_; subst ea_)); subst ec_; clear en_))
                          have GB60 := Aside0.mk gb60
                          have GG60 := Aside0.mk HG60
                          clear gb60 gl60 HG60
                          obtain ⟨hx60_0, hf60_0⟩ := Kd.R_celln 0 HO_25.out (x130_3 : Int) p60 q60
                          replace p60 := eq_true p60
                          replace q60 := eq_true q60
                          have HP61 := Kd.R_putg HO_25.out (x130_3 : Int) (-1)
                          go_wp2_with (first | ((with_reducible refine gate_store (t := 3) (p := 135) rfl ?_); refine store_event (t := 3) (p := 135) (v := ?vo_w62) (w1 := (wr.setCell ⟨go60, (x130_3 : Int).toNat, none⟩ (.int .i64 (-1)))) ?hg ?ho ?hn ?hr ?_; (case ho => rfl); (case hg => rfl); (case hn => rfl); (case hr => first | (go_simp; done) | (go_simp; rfl)); intro w62 hw; have hg : wr.grownBy w62 (some go60) := (by rw [hw]; exact HP61.2); have hp_ : Kd.R (Kd.int .i64) 3 w62 w.heap.size (fun _ => True) (.slice (some ⟨go60, 0, none⟩) x25_3.length co56) y170 := (by rw [hw, Ny170.out]; exact HP61.1); clear HP61; have n0_ := Aside0.mk (hp_); have n1_ := Aside0.mk (Kd.V_afterv (v := (.slice (some ⟨go60, 0, none⟩) x25_3.length co56)) (v1 := (.slice (some ⟨go60, 0, none⟩) x25_3.length co56)) (ok := (fun _ => True)) (by (with_reducible repeat (first | apply Kd.V_alloc | apply Kd.V_drewN | apply Kd.V_drew)); exact Kd.V_mono HO_27.out (fun _ hk => ⟨trivial, hk⟩)) hg (.inl rfl)); have n2_ := Aside0.mk ((by rw [hw]; exact below_set (HB.out) GB60.out : Below w.heap.size w w62)); clear HO_25; clear HO_27; clear HB; have HO_25 := n0_; have HO_27 := n1_; have HB := n2_; clear n0_ n1_ n2_; clear hg hw hp_))
                          (try simp only [← hl25_3])
                          go_roundg k3
                          case measure => have := HJ6.out; have := HJ18.out; have := HK3.out; omega
                          case rel => exact ⟨(y170), (wrap64 (x130_3 + 1)), (by first | rfl | (simp; done) | (simp [*]; done)), H', ⟨by have := HJ6.out; have := HJ18.out; have := HK3.out; omega⟩, ⟨by (try simp only [hl25_3]); (with_reducible repeat (first | apply Kd.R_alloc | apply Kd.R_drewN | apply Kd.R_drew)); exact HO_25.out⟩, ⟨by (try simp only [hl25_3]); (with_reducible repeat (first | apply Kd.V_alloc | apply Kd.V_drewN | apply Kd.V_drew)); exact Kd.V_mono HO_27.out (fun _ hk => hk.2)⟩, ⟨by repeat (first | (with_reducible first | exact HB.out | apply below_alloc | apply pw_below_drewN | apply below_drew1) | exact HB.out)⟩⟩
                        · rw [if_neg c59] at H
                          exact absurd H (by simp)
                      · rw [if_neg c58] at H
                        exact absurd H (by simp)
                    · rw [if_neg c57] at H
                      have c57b0 : decide (x130_3 < (t160.length : Int)) = false := decide_eq_false c57
                      (try rw [hl25_3] at c57b0)
                      clear c57
                      replace H := Option.bind_eq_some_iff.mp H
                      obtain ⟨⟨t171, t172⟩, A630, H⟩ := H
                      replace H : ((vespersref20_Same.f k3 t171 t164).bind fun t175 => (if t175 = true then ((protocol_Events.f a0).bind fun t176 => ((vespersref20_Events.f k3 a0).bind fun t179 => ((vespersref20_Same.f k3 t176 t179).bind fun t182 => (if t182 = true then ((protocol_May.f a0 a2).bind fun t183 => ((vespersref20_May.f a0 a2).bind fun t184 => (if (t183 == t184) = true then ((protocol_Name.f a0).bind fun t185 => ((vespersref20_Name.f a0).bind fun t186 => (some (t185.toList == t186.toList)))) else (none)))) else (none))))) else (none))) = some r := H
                      have A63 := Aside0.mk A630
                      clear A630
                      replace H := Option.bind_eq_some_iff.mp H
                      obtain ⟨t175, A640, H⟩ := H
                      replace H : (if t175 = true then ((protocol_Events.f a0).bind fun t176 => ((vespersref20_Events.f k3 a0).bind fun t179 => ((vespersref20_Same.f k3 t176 t179).bind fun t182 => (if t182 = true then ((protocol_May.f a0 a2).bind fun t183 => ((vespersref20_May.f a0 a2).bind fun t184 => (if (t183 == t184) = true then ((protocol_Name.f a0).bind fun t185 => ((vespersref20_Name.f a0).bind fun t186 => (some (t185.toList == t186.toList)))) else (none)))) else (none))))) else (none)) = some r := H
                      have A64 := Aside0.mk A640
                      clear A640
                      by_cases c65 : t175 = true
                      · subst c65
                        have H1 : ((protocol_Events.f a0).bind fun t176 => ((vespersref20_Events.f k3 a0).bind fun t179 => ((vespersref20_Same.f k3 t176 t179).bind fun t182 => (if t182 = true then ((protocol_May.f a0 a2).bind fun t183 => ((vespersref20_May.f a0 a2).bind fun t184 => (if (t183 == t184) = true then ((protocol_Name.f a0).bind fun t185 => ((vespersref20_Name.f a0).bind fun t186 => (some (t185.toList == t186.toList)))) else (none)))) else (none))))) = some r := by rw [if_pos rfl] at H; exact H
                        clear H
                        have H := H1
                        clear H1
                        replace H := Option.bind_eq_some_iff.mp H
                        obtain ⟨t176, A660, H⟩ := H
                        replace H : ((vespersref20_Events.f k3 a0).bind fun t179 => ((vespersref20_Same.f k3 t176 t179).bind fun t182 => (if t182 = true then ((protocol_May.f a0 a2).bind fun t183 => ((vespersref20_May.f a0 a2).bind fun t184 => (if (t183 == t184) = true then ((protocol_Name.f a0).bind fun t185 => ((vespersref20_Name.f a0).bind fun t186 => (some (t185.toList == t186.toList)))) else (none)))) else (none)))) = some r := H
                        have A66 := Aside0.mk A660
                        clear A660
                        replace H := Option.bind_eq_some_iff.mp H
                        obtain ⟨t179, A670, H⟩ := H
                        replace H : ((vespersref20_Same.f k3 t176 t179).bind fun t182 => (if t182 = true then ((protocol_May.f a0 a2).bind fun t183 => ((vespersref20_May.f a0 a2).bind fun t184 => (if (t183 == t184) = true then ((protocol_Name.f a0).bind fun t185 => ((vespersref20_Name.f a0).bind fun t186 => (some (t185.toList == t186.toList)))) else (none)))) else (none))) = some r := H
                        have A67 := Aside0.mk A670
                        clear A670
                        replace H := Option.bind_eq_some_iff.mp H
                        obtain ⟨t182, A680, H⟩ := H
                        replace H : (if t182 = true then ((protocol_May.f a0 a2).bind fun t183 => ((vespersref20_May.f a0 a2).bind fun t184 => (if (t183 == t184) = true then ((protocol_Name.f a0).bind fun t185 => ((vespersref20_Name.f a0).bind fun t186 => (some (t185.toList == t186.toList)))) else (none)))) else (none)) = some r := H
                        have A68 := Aside0.mk A680
                        clear A680
                        by_cases c69 : t182 = true
                        · subst c69
                          have H1 : ((protocol_May.f a0 a2).bind fun t183 => ((vespersref20_May.f a0 a2).bind fun t184 => (if (t183 == t184) = true then ((protocol_Name.f a0).bind fun t185 => ((vespersref20_Name.f a0).bind fun t186 => (some (t185.toList == t186.toList)))) else (none)))) = some r := by rw [if_pos rfl] at H; exact H
                          clear H
                          have H := H1
                          clear H1
                          replace H := Option.bind_eq_some_iff.mp H
                          obtain ⟨t183, A700, H⟩ := H
                          replace H : ((vespersref20_May.f a0 a2).bind fun t184 => (if (t183 == t184) = true then ((protocol_Name.f a0).bind fun t185 => ((vespersref20_Name.f a0).bind fun t186 => (some (t185.toList == t186.toList)))) else (none))) = some r := H
                          have A70 := Aside0.mk A700
                          clear A700
                          replace H := Option.bind_eq_some_iff.mp H
                          obtain ⟨t184, A710, H⟩ := H
                          replace H : (if (t183 == t184) = true then ((protocol_Name.f a0).bind fun t185 => ((vespersref20_Name.f a0).bind fun t186 => (some (t185.toList == t186.toList)))) else (none)) = some r := H
                          have A71 := Aside0.mk A710
                          clear A710
                          by_cases c72 : (t183 == t184) = true
                          · rw [if_pos c72] at H
                            have c72b0 : (t183 == t184) = true := c72
                            (try (have c72b1 : decide (t183 = t184) = true := by simpa using c72))
                            (try (have c72b2 : (t183 == t184) = true := by simpa using c72))
                            clear c72
                            replace H := Option.bind_eq_some_iff.mp H
                            obtain ⟨t185, A730, H⟩ := H
                            replace H : ((vespersref20_Name.f a0).bind fun t186 => (some (t185.toList == t186.toList))) = some r := H
                            have A73 := Aside0.mk A730
                            clear A730
                            replace H := Option.bind_eq_some_iff.mp H
                            obtain ⟨t186, A740, H⟩ := H
                            replace H : (some (t185.toList == t186.toList)) = some r := H
                            have A74 := Aside0.mk A740
                            clear A740
                            obtain rfl := Option.some.inj H
                            go_wp2_with (first | ((with_reducible refine gate_callee (f := 11) rfl ?_); refine goesL_ (some 140) rfl rfl Tryd.func11 (by kernel_rfl) rfl #[.int .i64 a0, .int .i64 a3] rfl (by (try simp only [List.map_toArray, List.map_cons, List.map_nil]); first | done | rfl | (simp only [List.length_drop, List.length_take]; rfl)) ?_; (with_reducible refine (protocol_Way.calls a0 a3 t171 t172 _ A63.out).mono ?_); rintro e w75 ⟨v173, rfl, ho0, hb⟩; refine ⟨_, rfl, ?_⟩; have n0_ := Aside0.mk (Kd.R_elder' (by (with_reducible repeat (first | apply Kd.R_alloc | apply Kd.R_drewN | apply Kd.R_drew)); exact HO_25.out) (Kd.R_base ho0) hb); have n1_ := Aside0.mk (Kd.V_elder' (by (with_reducible repeat (first | apply Kd.V_alloc | apply Kd.V_drewN | apply Kd.V_drew)); exact HO_27.out) (Kd.R_base ho0) hb); have n2_ := Aside0.mk (Kd.R_lower (Kd.R_new' ho0 (Kd.R_lt (by (with_reducible repeat (first | apply Kd.R_alloc | apply Kd.R_drewN | apply Kd.R_drew)); exact HO_25.out))) (below_size (by repeat (first | (with_reducible first | exact HB.out | apply below_alloc | apply pw_below_drewN | apply below_drew1) | exact HB.out)))); have n3_ := Aside0.mk (below_step (by repeat (first | (with_reducible first | exact HB.out | apply below_alloc | apply pw_below_drewN | apply below_drew1) | exact HB.out)) hb); clear HO_25; clear HO_27; clear HB; have HO_25 := n0_; have HO_27 := n1_; have HO174 := n2_; have HB := n3_; clear n0_ n1_ n2_ n3_; (try clear hb); (try clear hb2); (try clear hk); (try clear hi); (try clear ho0); obtain ⟨Ao76, co76, eo76⟩ := Kd.R_slice HO174.out; subst eo76; obtain ⟨Ao77, co77, eo77⟩ := Kd.V_slice HO_27.out; subst eo77) | ((with_reducible refine gate_callee (f := 13) rfl ?_); refine goesL_ (some 145) rfl rfl Tryd.func13 (by kernel_rfl) rfl #[.slice Ao76 t171.length co76, .slice Ao77 t164.length co77] rfl (by (try simp only [List.map_toArray, List.map_cons, List.map_nil]); first | done | rfl | (simp only [List.length_drop, List.length_take]; rfl)) ?_; (with_reducible refine (vespersref20_Same.calls k3 _ _ t171 _ _ t164 true _ ?side1 ?side2 ?side3 ?side4 A64.out).mono ?_); (case side1 => repeat (first | exact (Kd.R_reads' HO174.out).2.2 | (with_reducible refine Kd.C_alloc ?_ _) | (with_reducible refine Kd.C_drewN ?_ _) | (with_reducible refine Kd.C_drew ?_))); (case side2 => exact (Kd.R_reads' HO174.out).2.1); (case side3 => repeat (first | exact (Kd.V_reads' HO_27.out).2.2 | (with_reducible refine Kd.C_alloc ?_ _) | (with_reducible refine Kd.C_drewN ?_ _) | (with_reducible refine Kd.C_drew ?_))); (case side4 => exact (Kd.V_reads' HO_27.out).2.1); rintro e w' ⟨rfl, ⟨nd, rfl⟩⟩; refine ⟨_, rfl, ?_⟩) | (go_at_call 14; (with_reducible refine (protocol_Events.calls a0 t176 _ A66.out).mono ?_); rintro e w78 ⟨v177, rfl, ho0, hb⟩; have n0_ := Aside0.mk (Kd.R_elder' (by (with_reducible repeat (first | apply Kd.R_alloc | apply Kd.R_drewN | apply Kd.R_drew)); exact HO_25.out) (Kd.R_base ho0) hb); have n1_ := Aside0.mk (Kd.V_elder' (by (with_reducible repeat (first | apply Kd.V_alloc | apply Kd.V_drewN | apply Kd.V_drew)); exact HO_27.out) (Kd.R_base ho0) hb); have n2_ := Aside0.mk (Kd.R_elder' (by (with_reducible repeat (first | apply Kd.R_alloc | apply Kd.R_drewN | apply Kd.R_drew)); exact HO174.out) (Kd.R_base ho0) hb); have n3_ := Aside0.mk (Kd.R_lower (Kd.R_new' (Kd.R_new' ho0 (Kd.R_lt (by (with_reducible repeat (first | apply Kd.R_alloc | apply Kd.R_drewN | apply Kd.R_drew)); exact HO_25.out))) (Kd.R_lt (by (with_reducible repeat (first | apply Kd.R_alloc | apply Kd.R_drewN | apply Kd.R_drew)); exact HO174.out))) (below_size (by repeat (first | (with_reducible first | exact HB.out | apply below_alloc | apply pw_below_drewN | apply below_drew1) | exact HB.out)))); have n4_ := Aside0.mk (below_step (by repeat (first | (with_reducible first | exact HB.out | apply below_alloc | apply pw_below_drewN | apply below_drew1) | exact HB.out)) hb); clear HO_25; clear HO_27; clear HO174; clear HB; have HO_25 := n0_; have HO_27 := n1_; have HO174 := n2_; have HO178 := n3_; have HB := n4_; clear n0_ n1_ n2_ n3_ n4_; (try clear hb); (try clear hb2); (try clear hk); (try clear hi); (try clear ho0)) | (go_at_call 15; (with_reducible refine (vespersref20_Events.calls k3 a0 t179 _ A67.out).mono ?_); rintro e w79 ⟨v180, rfl, ho0, hb⟩; have n0_ := Aside0.mk (Kd.R_elder' (by (with_reducible repeat (first | apply Kd.R_alloc | apply Kd.R_drewN | apply Kd.R_drew)); exact HO_25.out) (Kd.R_base ho0) hb); have n1_ := Aside0.mk (Kd.V_elder' (by (with_reducible repeat (first | apply Kd.V_alloc | apply Kd.V_drewN | apply Kd.V_drew)); exact HO_27.out) (Kd.R_base ho0) hb); have n2_ := Aside0.mk (Kd.R_elder' (by (with_reducible repeat (first | apply Kd.R_alloc | apply Kd.R_drewN | apply Kd.R_drew)); exact HO174.out) (Kd.R_base ho0) hb); have n3_ := Aside0.mk (Kd.R_elder' (by (with_reducible repeat (first | apply Kd.R_alloc | apply Kd.R_drewN | apply Kd.R_drew)); exact HO178.out) (Kd.R_base ho0) hb); have n4_ := Aside0.mk (Kd.R_lower (Kd.R_new' (Kd.R_new' (Kd.R_new' ho0 (Kd.R_lt (by (with_reducible repeat (first | apply Kd.R_alloc | apply Kd.R_drewN | apply Kd.R_drew)); exact HO_25.out))) (Kd.R_lt (by (with_reducible repeat (first | apply Kd.R_alloc | apply Kd.R_drewN | apply Kd.R_drew)); exact HO174.out))) (Kd.R_lt (by (with_reducible repeat (first | apply Kd.R_alloc | apply Kd.R_drewN | apply Kd.R_drew)); exact HO178.out))) (below_size (by repeat (first | (with_reducible first | exact HB.out | apply below_alloc | apply pw_below_drewN | apply below_drew1) | exact HB.out)))); have n5_ := Aside0.mk (below_step (by repeat (first | (with_reducible first | exact HB.out | apply below_alloc | apply pw_below_drewN | apply below_drew1) | exact HB.out)) hb); clear HO_25; clear HO_27; clear HO174; clear HO178; clear HB; have HO_25 := n0_; have HO_27 := n1_; have HO174 := n2_; have HO178 := n3_; have HO181 := n4_; have HB := n5_; clear n0_ n1_ n2_ n3_ n4_ n5_; (try clear hb); (try clear hb2); (try clear hk); (try clear hi); (try clear ho0); obtain ⟨Ao80, co80, eo80⟩ := Kd.R_slice HO178.out; subst eo80; obtain ⟨Ao81, co81, eo81⟩ := Kd.R_slice HO181.out; subst eo81) | (go_at_call 13; (with_reducible refine (vespersref20_Same.calls k3 _ _ t176 _ _ t179 true _ ?side1 ?side2 ?side3 ?side4 A68.out).mono ?_); (case side1 => repeat (first | exact (Kd.R_reads' HO178.out).2.2 | (with_reducible refine Kd.C_alloc ?_ _) | (with_reducible refine Kd.C_drewN ?_ _) | (with_reducible refine Kd.C_drew ?_))); (case side2 => exact (Kd.R_reads' HO178.out).2.1); (case side3 => repeat (first | exact (Kd.R_reads' HO181.out).2.2 | (with_reducible refine Kd.C_alloc ?_ _) | (with_reducible refine Kd.C_drewN ?_ _) | (with_reducible refine Kd.C_drew ?_))); (case side4 => exact (Kd.R_reads' HO181.out).2.1); rintro e w' ⟨rfl, ⟨nd, rfl⟩⟩) | (go_at_call 16; (with_reducible refine (protocol_May.calls a0 a2 t183 _ A70.out).mono ?_); rintro e w82 ⟨rfl, hb⟩; have n0_ := Aside0.mk (Kd.R_below (by (with_reducible repeat (first | apply Kd.R_alloc | apply Kd.R_drewN | apply Kd.R_drew)); exact HO_25.out) hb); have n1_ := Aside0.mk (Kd.V_below (by (with_reducible repeat (first | apply Kd.V_alloc | apply Kd.V_drewN | apply Kd.V_drew)); exact HO_27.out) hb); have n2_ := Aside0.mk (Kd.R_below (by (with_reducible repeat (first | apply Kd.R_alloc | apply Kd.R_drewN | apply Kd.R_drew)); exact HO174.out) hb); have n3_ := Aside0.mk (Kd.R_below (by (with_reducible repeat (first | apply Kd.R_alloc | apply Kd.R_drewN | apply Kd.R_drew)); exact HO178.out) hb); have n4_ := Aside0.mk (Kd.R_below (by (with_reducible repeat (first | apply Kd.R_alloc | apply Kd.R_drewN | apply Kd.R_drew)); exact HO181.out) hb); have n5_ := Aside0.mk (below_step (by repeat (first | (with_reducible first | exact HB.out | apply below_alloc | apply pw_below_drewN | apply below_drew1) | exact HB.out)) hb); clear HO_25; clear HO_27; clear HO174; clear HO178; clear HO181; clear HB; have HO_25 := n0_; have HO_27 := n1_; have HO174 := n2_; have HO178 := n3_; have HO181 := n4_; have HB := n5_; clear n0_ n1_ n2_ n3_ n4_ n5_; (try clear hb); (try clear hb2); (try clear hk); (try clear hi)) | (go_at_call 17; (with_reducible refine (vespersref20_May.calls a0 a2 t184 _ A71.out).mono ?_); rintro e w' ⟨rfl, ⟨nd, rfl⟩⟩) | (go_at_call 18; (with_reducible refine (protocol_Name.callsAt a0 t185 _ (hm.below (by repeat (first | (with_reducible first | exact HB.out | apply below_alloc | apply pw_below_drewN | apply below_drew1) | exact HB.out)) (Nat.le_refl _)) A73.out).mono ?_); rintro e w83 ⟨rfl, hb⟩; have n0_ := Aside0.mk (Kd.R_below (by (with_reducible repeat (first | apply Kd.R_alloc | apply Kd.R_drewN | apply Kd.R_drew)); exact HO_25.out) hb); have n1_ := Aside0.mk (Kd.V_below (by (with_reducible repeat (first | apply Kd.V_alloc | apply Kd.V_drewN | apply Kd.V_drew)); exact HO_27.out) hb); have n2_ := Aside0.mk (Kd.R_below (by (with_reducible repeat (first | apply Kd.R_alloc | apply Kd.R_drewN | apply Kd.R_drew)); exact HO174.out) hb); have n3_ := Aside0.mk (Kd.R_below (by (with_reducible repeat (first | apply Kd.R_alloc | apply Kd.R_drewN | apply Kd.R_drew)); exact HO178.out) hb); have n4_ := Aside0.mk (Kd.R_below (by (with_reducible repeat (first | apply Kd.R_alloc | apply Kd.R_drewN | apply Kd.R_drew)); exact HO181.out) hb); have n5_ := Aside0.mk (below_step (by repeat (first | (with_reducible first | exact HB.out | apply below_alloc | apply pw_below_drewN | apply below_drew1) | exact HB.out)) hb); clear HO_25; clear HO_27; clear HO174; clear HO178; clear HO181; clear HB; have HO_25 := n0_; have HO_27 := n1_; have HO174 := n2_; have HO178 := n3_; have HO181 := n4_; have HB := n5_; clear n0_ n1_ n2_ n3_ n4_ n5_; (try clear hb); (try clear hb2); (try clear hk); (try clear hi)) | (go_at_call 19; (with_reducible refine (vespersref20_Name.calls a0 t186 _ A74.out).mono ?_); rintro e w' ⟨rfl, ⟨nd, rfl⟩⟩))
                            go_ret
                            exact ⟨by first | rfl | (simp [errW_none, errW_some] <;> rfl) | (simp [*, errW_none, errW_some] <;> rfl), by repeat (first | (with_reducible first | exact HB.out | apply below_alloc | apply pw_below_drewN | apply below_drew1) | exact HB.out)⟩
                          · rw [if_neg c72] at H
                            exact absurd H (by simp)
                        · replace c69 := Bool.eq_false_iff.mpr c69
                          subst c69
                          have H1 : (none) = some r := by rw [if_neg (show ¬ (false = true) by decide)] at H; exact H
                          clear H
                          have H := H1
                          clear H1
                          exact absurd H (by simp)
                      · replace c65 := Bool.eq_false_iff.mpr c65
                        subst c65
                        have H1 : (none) = some r := by rw [if_neg (show ¬ (false = true) by decide)] at H; exact H
                        clear H
                        have H := H1
                        clear H1
                        exact absurd H (by simp)
        · rw [if_neg c12] at H
          exact absurd H (by simp)

/-- THE ONE PURE STATEMENT of vesperslaw20_ProtocolSteps: yours. -/
def vesperslaw20_ProtocolSteps.Pure : Prop := ∀ (a0 : Int) (a1 : Int) (a2 : Int) (a3 : Int) (l4 : List Int) (a5 : ByteArray), (Lit.int .i64 a0).wf = true → (Lit.int .i64 a1).wf = true → (Lit.int .i64 a2).wf = true → (Lit.int .i64 a3).wf = true → l4.length ≤ maxLen → l4.length * 8 ≤ 140737488351232 → (∀ x ∈ l4, (Lit.int .i64 x).wf = true) → a5.size ≤ 140737488351232 → ∃ k, vesperslaw20_ProtocolSteps.f k a0 a1 a2 a3 l4 a5 = some true
theorem vesperslaw20_ProtocolSteps.walk (P : vesperslaw20_ProtocolSteps.Pure) (a0 : Int) (a1 : Int) (a2 : Int) (a3 : Int) (a4 : Option Addr) (len4 cap4 : Nat) (z4 : List Int) (a5 : ByteArray) (w : World) (hm : FieldsAt w) (w0 : (Lit.int .i64 a0).wf = true) (w1 : (Lit.int .i64 a1).wf = true) (w2 : (Lit.int .i64 a2).wf = true) (w3 : (Lit.int .i64 a3).wf = true) (w4 : (a4 = none ∧ len4 = 0 ∧ cap4 = 0 ∧ z4 = []) ∨ ∃ x, a4 = some x ∧ len4 ≤ cap4 ∧ cap4 ≤ maxLen ∧ z4.length = cap4 ∧ (∀ i, i < z4.length → w.cell? (x.add i) = some (.int .i64 (z4.getD i 0))) ∧ ∀ n ∈ z4, (Lit.int .i64 n).wf = true) (y4 : len4 * 8 ≤ 140737488351232) (w5 : a5.size ≤ 140737488351232) :
    Calls Tryd.prog 3 #[.int .i64 a0, .int .i64 a1, .int .i64 a2, .int .i64 a3, .slice a4 len4 cap4, .string a5] w fun e w' => e = .returned (.bool true) ∧ Below w.heap.size w w' := by
  obtain ⟨l4, rfl, hr4, hm4, hw4, hc4⟩ := ReadsInt.ofRowC w4
  obtain ⟨k, h⟩ := P a0 a1 a2 a3 l4 a5 w0 w1 w2 w3 hm4 y4 hw4 w5
  refine (vesperslaw20_ProtocolSteps.calls k a0 a1 a2 a3 _ _ l4 a5 true w hm (Kd.C_of_reads (d := (0 : Int)) (h1 := fun _ => rfl) hr4) hc4 h).mono ?_
  rintro e w' ⟨rfl, hd⟩
  exact ⟨rfl, hd⟩

end Go.Proofs.YtbbiihifhdcniaaDoor.PC
