/- Written by a program of this session (wip/jprint.py, over the printer of the kit): functions that a law comes to, as plain Lean functions, and walks; Lean checks it. -/
import Derived.Test.YtbbiihifhdcniaaDoorPCx0
namespace Go.Proofs.YtbbiihifhdcniaaDoor.PC
open Go.RowKit Go.Proofs.YtbbiihifhdcniaaDoor.Hand Go.Proofs.YtbbiihifhdcniaaDoor.PA Go.Proofs.YtbbiihifhdcniaaDoorW.PrintWords Go.Proofs.YtbbiihifhdcniaaDoorW.PrintLast Go.Proofs.YtbbiihifhdcniaaDoorW.PrintMore
attribute [local go_sem] max2_int min2_int max_two min_two max_three min_three max_four min_four   -- for this text's walks alone
set_option linter.unusedVariables false
set_option linter.unusedSimpArgs false

/-! ### vespersref20_Way: function 12 -/
mutual
def vespersref20_Way.j0 : Nat → Int → Int → Bool → Option (List Int × Int)
  | 0, _, _, _ => none
  | k + 1, x0, x1, x31 => if x31 = true then (some (([] : List Int), 200)) else (if 7 ≤ 11728124029610 then (if 7 ≤ 281474976710656 then ((some (List.replicate 7 false : List Bool)).bind fun y104 => (if 0 ≤ x0 then (if x0 < (y104.length : Int) then (vespersref20_Way.l0 k x1 (List.replicate 7 []) (y104.set (x0 : Int).toNat true) 0) else (none)) else (none))) else (none)) else (none))
def vespersref20_Way.l0 : Nat → Int → List (List Int) → List Bool → Int → Option (List Int × Int)
  | 0, _, _, _, _ => none
  | k + 1, x1, x6, x7, x8 => if x8 < 7 then (if 7 ≤ 11728124029610 then (if 7 ≤ 281474976710656 then (vespersref20_Way.l1 k x1 x6 x7 x8 (List.replicate 7 []) (List.replicate 7 false) 0) else (none)) else (none)) else (if 0 ≤ x1 then (if x1 < (x6.length : Int) then (some (rd_L1 x6 x1, 0)) else (none)) else (none))
def vespersref20_Way.l1 : Nat → Int → List (List Int) → List Bool → Int → List (List Int) → List Bool → Int → Option (List Int × Int)
  | 0, _, _, _, _, _, _, _ => none
  | k + 1, x1, x6, x7, x8, x9, x10, x11 => if x11 < 7 then (vespersref20_Way.l2 k x1 x6 x7 x8 x9 x10 x11 0) else (vespersref20_Way.l3 k x1 x6 x7 x8 x9 x10 0)
def vespersref20_Way.l2 : Nat → Int → List (List Int) → List Bool → Int → List (List Int) → List Bool → Int → Int → Option (List Int × Int)
  | 0, _, _, _, _, _, _, _, _ => none
  | k + 1, x1, x6, x7, x8, x9, x10, x11, x12 => if x12 < 10 then (if 0 ≤ x11 then (if x11 < (x7.length : Int) then (if rdOf false x7 x11 = true then (if x11 < (x6.length : Int) then (vespersref20_Way.j4 k x1 x6 x7 x8 x9 x10 x11 x12 (((rd_L1 x6 x11).length : Int) == x8)) else (none)) else (vespersref20_Way.j4 k x1 x6 x7 x8 x9 x10 x11 x12 false)) else (none)) else (none)) else (vespersref20_Way.j4 k x1 x6 x7 x8 x9 x10 x11 x12 false)
def vespersref20_Way.j4 : Nat → Int → List (List Int) → List Bool → Int → List (List Int) → List Bool → Int → Int → Bool → Option (List Int × Int)
  | 0, _, _, _, _, _, _, _, _, _ => none
  | k + 1, x1, x6, x7, x8, x9, x10, x11, x12, x63 => if x63 = true then ((vespersref20_Next.f k x11 x12).bind fun bt117 => (if bt117.2 = 0 then (if 0 ≤ bt117.1 then (if bt117.1 < (x7.length : Int) then (vespersref20_Way.j5 k x1 x6 x7 x8 x9 x10 x11 x12 bt117.1 (rdOf false x7 bt117.1)) else (none)) else (none)) else (vespersref20_Way.j5 k x1 x6 x7 x8 x9 x10 x11 x12 bt117.1 true))) else (vespersref20_Way.l1 k x1 x6 x7 x8 x9 x10 (wrap64 (x11 + 1)))
def vespersref20_Way.j5 : Nat → Int → List (List Int) → List Bool → Int → List (List Int) → List Bool → Int → Int → Int → Bool → Option (List Int × Int)
  | 0, _, _, _, _, _, _, _, _, _, _ => none
  | k + 1, x1, x6, x7, x8, x9, x10, x11, x12, x13, x79 => if x79 = true then (vespersref20_Way.l2 k x1 x6 x7 x8 x9 x10 x11 (wrap64 (x12 + 1))) else (if 0 ≤ x11 then (if x11 < (x6.length : Int) then (if ([] : List Int).length + (rd_L1 x6 x11).length < 17592186044416 then ((some (([] : List Int) ++ (rd_L1 x6 x11) : List Int)).bind fun y121 => (if y121.length < 17592186044416 then ((some (y121 ++ [x12] : List Int)).bind fun y124 => (if 0 ≤ x13 then (if x13 < (x10.length : Int) then (if rdOf false x10 x13 = true then (if x13 < (x9.length : Int) then ((vespersref20_less.f k y124 (rd_L1 x9 x13)).bind fun t129 => (if t129 = true then (vespersref20_Way.l2 k x1 x6 x7 x8 (x9.set (x13 : Int).toNat y124) (x10.set (x13 : Int).toNat true) x11 (wrap64 (x12 + 1))) else (vespersref20_Way.l2 k x1 x6 x7 x8 x9 x10 x11 (wrap64 (x12 + 1))))) else (none)) else (if x13 < (x9.length : Int) then (vespersref20_Way.l2 k x1 x6 x7 x8 (x9.set (x13 : Int).toNat y124) (x10.set (x13 : Int).toNat true) x11 (wrap64 (x12 + 1))) else (none))) else (none)) else (none))) else (none))) else (none)) else (none)) else (none))
def vespersref20_Way.l3 : Nat → Int → List (List Int) → List Bool → Int → List (List Int) → List Bool → Int → Option (List Int × Int)
  | 0, _, _, _, _, _, _, _ => none
  | k + 1, x1, x6, x7, x8, x9, x10, x17 => if x17 < 7 then (if 0 ≤ x17 then (if x17 < (x10.length : Int) then (if rdOf false x10 x17 = true then (if x17 < (x9.length : Int) then (if x17 < (x6.length : Int) then (if x17 < (x7.length : Int) then (vespersref20_Way.l3 k x1 (x6.set (x17 : Int).toNat (rd_L1 x9 x17)) (x7.set (x17 : Int).toNat true) x8 x9 x10 (wrap64 (x17 + 1))) else (none)) else (none)) else (none)) else (vespersref20_Way.l3 k x1 x6 x7 x8 x9 x10 (wrap64 (x17 + 1)))) else (none)) else (none)) else (vespersref20_Way.l0 k x1 x6 x7 (wrap64 (x8 + 1)))
end
def vespersref20_Way.f (k : Nat) (a0 : Int) (a1 : Int) : Option (List Int × Int) := if a0 < 0 then (vespersref20_Way.j0 k a0 a1 true) else (if a0 > 6 then (vespersref20_Way.j0 k a0 a1 true) else (if a1 < 0 then (vespersref20_Way.j0 k a0 a1 true) else (vespersref20_Way.j0 k a0 a1 (decide (a1 > 6)))))
theorem vespersref20_Way.mono_l : ∀ k, (∀ y0 y1 y2, LeO (vespersref20_Way.j0 k y0 y1 y2) (vespersref20_Way.j0 (k + 1) y0 y1 y2)) ∧ (∀ y0 y1 y2 y3, LeO (vespersref20_Way.l0 k y0 y1 y2 y3) (vespersref20_Way.l0 (k + 1) y0 y1 y2 y3)) ∧ (∀ y0 y1 y2 y3 y4 y5 y6, LeO (vespersref20_Way.l1 k y0 y1 y2 y3 y4 y5 y6) (vespersref20_Way.l1 (k + 1) y0 y1 y2 y3 y4 y5 y6)) ∧ (∀ y0 y1 y2 y3 y4 y5 y6 y7, LeO (vespersref20_Way.l2 k y0 y1 y2 y3 y4 y5 y6 y7) (vespersref20_Way.l2 (k + 1) y0 y1 y2 y3 y4 y5 y6 y7)) ∧ (∀ y0 y1 y2 y3 y4 y5 y6 y7 y8, LeO (vespersref20_Way.j4 k y0 y1 y2 y3 y4 y5 y6 y7 y8) (vespersref20_Way.j4 (k + 1) y0 y1 y2 y3 y4 y5 y6 y7 y8)) ∧ (∀ y0 y1 y2 y3 y4 y5 y6 y7 y8 y9, LeO (vespersref20_Way.j5 k y0 y1 y2 y3 y4 y5 y6 y7 y8 y9) (vespersref20_Way.j5 (k + 1) y0 y1 y2 y3 y4 y5 y6 y7 y8 y9)) ∧ (∀ y0 y1 y2 y3 y4 y5 y6, LeO (vespersref20_Way.l3 k y0 y1 y2 y3 y4 y5 y6) (vespersref20_Way.l3 (k + 1) y0 y1 y2 y3 y4 y5 y6))
  | 0 => ⟨fun _ _ _ r h => by simp [vespersref20_Way.j0] at h, fun _ _ _ _ r h => by simp [vespersref20_Way.l0] at h, fun _ _ _ _ _ _ _ r h => by simp [vespersref20_Way.l1] at h, fun _ _ _ _ _ _ _ _ r h => by simp [vespersref20_Way.l2] at h, fun _ _ _ _ _ _ _ _ _ r h => by simp [vespersref20_Way.j4] at h, fun _ _ _ _ _ _ _ _ _ _ r h => by simp [vespersref20_Way.j5] at h, fun _ _ _ _ _ _ _ r h => by simp [vespersref20_Way.l3] at h⟩
  | k + 1 => by
    obtain ⟨ih0, ih1, ih2, ih3, ih4, ih5, ih6⟩ := vespersref20_Way.mono_l k
    refine ⟨?_, ?_, ?_, ?_, ?_, ?_, ?_⟩
    · intro y0 y1 y2
      unfold vespersref20_Way.j0
      repeat' first
      | (with_reducible exact ih0 _ _ _)
      | (with_reducible exact ih1 _ _ _ _)
      | (with_reducible exact ih2 _ _ _ _ _ _ _)
      | (with_reducible exact ih3 _ _ _ _ _ _ _ _)
      | (with_reducible exact ih4 _ _ _ _ _ _ _ _ _)
      | (with_reducible exact ih5 _ _ _ _ _ _ _ _ _ _)
      | (with_reducible exact ih6 _ _ _ _ _ _ _)
      | (with_reducible exact vespersref20_Next.mono _ _ _)
      | (with_reducible exact vespersref20_less.mono _ _ _)
      | (with_reducible exact LeO.refl _)
      | (with_reducible exact LeO.none _)
      | (with_reducible refine LeO.ite ?_ ?_)
      | (with_reducible refine LeO.bind ?_ (fun _ => ?_))
      | exact ih0 _ _ _
      | exact ih1 _ _ _ _
      | exact ih2 _ _ _ _ _ _ _
      | exact ih3 _ _ _ _ _ _ _ _
      | exact ih4 _ _ _ _ _ _ _ _ _
      | exact ih5 _ _ _ _ _ _ _ _ _ _
      | exact ih6 _ _ _ _ _ _ _
      | exact vespersref20_Next.mono _ _ _
      | exact vespersref20_less.mono _ _ _
      | exact LeO.none _
      | refine LeO.ite ?_ ?_
      | refine LeO.bind ?_ (fun _ => ?_)
    · intro y0 y1 y2 y3
      unfold vespersref20_Way.l0
      repeat' first
      | (with_reducible exact ih0 _ _ _)
      | (with_reducible exact ih1 _ _ _ _)
      | (with_reducible exact ih2 _ _ _ _ _ _ _)
      | (with_reducible exact ih3 _ _ _ _ _ _ _ _)
      | (with_reducible exact ih4 _ _ _ _ _ _ _ _ _)
      | (with_reducible exact ih5 _ _ _ _ _ _ _ _ _ _)
      | (with_reducible exact ih6 _ _ _ _ _ _ _)
      | (with_reducible exact vespersref20_Next.mono _ _ _)
      | (with_reducible exact vespersref20_less.mono _ _ _)
      | (with_reducible exact LeO.refl _)
      | (with_reducible exact LeO.none _)
      | (with_reducible refine LeO.ite ?_ ?_)
      | (with_reducible refine LeO.bind ?_ (fun _ => ?_))
      | exact ih0 _ _ _
      | exact ih1 _ _ _ _
      | exact ih2 _ _ _ _ _ _ _
      | exact ih3 _ _ _ _ _ _ _ _
      | exact ih4 _ _ _ _ _ _ _ _ _
      | exact ih5 _ _ _ _ _ _ _ _ _ _
      | exact ih6 _ _ _ _ _ _ _
      | exact vespersref20_Next.mono _ _ _
      | exact vespersref20_less.mono _ _ _
      | exact LeO.none _
      | refine LeO.ite ?_ ?_
      | refine LeO.bind ?_ (fun _ => ?_)
    · intro y0 y1 y2 y3 y4 y5 y6
      unfold vespersref20_Way.l1
      repeat' first
      | (with_reducible exact ih0 _ _ _)
      | (with_reducible exact ih1 _ _ _ _)
      | (with_reducible exact ih2 _ _ _ _ _ _ _)
      | (with_reducible exact ih3 _ _ _ _ _ _ _ _)
      | (with_reducible exact ih4 _ _ _ _ _ _ _ _ _)
      | (with_reducible exact ih5 _ _ _ _ _ _ _ _ _ _)
      | (with_reducible exact ih6 _ _ _ _ _ _ _)
      | (with_reducible exact vespersref20_Next.mono _ _ _)
      | (with_reducible exact vespersref20_less.mono _ _ _)
      | (with_reducible exact LeO.refl _)
      | (with_reducible exact LeO.none _)
      | (with_reducible refine LeO.ite ?_ ?_)
      | (with_reducible refine LeO.bind ?_ (fun _ => ?_))
      | exact ih0 _ _ _
      | exact ih1 _ _ _ _
      | exact ih2 _ _ _ _ _ _ _
      | exact ih3 _ _ _ _ _ _ _ _
      | exact ih4 _ _ _ _ _ _ _ _ _
      | exact ih5 _ _ _ _ _ _ _ _ _ _
      | exact ih6 _ _ _ _ _ _ _
      | exact vespersref20_Next.mono _ _ _
      | exact vespersref20_less.mono _ _ _
      | exact LeO.none _
      | refine LeO.ite ?_ ?_
      | refine LeO.bind ?_ (fun _ => ?_)
    · intro y0 y1 y2 y3 y4 y5 y6 y7
      unfold vespersref20_Way.l2
      repeat' first
      | (with_reducible exact ih0 _ _ _)
      | (with_reducible exact ih1 _ _ _ _)
      | (with_reducible exact ih2 _ _ _ _ _ _ _)
      | (with_reducible exact ih3 _ _ _ _ _ _ _ _)
      | (with_reducible exact ih4 _ _ _ _ _ _ _ _ _)
      | (with_reducible exact ih5 _ _ _ _ _ _ _ _ _ _)
      | (with_reducible exact ih6 _ _ _ _ _ _ _)
      | (with_reducible exact vespersref20_Next.mono _ _ _)
      | (with_reducible exact vespersref20_less.mono _ _ _)
      | (with_reducible exact LeO.refl _)
      | (with_reducible exact LeO.none _)
      | (with_reducible refine LeO.ite ?_ ?_)
      | (with_reducible refine LeO.bind ?_ (fun _ => ?_))
      | exact ih0 _ _ _
      | exact ih1 _ _ _ _
      | exact ih2 _ _ _ _ _ _ _
      | exact ih3 _ _ _ _ _ _ _ _
      | exact ih4 _ _ _ _ _ _ _ _ _
      | exact ih5 _ _ _ _ _ _ _ _ _ _
      | exact ih6 _ _ _ _ _ _ _
      | exact vespersref20_Next.mono _ _ _
      | exact vespersref20_less.mono _ _ _
      | exact LeO.none _
      | refine LeO.ite ?_ ?_
      | refine LeO.bind ?_ (fun _ => ?_)
    · intro y0 y1 y2 y3 y4 y5 y6 y7 y8
      unfold vespersref20_Way.j4
      repeat' first
      | (with_reducible exact ih0 _ _ _)
      | (with_reducible exact ih1 _ _ _ _)
      | (with_reducible exact ih2 _ _ _ _ _ _ _)
      | (with_reducible exact ih3 _ _ _ _ _ _ _ _)
      | (with_reducible exact ih4 _ _ _ _ _ _ _ _ _)
      | (with_reducible exact ih5 _ _ _ _ _ _ _ _ _ _)
      | (with_reducible exact ih6 _ _ _ _ _ _ _)
      | (with_reducible exact vespersref20_Next.mono _ _ _)
      | (with_reducible exact vespersref20_less.mono _ _ _)
      | (with_reducible exact LeO.refl _)
      | (with_reducible exact LeO.none _)
      | (with_reducible refine LeO.ite ?_ ?_)
      | (with_reducible refine LeO.bind ?_ (fun _ => ?_))
      | exact ih0 _ _ _
      | exact ih1 _ _ _ _
      | exact ih2 _ _ _ _ _ _ _
      | exact ih3 _ _ _ _ _ _ _ _
      | exact ih4 _ _ _ _ _ _ _ _ _
      | exact ih5 _ _ _ _ _ _ _ _ _ _
      | exact ih6 _ _ _ _ _ _ _
      | exact vespersref20_Next.mono _ _ _
      | exact vespersref20_less.mono _ _ _
      | exact LeO.none _
      | refine LeO.ite ?_ ?_
      | refine LeO.bind ?_ (fun _ => ?_)
    · intro y0 y1 y2 y3 y4 y5 y6 y7 y8 y9
      unfold vespersref20_Way.j5
      repeat' first
      | (with_reducible exact ih0 _ _ _)
      | (with_reducible exact ih1 _ _ _ _)
      | (with_reducible exact ih2 _ _ _ _ _ _ _)
      | (with_reducible exact ih3 _ _ _ _ _ _ _ _)
      | (with_reducible exact ih4 _ _ _ _ _ _ _ _ _)
      | (with_reducible exact ih5 _ _ _ _ _ _ _ _ _ _)
      | (with_reducible exact ih6 _ _ _ _ _ _ _)
      | (with_reducible exact vespersref20_Next.mono _ _ _)
      | (with_reducible exact vespersref20_less.mono _ _ _)
      | (with_reducible exact LeO.refl _)
      | (with_reducible exact LeO.none _)
      | (with_reducible refine LeO.ite ?_ ?_)
      | (with_reducible refine LeO.bind ?_ (fun _ => ?_))
      | exact ih0 _ _ _
      | exact ih1 _ _ _ _
      | exact ih2 _ _ _ _ _ _ _
      | exact ih3 _ _ _ _ _ _ _ _
      | exact ih4 _ _ _ _ _ _ _ _ _
      | exact ih5 _ _ _ _ _ _ _ _ _ _
      | exact ih6 _ _ _ _ _ _ _
      | exact vespersref20_Next.mono _ _ _
      | exact vespersref20_less.mono _ _ _
      | exact LeO.none _
      | refine LeO.ite ?_ ?_
      | refine LeO.bind ?_ (fun _ => ?_)
    · intro y0 y1 y2 y3 y4 y5 y6
      unfold vespersref20_Way.l3
      repeat' first
      | (with_reducible exact ih0 _ _ _)
      | (with_reducible exact ih1 _ _ _ _)
      | (with_reducible exact ih2 _ _ _ _ _ _ _)
      | (with_reducible exact ih3 _ _ _ _ _ _ _ _)
      | (with_reducible exact ih4 _ _ _ _ _ _ _ _ _)
      | (with_reducible exact ih5 _ _ _ _ _ _ _ _ _ _)
      | (with_reducible exact ih6 _ _ _ _ _ _ _)
      | (with_reducible exact vespersref20_Next.mono _ _ _)
      | (with_reducible exact vespersref20_less.mono _ _ _)
      | (with_reducible exact LeO.refl _)
      | (with_reducible exact LeO.none _)
      | (with_reducible refine LeO.ite ?_ ?_)
      | (with_reducible refine LeO.bind ?_ (fun _ => ?_))
      | exact ih0 _ _ _
      | exact ih1 _ _ _ _
      | exact ih2 _ _ _ _ _ _ _
      | exact ih3 _ _ _ _ _ _ _ _
      | exact ih4 _ _ _ _ _ _ _ _ _
      | exact ih5 _ _ _ _ _ _ _ _ _ _
      | exact ih6 _ _ _ _ _ _ _
      | exact vespersref20_Next.mono _ _ _
      | exact vespersref20_less.mono _ _ _
      | exact LeO.none _
      | refine LeO.ite ?_ ?_
      | refine LeO.bind ?_ (fun _ => ?_)
theorem vespersref20_Way.mono : ∀ a0 a1 k, LeO (vespersref20_Way.f k a0 a1) (vespersref20_Way.f (k + 1) a0 a1) := by
  intro a0 a1 k
  obtain ⟨ih0, ih1, ih2, ih3, ih4, ih5, ih6⟩ := vespersref20_Way.mono_l k
  unfold vespersref20_Way.f
  repeat' first
      | (with_reducible exact ih0 _ _ _)
      | (with_reducible exact ih1 _ _ _ _)
      | (with_reducible exact ih2 _ _ _ _ _ _ _)
      | (with_reducible exact ih3 _ _ _ _ _ _ _ _)
      | (with_reducible exact ih4 _ _ _ _ _ _ _ _ _)
      | (with_reducible exact ih5 _ _ _ _ _ _ _ _ _ _)
      | (with_reducible exact ih6 _ _ _ _ _ _ _)
      | (with_reducible exact vespersref20_Next.mono _ _ _)
      | (with_reducible exact vespersref20_less.mono _ _ _)
      | (with_reducible exact LeO.refl _)
      | (with_reducible exact LeO.none _)
      | (with_reducible refine LeO.ite ?_ ?_)
      | (with_reducible refine LeO.bind ?_ (fun _ => ?_))
      | exact ih0 _ _ _
      | exact ih1 _ _ _ _
      | exact ih2 _ _ _ _ _ _ _
      | exact ih3 _ _ _ _ _ _ _ _
      | exact ih4 _ _ _ _ _ _ _ _ _
      | exact ih5 _ _ _ _ _ _ _ _ _ _
      | exact ih6 _ _ _ _ _ _ _
      | exact vespersref20_Next.mono _ _ _
      | exact vespersref20_less.mono _ _ _
      | exact LeO.none _
      | refine LeO.ite ?_ ?_
      | refine LeO.bind ?_ (fun _ => ?_)
set_option maxHeartbeats 8000000 in
set_option maxRecDepth 100000 in
theorem vespersref20_Way.calls (k : Nat) (a0 : Int) (a1 : Int) (r1 : List Int) (r2 : Int) (w : World) (h : vespersref20_Way.f k a0 a1 = some (r1, r2)) :
    Calls Tryd.prog 12 #[.int .i64 a0, .int .i64 a1] w fun e w' => ∃ v0_ : Value, e = .returned (.tuple #[v0_, .int .i64 r2]) ∧ Kd.V (Kd.int .i64) 3 w' w.heap.size (fun k_ => (w.heap.size ≤ k_)) v0_ r1 ∧ Below w.heap.size w w' := by
  have HB := Aside0.mk (Below.refl w.heap.size w)
  have H : (if a0 < 0 then (vespersref20_Way.j0 k a0 a1 true) else (if a0 > 6 then (vespersref20_Way.j0 k a0 a1 true) else (if a1 < 0 then (vespersref20_Way.j0 k a0 a1 true) else (vespersref20_Way.j0 k a0 a1 (decide (a1 > 6)))))) = some (r1, r2) := h
  clear h
  have HC3 := Aside0.mk H
  clear H
  go_enter Tryd.func12, Tryd.ntmps12
  go_upto_region 1 with (fail)
  go_cut [31] (fun v31 wc => ∃ (kq : Nat) (x31_2 : Bool), v31 = .bool x31_2 ∧ Aside0 (vespersref20_Way.j0 kq a0 a1 x31_2 = some (r1, r2)) ∧ Aside0 (kq ≤ k) ∧ Aside0 (Below w.heap.size w wc))
  case first =>
    have H := HC3.out
    clear HC3
    by_cases c4 : a0 < 0
    · rw [if_pos c4] at H
      have c4b0 : decide (a0 < 0) = true := decide_eq_true c4
      clear c4
      (first | rw [c4b0] | (simp only [i64_w, i32_w]; rw [c4b0]) | skip)
      have H' := Aside0.mk H
      clear H
      go_wp2
      go_meet
      case rel => exact ⟨_, (true), (by first | rfl | (simp; done) | (simp [*]; done)), H', ⟨by first | omega | exact Nat.le_refl _⟩, ⟨by repeat (first | (with_reducible first | exact HB.out | apply below_alloc | apply pw_below_drewN | apply below_drew1) | exact HB.out)⟩⟩
    · rw [if_neg c4] at H
      have c4b0 : decide (a0 < 0) = false := decide_eq_false c4
      clear c4
      (first | rw [c4b0] | (simp only [i64_w, i32_w]; rw [c4b0]) | skip)
      by_cases c5 : a0 > 6
      · rw [if_pos c5] at H
        have c5b0 : decide (6 < a0) = true := decide_eq_true c5
        clear c5
        have H' := Aside0.mk H
        clear H
        go_wp2
        go_meet
        case rel => exact ⟨_, (true), (by first | rfl | (simp; done) | (simp [*]; done)), H', ⟨by first | omega | exact Nat.le_refl _⟩, ⟨by repeat (first | (with_reducible first | exact HB.out | apply below_alloc | apply pw_below_drewN | apply below_drew1) | exact HB.out)⟩⟩
      · rw [if_neg c5] at H
        have c5b0 : decide (6 < a0) = false := decide_eq_false c5
        clear c5
        by_cases c6 : a1 < 0
        · rw [if_pos c6] at H
          have c6b0 : decide (a1 < 0) = true := decide_eq_true c6
          clear c6
          have H' := Aside0.mk H
          clear H
          go_wp2
          go_meet
          case rel => exact ⟨_, (true), (by first | rfl | (simp; done) | (simp [*]; done)), H', ⟨by first | omega | exact Nat.le_refl _⟩, ⟨by repeat (first | (with_reducible first | exact HB.out | apply below_alloc | apply pw_below_drewN | apply below_drew1) | exact HB.out)⟩⟩
        · rw [if_neg c6] at H
          have c6b0 : decide (a1 < 0) = false := decide_eq_false c6
          clear c6
          have H' := Aside0.mk H
          clear H
          go_wp2
          go_meet
          case rel => exact ⟨_, (decide (a1 > 6)), (by first | rfl | (simp; done) | (simp [*]; done)), H', ⟨by first | omega | exact Nat.le_refl _⟩, ⟨by repeat (first | (with_reducible first | exact HB.out | apply below_alloc | apply pw_below_drewN | apply below_drew1) | exact HB.out)⟩⟩
  case rest =>
    clear HC3
    try clear c1
    try clear p2
    try clear c4
    try clear c4b0
    try clear c5
    try clear c5b0
    try clear c6
    try clear c6b0
    obtain ⟨kq, x31_2, rfl, HA, HJ2, HB⟩ := hcut
    cases kq with
    | zero => exact absurd HA.out (by simp [vespersref20_Way.j0])
    | succ kj2 =>
      have H := HA.out
      clear HA
      simp only [vespersref20_Way.j0] at H
      by_cases c7 : x31_2 = true
      · subst c7
        have H1 : (some (([] : List Int), 200)) = some (r1, r2) := by rw [if_pos rfl] at H; exact H
        clear H
        have H := H1
        clear H1
        simp only [Option.some.injEq, Prod.mk.injEq] at H
        obtain ⟨rfl, rfl⟩ := H
        go_wp2
        go_ret2
        exact ⟨_, by first | rfl | (simp [errW_none, errW_some] <;> rfl) | (simp [*, errW_none, errW_some] <;> rfl), Kd.R_V (by first | exact Kd.R_nil _ _ _ w.heap.size _ | exact Kd.N_nil _ _ _ _ _ | exact Kd.V_nil _ _ _ _ _ | exact Kd.Q_nil _ _ _ _ _ | exact Kd.S_nil _ _ _ _ _), by repeat (first | (with_reducible first | exact HB.out | apply below_alloc | apply pw_below_drewN | apply below_drew1) | exact HB.out)⟩
      · replace c7 := Bool.eq_false_iff.mpr c7
        subst c7
        have H1 : (if 7 ≤ 11728124029610 then (if 7 ≤ 281474976710656 then ((some (List.replicate 7 false : List Bool)).bind fun y104 => (if 0 ≤ a0 then (if a0 < (y104.length : Int) then (vespersref20_Way.l0 kj2 a1 (List.replicate 7 []) (y104.set (a0 : Int).toNat true) 0) else (none)) else (none))) else (none)) else (none)) = some (r1, r2) := by rw [if_neg (show ¬ (false = true) by decide)] at H; exact H
        clear H
        have H := H1
        clear H1
        by_cases c8 : 7 ≤ 11728124029610
        · rw [if_pos c8] at H
          have c8b0 := eq_true c8
          have c8b1 : decide (7 ≤ 11728124029610) = true := decide_eq_true c8
          clear c8
          obtain ⟨y101, hy101⟩ : ∃ y_ : List (List Int), y_ = (List.replicate 7 []) := ⟨_, rfl⟩
          replace H : (if 7 ≤ 281474976710656 then ((some (List.replicate 7 false : List Bool)).bind fun y104 => (if 0 ≤ a0 then (if a0 < (y104.length : Int) then (vespersref20_Way.l0 kj2 a1 y101 (y104.set (a0 : Int).toNat true) 0) else (none)) else (none))) else (none)) = some (r1, r2) := by first | (rw [hy101]; with_reducible exact H) | (have H2_ := (Option.bind_some _ _).symm.trans H; rw [hy101]; with_reducible exact H2_) | (have H2_ := (Option.bind_some _ _).symm.trans H; with_reducible exact H2_) | with_reducible exact H | (rw [hy101]; exact H) | exact H
          have Ny101 := Aside0.mk hy101
          clear hy101
          by_cases c9 : 7 ≤ 281474976710656
          · rw [if_pos c9] at H
            have c9b0 := eq_true c9
            have c9b1 : decide (7 ≤ 281474976710656) = true := decide_eq_true c9
            clear c9
            obtain ⟨y104, hy104⟩ : ∃ y_ : List Bool, y_ = (List.replicate 7 false) := ⟨_, rfl⟩
            replace H : (if 0 ≤ a0 then (if a0 < (y104.length : Int) then (vespersref20_Way.l0 kj2 a1 y101 (y104.set (a0 : Int).toNat true) 0) else (none)) else (none)) = some (r1, r2) := by first | (rw [hy104]; with_reducible exact H) | (have H2_ := (Option.bind_some _ _).symm.trans H; rw [hy104]; with_reducible exact H2_) | (have H2_ := (Option.bind_some _ _).symm.trans H; with_reducible exact H2_) | with_reducible exact H | (rw [hy104]; exact H) | exact H
            have Ny104 := Aside0.mk hy104
            clear hy104
            by_cases c10 : 0 ≤ a0
            · rw [if_pos c10] at H
              have c10b0 : decide (0 ≤ a0) = true := decide_eq_true c10
              clear c10
              by_cases c11 : a0 < (y104.length : Int)
              · rw [if_pos c11] at H
                have c11b0 : decide (a0 < (y104.length : Int)) = true := decide_eq_true c11
                clear c11
                obtain ⟨y107, hy107⟩ : ∃ y_ : List Bool, y_ = (y104.set (a0 : Int).toNat true) := ⟨_, rfl⟩
                replace H : (vespersref20_Way.l0 kj2 a1 y101 y107 0) = some (r1, r2) := by first | (rw [hy107]; with_reducible exact H) | (have H2_ := (Option.bind_some _ _).symm.trans H; rw [hy107]; with_reducible exact H2_) | (have H2_ := (Option.bind_some _ _).symm.trans H; with_reducible exact H2_) | with_reducible exact H | (rw [hy107]; exact H) | exact H
                have Ny107 := Aside0.mk hy107
                clear hy107
                have H' := Aside0.mk H
                clear H
                go_wp2_with (first | ((with_reducible refine gate_dst (N := 32) rfl ?_); (try (refine gate_guard (by rfl) ?_; dsimp only)); refine Kd.N_make (Kd.slice 3 (Kd.int .i64)) _ 22 rfl (N' := 32) rfl 54 _ _ rfl 7 rfl rfl Tryd.underlying54 (.slice none 0 0) 24 info22 rfl (by decide) (by omega) [] (ok := fun k_ => wc.heap.size ≤ k_) (okp := fun _ => False) (Kd.FK_slice_mk (Nat.le_refl _) (Kd.F_nil _ _ _)) (fun _ hk => hk.elim) (Nat.le_refl _) (by omega) (by omega) (Below.refl _ _) (Nat.le_refl _) ?_; intro v102 w13 ho14 hb hg_ hnew_; clear hg_ hnew_; (first | rw [← Ny101.out] at ho14 | (simp only [Int.reduceToNat] at ho14; rw [← Ny101.out] at ho14)); have n0_ := Aside0.mk (Kd.N_lower (Kd.N_mono (ok' := fun k_ => (w.heap.size ≤ k_)) ho14 (fun k_ hk_ => (Nat.le_trans (below_size (by repeat (first | (with_reducible first | exact HB.out | apply below_alloc | apply pw_below_drewN | apply below_drew1) | exact HB.out))) hk_))) (below_size (by repeat (first | (with_reducible first | exact HB.out | apply below_alloc | apply pw_below_drewN | apply below_drew1) | exact HB.out)))); have n1_ := Aside0.mk (below_step (by repeat (first | (with_reducible first | exact HB.out | apply below_alloc | apply pw_below_drewN | apply below_drew1) | exact HB.out)) hb); clear HB; have HO103 := n0_; have HB := n1_; clear n0_ n1_; clear hb ho14) | ((with_reducible refine gate_dst (N := 33) rfl ?_); (try (refine gate_guard (by rfl) ?_; dsimp only)); refine Kd.R_make Kd.bool _ 4 rfl (N := 33) rfl 55 _ _ rfl 7 rfl rfl Tryd.underlying55 (.bool false) 1 info4 rfl (by decide) (by omega) false (ok := fun _ => True) (okp := fun _ => True) rfl (fun _ hk => hk) trivial (by omega) (by omega) (Below.refl _ _) (Nat.le_refl _) ?_; intro v105 w15 ho16 hb hg_ hnew_; clear hg_ hnew_; (first | rw [← Ny104.out] at ho16 | (simp only [Int.reduceToNat] at ho16; rw [← Ny104.out] at ho16)); have n0_ := Aside0.mk (Kd.N_elder' (by (with_reducible repeat (first | apply Kd.N_alloc | apply Kd.N_drewN | apply Kd.N_drew)); exact HO103.out) (Kd.R_base ho16) hb); have n1_ := Aside0.mk (Kd.R_lower (Kd.R_newM (M := fun k_ => (w.heap.size ≤ k_)) ho16 (below_size (by repeat (first | (with_reducible first | exact HB.out | apply below_alloc | apply pw_below_drewN | apply below_drew1) | exact HB.out))) (fun k_ h_ => h_)) (below_size (by repeat (first | (with_reducible first | exact HB.out | apply below_alloc | apply pw_below_drewN | apply below_drew1) | exact HB.out)))); have n2_ := Aside0.mk (below_step (by repeat (first | (with_reducible first | exact HB.out | apply below_alloc | apply pw_below_drewN | apply below_drew1) | exact HB.out)) hb); clear HO103; clear HB; have HO103 := n0_; have HO106 := n1_; have HB := n2_; clear n0_ n1_ n2_; clear hb ho16; have p12 : 0 ≤ (a0 : Int) := of_decide_eq_true (by first | (with_reducible assumption) | assumption); have q12 : (a0 : Int) < ((y104.length : Int) : Int) := of_decide_eq_true (by first | (with_reducible assumption) | assumption); obtain ⟨go12, co12, eo12, gb12, gl12, cl12, HG12⟩ := Kd.R_form HO106.out (by omega); (first | cases eo12 | (injection eo12 with ea_ en_ ec_; (first | subst ea_ | (injection ea_ with ea_; subst ea_)); subst ec_; clear en_)); have GB12 := Aside0.mk gb12; have GG12 := Aside0.mk HG12; clear gb12 gl12 HG12; obtain ⟨hx12_0, hf12_0⟩ := Kd.R_celln false HO106.out (a0 : Int) p12 q12; replace p12 := eq_true p12; replace q12 := eq_true q12; have n_ := Aside0.mk (Kd.R_mono (ok' := (fun k_ => (w.heap.size ≤ k_))) HO106.out (fun k_ hk => hk.1)); clear HO106; have HO106 := n_; clear n_; obtain ⟨hy17_, hz17_⟩ := Kd.R_celln false HO106.out (a0 : Int) (of_decide_eq_true (by first | (with_reducible assumption) | assumption)) (of_decide_eq_true (by first | (with_reducible assumption) | assumption)); have HP17 := Kd.R_putg HO106.out (a0 : Int) true) | ((with_reducible refine gate_store (t := 4) (p := 36) rfl ?_); refine store_event (t := 4) (p := 36) (v := ?vo_w18) (w1 := (w15.setCell ⟨go12, (a0 : Int).toNat, none⟩ (.bool true))) ?hg ?ho ?hn ?hr ?_; (case ho => rfl); (case hg => rfl); (case hn => rfl); (case hr => first | (go_simp; done) | (go_simp; rfl)); intro w18 hw; have hg : w15.grownBy w18 (some go12) := (by rw [hw]; exact HP17.2); have hp_ : Kd.R Kd.bool 4 w18 w.heap.size (fun k_ => (w.heap.size ≤ k_)) (.slice (some ⟨go12, 0, none⟩) y104.length co12) y107 := (by rw [hw, Ny107.out]; exact HP17.1); clear HP17; have n0_ := Aside0.mk (Kd.N_afterv (v := (.slice (some ⟨go12, 0, none⟩) y104.length co12)) (v1 := (.slice (some ⟨go12, 0, none⟩) y104.length co12)) (ok := (fun k_ => (w.heap.size ≤ k_))) (by (with_reducible repeat (first | apply Kd.N_alloc | apply Kd.N_drewN | apply Kd.N_drew)); exact HO103.out) hg (.inl rfl)); have n1_ := Aside0.mk (hp_); have n2_ := Aside0.mk ((by rw [hw]; exact below_set (HB.out) GB12.out : Below w.heap.size w w18)); clear HO103; clear HO106; clear HB; have HO103 := n0_; have HO106 := n1_; have HB := n2_; clear n0_ n1_ n2_; clear hg hw hp_))
                go_loopg [8] kj2 (fun kq v8 w' => ∃ (x6_2 : List (List Int)) (x7_2 : List Bool) (x8_2 : Int), v8 = .int .i64 x8_2 ∧ Aside0 (vespersref20_Way.l0 kq a1 x6_2 x7_2 x8_2 = some (r1, r2)) ∧ Aside0 (kq ≤ kj2) ∧ Aside0 (Kd.N (Kd.slice 3 (Kd.int .i64)) 22 w' w.heap.size (fun k_ => (w.heap.size ≤ k_) ∧ some k_ ≠ ((.slice (some ⟨go12, 0, none⟩) y104.length co12) : Value).ownBlock) v102 x6_2) ∧ Aside0 (Kd.R Kd.bool 4 w' w.heap.size (fun k_ => (w.heap.size ≤ k_)) (.slice (some ⟨go12, 0, none⟩) y104.length co12) x7_2) ∧ Aside0 (Below w.heap.size w w'))
                case atStart => exact ⟨(y101), (y107), (0), (by first | rfl | (simp; done) | (simp [*]; done)), H', ⟨Nat.le_refl _⟩, ⟨by (with_reducible repeat (first | apply Kd.N_alloc | apply Kd.N_drewN | apply Kd.N_drew)); exact HO103.out⟩, ⟨by (with_reducible repeat (first | apply Kd.R_alloc | apply Kd.R_drewN | apply Kd.R_drew)); exact HO106.out⟩, ⟨by repeat (first | (with_reducible first | exact HB.out | apply below_alloc | apply pw_below_drewN | apply below_drew1) | exact HB.out)⟩⟩
                case round =>
                  clear H'
                  try clear c1
                  try clear p1
                  try clear q1
                  try clear hx1
                  try clear p2
                  try clear c4
                  try clear c4b0
                  try clear c5
                  try clear c5b0
                  try clear c6
                  try clear c6b0
                  try clear c7
                  try clear c8
                  try clear c8b0
                  try clear c8b1
                  try clear c9
                  try clear c9b0
                  try clear c9b1
                  try clear c10
                  try clear c10b0
                  try clear c11
                  try clear c11b0
                  try clear c12
                  try clear p12
                  try clear q12
                  try clear hx12
                  try clear hf12
                  try clear hx12_0
                  try clear p12
                  try clear p2
                  try clear q12
                  obtain ⟨x6_2, x7_2, x8_2, rfl, HA, HK2, HO_6, HO_7, HB⟩ := hrel
                  have hl7_2 := (Kd.R_reads' HO_7.out).1
                  rw [hl7_2] at HO_7
                  (try simp only [hl7_2])
                  (try simp only [hl7_2] at HO_6)
                  cases gk with
                  | zero => exact absurd HA.out (by simp [vespersref20_Way.l0])
                  | succ k2 =>
                    have H := HA.out
                    clear HA
                    simp only [vespersref20_Way.l0] at H
                    by_cases c19 : x8_2 < 7
                    · rw [if_pos c19] at H
                      have c19b0 : decide (x8_2 < 7) = true := decide_eq_true c19
                      clear c19
                      by_cases c20 : 7 ≤ 11728124029610
                      · rw [if_pos c20] at H
                        have c20b0 := eq_true c20
                        have c20b1 : decide (7 ≤ 11728124029610) = true := decide_eq_true c20
                        clear c20
                        obtain ⟨y109, hy109⟩ : ∃ y_ : List (List Int), y_ = (List.replicate 7 []) := ⟨_, rfl⟩
                        replace H : (if 7 ≤ 281474976710656 then (vespersref20_Way.l1 k2 a1 x6_2 x7_2 x8_2 y109 (List.replicate 7 false) 0) else (none)) = some (r1, r2) := by first | (rw [hy109]; with_reducible exact H) | (have H2_ := (Option.bind_some _ _).symm.trans H; rw [hy109]; with_reducible exact H2_) | (have H2_ := (Option.bind_some _ _).symm.trans H; with_reducible exact H2_) | with_reducible exact H | (rw [hy109]; exact H) | exact H
                        have Ny109 := Aside0.mk hy109
                        clear hy109
                        by_cases c21 : 7 ≤ 281474976710656
                        · rw [if_pos c21] at H
                          have c21b0 := eq_true c21
                          have c21b1 : decide (7 ≤ 281474976710656) = true := decide_eq_true c21
                          clear c21
                          obtain ⟨y112, hy112⟩ : ∃ y_ : List Bool, y_ = (List.replicate 7 false) := ⟨_, rfl⟩
                          replace H : (vespersref20_Way.l1 k2 a1 x6_2 x7_2 x8_2 y109 y112 0) = some (r1, r2) := by first | (rw [hy112]; with_reducible exact H) | (have H2_ := (Option.bind_some _ _).symm.trans H; rw [hy112]; with_reducible exact H2_) | (have H2_ := (Option.bind_some _ _).symm.trans H; with_reducible exact H2_) | with_reducible exact H | (rw [hy112]; exact H) | exact H
                          have Ny112 := Aside0.mk hy112
                          clear hy112
                          have H' := Aside0.mk H
                          clear H
                          go_wp2_with (first | ((with_reducible refine gate_dst (N := 41) rfl ?_); (try (refine gate_guard (by rfl) ?_; dsimp only)); refine Kd.N_make (Kd.slice 3 (Kd.int .i64)) _ 22 rfl (N' := 41) rfl 54 _ _ rfl 7 rfl rfl Tryd.underlying54 (.slice none 0 0) 24 info22 rfl (by decide) (by omega) [] (ok := fun k_ => wr.heap.size ≤ k_) (okp := fun _ => False) (Kd.FK_slice_mk (Nat.le_refl _) (Kd.F_nil _ _ _)) (fun _ hk => hk.elim) (Nat.le_refl _) (by omega) (by omega) (Below.refl _ _) (Nat.le_refl _) ?_; intro v110 w22 ho23 hb hg_ hnew_; clear hg_ hnew_; (first | rw [← Ny109.out] at ho23 | (simp only [Int.reduceToNat] at ho23; rw [← Ny109.out] at ho23)); have n0_ := Aside0.mk (Kd.N_elder' (by (with_reducible repeat (first | apply Kd.N_alloc | apply Kd.N_drewN | apply Kd.N_drew)); exact HO_6.out) (Kd.N_base ho23) hb); have n1_ := Aside0.mk (Kd.R_below (by (with_reducible repeat (first | apply Kd.R_alloc | apply Kd.R_drewN | apply Kd.R_drew)); exact HO_7.out) hb); have n2_ := Aside0.mk (Kd.N_lower (Kd.N_mono (ok' := fun k_ => (w.heap.size ≤ k_) ∧ some k_ ≠ (v102 : Value).ownBlock ∧ some k_ ≠ (.slice (some ⟨go12, 0, none⟩) x7_2.length co12 : Value).ownBlock) ho23 (fun k_ hk_ => ⟨(Nat.le_trans (below_size (by repeat (first | (with_reducible first | exact HB.out | apply below_alloc | apply pw_below_drewN | apply below_drew1) | exact HB.out))) hk_), (Kd.fresh' (Kd.N_lt (by (with_reducible repeat (first | apply Kd.N_alloc | apply Kd.N_drewN | apply Kd.N_drew)); exact HO_6.out)) k_ hk_), (Kd.fresh' (Kd.R_lt (by (with_reducible repeat (first | apply Kd.R_alloc | apply Kd.R_drewN | apply Kd.R_drew)); exact HO_7.out)) k_ hk_)⟩)) (below_size (by repeat (first | (with_reducible first | exact HB.out | apply below_alloc | apply pw_below_drewN | apply below_drew1) | exact HB.out)))); have n3_ := Aside0.mk (below_step (by repeat (first | (with_reducible first | exact HB.out | apply below_alloc | apply pw_below_drewN | apply below_drew1) | exact HB.out)) hb); clear HO_6; clear HO_7; clear HB; have HO_6 := n0_; have HO_7 := n1_; have HO111 := n2_; have HB := n3_; clear n0_ n1_ n2_ n3_; clear hb ho23) | ((with_reducible refine gate_dst (N := 42) rfl ?_); (try (refine gate_guard (by rfl) ?_; dsimp only)); refine Kd.R_make Kd.bool _ 4 rfl (N := 42) rfl 55 _ _ rfl 7 rfl rfl Tryd.underlying55 (.bool false) 1 info4 rfl (by decide) (by omega) false (ok := fun _ => True) (okp := fun _ => True) rfl (fun _ hk => hk) trivial (by omega) (by omega) (Below.refl _ _) (Nat.le_refl _) ?_; intro v113 w24 ho25 hb hg_ hnew_; clear hg_ hnew_; (first | rw [← Ny112.out] at ho25 | (simp only [Int.reduceToNat] at ho25; rw [← Ny112.out] at ho25)); have n0_ := Aside0.mk (Kd.N_elder' (by (with_reducible repeat (first | apply Kd.N_alloc | apply Kd.N_drewN | apply Kd.N_drew)); exact HO_6.out) (Kd.R_base ho25) hb); have n1_ := Aside0.mk (Kd.R_elder' (by (with_reducible repeat (first | apply Kd.R_alloc | apply Kd.R_drewN | apply Kd.R_drew)); exact HO_7.out) (Kd.R_base ho25) hb); have n2_ := Aside0.mk (Kd.N_elder' (by (with_reducible repeat (first | apply Kd.N_alloc | apply Kd.N_drewN | apply Kd.N_drew)); exact HO111.out) (Kd.R_base ho25) hb); have n3_ := Aside0.mk (Kd.R_lower (Kd.R_new' (Kd.R_newM (M := fun k_ => (w.heap.size ≤ k_)) ho25 (below_size (by repeat (first | (with_reducible first | exact HB.out | apply below_alloc | apply pw_below_drewN | apply below_drew1) | exact HB.out))) (fun k_ h_ => h_)) (Kd.R_lt (by (with_reducible repeat (first | apply Kd.R_alloc | apply Kd.R_drewN | apply Kd.R_drew)); exact HO_7.out))) (below_size (by repeat (first | (with_reducible first | exact HB.out | apply below_alloc | apply pw_below_drewN | apply below_drew1) | exact HB.out)))); have n4_ := Aside0.mk (below_step (by repeat (first | (with_reducible first | exact HB.out | apply below_alloc | apply pw_below_drewN | apply below_drew1) | exact HB.out)) hb); clear HO_6; clear HO_7; clear HO111; clear HB; have HO_6 := n0_; have HO_7 := n1_; have HO111 := n2_; have HO114 := n3_; have HB := n4_; clear n0_ n1_ n2_ n3_ n4_; clear hb ho25))
                          go_loopg [11] k2 (fun kq v11 w' => ∃ (x9_3 : List (List Int)) (x10_3 : List Bool) (x11_3 : Int), v11 = .int .i64 x11_3 ∧ Aside0 (vespersref20_Way.l1 kq a1 x6_2 x7_2 x8_2 x9_3 x10_3 x11_3 = some (r1, r2)) ∧ Aside0 (kq ≤ k2) ∧ Aside0 (Kd.N (Kd.slice 3 (Kd.int .i64)) 22 w' w.heap.size (fun k_ => (w.heap.size ≤ k_) ∧ some k_ ≠ ((.slice (some ⟨go12, 0, none⟩) x7_2.length co12) : Value).ownBlock ∧ some k_ ≠ (v110 : Value).ownBlock ∧ some k_ ≠ (v113 : Value).ownBlock) v102 x6_2) ∧ Aside0 (Kd.R Kd.bool 4 w' w.heap.size (fun k_ => (w.heap.size ≤ k_) ∧ some k_ ≠ (v113 : Value).ownBlock) (.slice (some ⟨go12, 0, none⟩) x7_2.length co12) x7_2) ∧ Aside0 (Kd.N (Kd.slice 3 (Kd.int .i64)) 22 w' w.heap.size (fun k_ => (w.heap.size ≤ k_) ∧ some k_ ≠ (v102 : Value).ownBlock ∧ some k_ ≠ ((.slice (some ⟨go12, 0, none⟩) x7_2.length co12) : Value).ownBlock ∧ some k_ ≠ (v113 : Value).ownBlock) v110 x9_3) ∧ Aside0 (Kd.R Kd.bool 4 w' w.heap.size (fun k_ => (w.heap.size ≤ k_) ∧ some k_ ≠ ((.slice (some ⟨go12, 0, none⟩) x7_2.length co12) : Value).ownBlock) v113 x10_3) ∧ Aside0 (Below w.heap.size w w'))
                          case atStart => exact ⟨(y109), (y112), (0), (by first | rfl | (simp; done) | (simp [*]; done)), H', ⟨Nat.le_refl _⟩, ⟨by (try simp only [hl7_2]); (with_reducible repeat (first | apply Kd.N_alloc | apply Kd.N_drewN | apply Kd.N_drew)); exact Kd.N_mono HO_6.out (fun _ hk => ⟨hk.1.1.1, ⟨hk.1.1.2, ⟨hk.1.2, hk.2⟩⟩⟩)⟩, ⟨by (try simp only [hl7_2]); (with_reducible repeat (first | apply Kd.R_alloc | apply Kd.R_drewN | apply Kd.R_drew)); exact HO_7.out⟩, ⟨by (try simp only [hl7_2]); (with_reducible repeat (first | apply Kd.N_alloc | apply Kd.N_drewN | apply Kd.N_drew)); exact Kd.N_mono HO111.out (fun _ hk => ⟨hk.1.1, ⟨hk.1.2.1, ⟨hk.1.2.2, hk.2⟩⟩⟩)⟩, ⟨by (try simp only [hl7_2]); (with_reducible repeat (first | apply Kd.R_alloc | apply Kd.R_drewN | apply Kd.R_drew)); exact Kd.R_mono HO114.out (fun _ hk => ⟨hk.1.1, hk.2⟩)⟩, ⟨by repeat (first | (with_reducible first | exact HB.out | apply below_alloc | apply pw_below_drewN | apply below_drew1) | exact HB.out)⟩⟩
                          case round =>
                            clear H'
                            try clear c1
                            try clear p1
                            try clear q1
                            try clear hx1
                            try clear c2
                            try clear p2
                            try clear c4
                            try clear c4b0
                            try clear c5
                            try clear c5b0
                            try clear c6
                            try clear c6b0
                            try clear c7
                            try clear c8
                            try clear c8b0
                            try clear c8b1
                            try clear c9
                            try clear c9b0
                            try clear c9b1
                            try clear c10
                            try clear c10b0
                            try clear c11
                            try clear c11b0
                            try clear c12
                            try clear p12
                            try clear q12
                            try clear hx12
                            try clear hf12
                            try clear c19
                            try clear c19b0
                            try clear c20
                            try clear c20b0
                            try clear c20b1
                            try clear c21
                            try clear c21b0
                            try clear c21b1
                            try clear hx12_0
                            try clear p1
                            try clear p12
                            try clear p2
                            try clear q1
                            try clear q12
                            obtain ⟨x9_3, x10_3, x11_3, rfl, HA, HK3, HO_6, HO_7, HO_9, HO_10, HB⟩ := hrel
                            cases gk with
                            | zero => exact absurd HA.out (by simp [vespersref20_Way.l1])
                            | succ k3 =>
                              have H := HA.out
                              clear HA
                              simp only [vespersref20_Way.l1] at H
                              by_cases c26 : x11_3 < 7
                              · rw [if_pos c26] at H
                                have c26b0 : decide (x11_3 < 7) = true := decide_eq_true c26
                                clear c26
                                have H' := Aside0.mk H
                                clear H
                                go_wp2
                                go_loopg [12] k3 (fun kq v12 w' => ∃ (x9_4 : List (List Int)) (x10_4 : List Bool) (x12_4 : Int), v12 = .int .i64 x12_4 ∧ Aside0 (vespersref20_Way.l2 kq a1 x6_2 x7_2 x8_2 x9_4 x10_4 x11_3 x12_4 = some (r1, r2)) ∧ Aside0 (kq ≤ k3) ∧ Aside0 (Kd.N (Kd.slice 3 (Kd.int .i64)) 22 w' w.heap.size (fun k_ => (w.heap.size ≤ k_) ∧ some k_ ≠ ((.slice (some ⟨go12, 0, none⟩) x7_2.length co12) : Value).ownBlock ∧ some k_ ≠ (v110 : Value).ownBlock ∧ some k_ ≠ (v113 : Value).ownBlock) v102 x6_2) ∧ Aside0 (Kd.R Kd.bool 4 w' w.heap.size (fun k_ => (w.heap.size ≤ k_) ∧ some k_ ≠ (v113 : Value).ownBlock) (.slice (some ⟨go12, 0, none⟩) x7_2.length co12) x7_2) ∧ Aside0 (Kd.N (Kd.slice 3 (Kd.int .i64)) 22 w' w.heap.size (fun k_ => (w.heap.size ≤ k_) ∧ some k_ ≠ (v102 : Value).ownBlock ∧ some k_ ≠ ((.slice (some ⟨go12, 0, none⟩) x7_2.length co12) : Value).ownBlock ∧ some k_ ≠ (v113 : Value).ownBlock) v110 x9_4) ∧ Aside0 (Kd.R Kd.bool 4 w' w.heap.size (fun k_ => (w.heap.size ≤ k_) ∧ some k_ ≠ ((.slice (some ⟨go12, 0, none⟩) x7_2.length co12) : Value).ownBlock) v113 x10_4) ∧ Aside0 (Below w.heap.size w w'))
                                case atStart => exact ⟨(x9_3), (x10_3), (0), (by first | rfl | (simp; done) | (simp [*]; done)), H', ⟨Nat.le_refl _⟩, ⟨by (try simp only [hl7_2]); (with_reducible repeat (first | apply Kd.N_alloc | apply Kd.N_drewN | apply Kd.N_drew)); exact HO_6.out⟩, ⟨by (try simp only [hl7_2]); (with_reducible repeat (first | apply Kd.R_alloc | apply Kd.R_drewN | apply Kd.R_drew)); exact HO_7.out⟩, ⟨by (try simp only [hl7_2]); (with_reducible repeat (first | apply Kd.N_alloc | apply Kd.N_drewN | apply Kd.N_drew)); exact HO_9.out⟩, ⟨by (try simp only [hl7_2]); (with_reducible repeat (first | apply Kd.R_alloc | apply Kd.R_drewN | apply Kd.R_drew)); exact HO_10.out⟩, ⟨by repeat (first | (with_reducible first | exact HB.out | apply below_alloc | apply pw_below_drewN | apply below_drew1) | exact HB.out)⟩⟩
                                case round =>
                                  clear H'
                                  try clear c1
                                  try clear p1
                                  try clear q1
                                  try clear hx1
                                  try clear c2
                                  try clear p2
                                  try clear c4
                                  try clear c4b0
                                  try clear c5
                                  try clear c5b0
                                  try clear c6
                                  try clear c6b0
                                  try clear c7
                                  try clear c8
                                  try clear c8b0
                                  try clear c8b1
                                  try clear c9
                                  try clear c9b0
                                  try clear c9b1
                                  try clear c10
                                  try clear c10b0
                                  try clear c11
                                  try clear c11b0
                                  try clear c12
                                  try clear p12
                                  try clear q12
                                  try clear hx12
                                  try clear hf12
                                  try clear c19
                                  try clear c19b0
                                  try clear c20
                                  try clear c20b0
                                  try clear c20b1
                                  try clear c21
                                  try clear c21b0
                                  try clear c21b1
                                  try clear c26
                                  try clear c26b0
                                  try clear hx12_0
                                  try clear p1
                                  try clear p12
                                  try clear p2
                                  try clear q1
                                  try clear q12
                                  obtain ⟨x9_4, x10_4, x12_4, rfl, HA, HK4, HO_6, HO_7, HO_9, HO_10, HB⟩ := hrel
                                  cases gk with
                                  | zero => exact absurd HA.out (by simp [vespersref20_Way.l2])
                                  | succ k4 =>
                                    have H := HA.out
                                    clear HA
                                    simp only [vespersref20_Way.l2] at H
                                    have HC27 := Aside0.mk H
                                    clear H
                                    go_upto_region 15 with (fail)
                                    go_cut [63] (fun v63 wc => ∃ (kq : Nat) (x63_26 : Bool), v63 = .bool x63_26 ∧ Aside0 (vespersref20_Way.j4 kq a1 x6_2 x7_2 x8_2 x9_4 x10_4 x11_3 x12_4 x63_26 = some (r1, r2)) ∧ Aside0 (kq ≤ k4) ∧ Aside0 (Kd.N (Kd.slice 3 (Kd.int .i64)) 22 wc w.heap.size (fun k_ => (w.heap.size ≤ k_) ∧ some k_ ≠ ((.slice (some ⟨go12, 0, none⟩) x7_2.length co12) : Value).ownBlock ∧ some k_ ≠ (v110 : Value).ownBlock ∧ some k_ ≠ (v113 : Value).ownBlock) v102 x6_2) ∧ Aside0 (Kd.R Kd.bool 4 wc w.heap.size (fun k_ => (w.heap.size ≤ k_) ∧ some k_ ≠ (v113 : Value).ownBlock) (.slice (some ⟨go12, 0, none⟩) x7_2.length co12) x7_2) ∧ Aside0 (Kd.N (Kd.slice 3 (Kd.int .i64)) 22 wc w.heap.size (fun k_ => (w.heap.size ≤ k_) ∧ some k_ ≠ (v102 : Value).ownBlock ∧ some k_ ≠ ((.slice (some ⟨go12, 0, none⟩) x7_2.length co12) : Value).ownBlock ∧ some k_ ≠ (v113 : Value).ownBlock) v110 x9_4) ∧ Aside0 (Kd.R Kd.bool 4 wc w.heap.size (fun k_ => (w.heap.size ≤ k_) ∧ some k_ ≠ ((.slice (some ⟨go12, 0, none⟩) x7_2.length co12) : Value).ownBlock) v113 x10_4) ∧ Aside0 (Below w.heap.size w wc))
                                    case first =>
                                      have H := HC27.out
                                      clear HC27
                                      by_cases c28 : x12_4 < 10
                                      · rw [if_pos c28] at H
                                        have c28b0 : decide (x12_4 < 10) = true := decide_eq_true c28
                                        clear c28
                                        (first | rw [c28b0] | (simp only [i64_w, i32_w]; rw [c28b0]) | skip)
                                        by_cases c29 : 0 ≤ x11_3
                                        · rw [if_pos c29] at H
                                          have c29b0 : decide (0 ≤ x11_3) = true := decide_eq_true c29
                                          clear c29
                                          by_cases c30 : x11_3 < (x7_2.length : Int)
                                          · rw [if_pos c30] at H
                                            have c30b0 : decide (x11_3 < (x7_2.length : Int)) = true := decide_eq_true c30
                                            clear c30
                                            obtain ⟨bq31, hbq31⟩ : ∃ b_ : Bool, b_ = (rdOf false x7_2 x11_3) := ⟨_, rfl⟩
                                            replace H : (if bq31 = true then (if x11_3 < (x6_2.length : Int) then (vespersref20_Way.j4 k4 a1 x6_2 x7_2 x8_2 x9_4 x10_4 x11_3 x12_4 (((rd_L1 x6_2 x11_3).length : Int) == x8_2)) else (none)) else (vespersref20_Way.j4 k4 a1 x6_2 x7_2 x8_2 x9_4 x10_4 x11_3 x12_4 false)) = some (r1, r2) := by rw [← hbq31] at H; exact H
                                            have Nbq31 := Aside0.mk hbq31
                                            clear hbq31
                                            by_cases c32 : bq31 = true
                                            · subst c32
                                              have H1 : (if x11_3 < (x6_2.length : Int) then (vespersref20_Way.j4 k4 a1 x6_2 x7_2 x8_2 x9_4 x10_4 x11_3 x12_4 (((rd_L1 x6_2 x11_3).length : Int) == x8_2)) else (none)) = some (r1, r2) := by rw [if_pos rfl] at H; exact H
                                              clear H
                                              have H := H1
                                              clear H1
                                              by_cases c33 : x11_3 < (x6_2.length : Int)
                                              · rw [if_pos c33] at H
                                                have c33b0 : decide (x11_3 < (x6_2.length : Int)) = true := decide_eq_true c33
                                                clear c33
                                                have H' := Aside0.mk H
                                                clear H
                                                have p115 : 0 ≤ (x11_3 : Int) := of_decide_eq_true (by first | (with_reducible assumption) | assumption)
                                                have q115 : x11_3 < (x7_2.length : Int) := of_decide_eq_true (by first | (with_reducible assumption) | assumption)
                                                obtain ⟨ad115, e115, hx115_0⟩ := Kd.at_bool (Kd.R_reads' HO_7.out).2.2 x11_3 p115 q115
                                                (try rw [← Nbq31.out] at hx115_0)
                                                obtain rfl : (⟨go12, 0, none⟩ : Addr) = ad115 := (by injection e115)
                                                (first | simp only [add_plain] at hx115_0 | simp only [add_at] at hx115_0 | simp only [Addr.add, Nat.zero_add] at hx115_0 | skip)
                                                replace p115 := eq_true p115
                                                replace q115 := eq_true q115
                                                obtain ⟨Ao34, co34, eo34⟩ := Kd.N_slice HO_6.out
                                                subst eo34
                                                have p116 : 0 ≤ (x11_3 : Int) := of_decide_eq_true (by first | (with_reducible assumption) | assumption)
                                                have q116 : x11_3 < (x6_2.length : Int) := of_decide_eq_true (by first | (with_reducible assumption) | assumption)
                                                obtain ⟨ad116, A116_0, c116_0, e116, hx116_0, hl116_0, hi116_0⟩ := at_L1 (Kd.N_reads' HO_6.out).2.2 x11_3 p116 q116
                                                cases e116
                                                obtain ⟨ce116, hce116, hMe116, hcc116⟩ := Kd.N_get HO_6.out [] x11_3 p116 (by first | exact q116 | exact of_decide_eq_true (by first | (with_reducible assumption) | assumption) | (have e_ := (Kd.N_reads' HO_6.out).1; omega))
                                                obtain ⟨ua116_0, uc116_0, rfl, ul116_0, ge116_0⟩ := Kd.FK_slice_open hMe116
                                                have hv116_0 := hcc116 0 _ rfl
                                                rw [Nat.add_zero, show ((Kd.slice 3 (Kd.int .i64))).sz = 1 from rfl, Nat.mul_one] at hv116_0
                                                replace hv116_0 := Option.some.inj (hv116_0.symm.trans hx116_0)
                                                injection hv116_0 with hva_ hvn_ hvc_
                                                rw [hva_] at ge116_0
                                                rw [hvc_] at ul116_0
                                                have HL116_0 := Aside0.mk (show Kd.V (Kd.int .i64) 3 _ w.heap.size _ _ (rd_L1 x6_2 x11_3) from Kd.V_mk ul116_0 ge116_0)
                                                clear hva_ hvn_ hvc_ ge116_0 ul116_0
                                                clear hcc116 hce116
                                                have HR116_0 := Aside0.mk hi116_0
                                                have HC116_0 := Aside0.mk hl116_0
                                                clear hi116_0 hl116_0
                                                replace p116 := eq_true p116
                                                replace q116 := eq_true q116
                                                go_wp2
                                                go_meet
                                                case rel => exact ⟨_, ((((rd_L1 x6_2 x11_3).length : Int) == x8_2)), (by first | rfl | (simp; done) | (simp [*]; done)), H', ⟨by have := HJ2.out; have := HK2.out; have := HK3.out; have := HK4.out; first | omega | exact Nat.le_refl _⟩, ⟨by (try simp only [hl7_2]); (with_reducible repeat (first | apply Kd.N_alloc | apply Kd.N_drewN | apply Kd.N_drew)); exact HO_6.out⟩, ⟨by (try simp only [hl7_2]); (with_reducible repeat (first | apply Kd.R_alloc | apply Kd.R_drewN | apply Kd.R_drew)); exact HO_7.out⟩, ⟨by (try simp only [hl7_2]); (with_reducible repeat (first | apply Kd.N_alloc | apply Kd.N_drewN | apply Kd.N_drew)); exact HO_9.out⟩, ⟨by (try simp only [hl7_2]); (with_reducible repeat (first | apply Kd.R_alloc | apply Kd.R_drewN | apply Kd.R_drew)); exact HO_10.out⟩, ⟨by repeat (first | (with_reducible first | exact HB.out | apply below_alloc | apply pw_below_drewN | apply below_drew1) | exact HB.out)⟩⟩
                                              · rw [if_neg c33] at H
                                                exact absurd H (by simp)
                                            · replace c32 := Bool.eq_false_iff.mpr c32
                                              subst c32
                                              have H1 : (vespersref20_Way.j4 k4 a1 x6_2 x7_2 x8_2 x9_4 x10_4 x11_3 x12_4 false) = some (r1, r2) := by rw [if_neg (show ¬ (false = true) by decide)] at H; exact H
                                              clear H
                                              have H := H1
                                              clear H1
                                              have H' := Aside0.mk H
                                              clear H
                                              have p115 : 0 ≤ (x11_3 : Int) := of_decide_eq_true (by first | (with_reducible assumption) | assumption)
                                              have q115 : x11_3 < (x7_2.length : Int) := of_decide_eq_true (by first | (with_reducible assumption) | assumption)
                                              obtain ⟨ad115, e115, hx115_0⟩ := Kd.at_bool (Kd.R_reads' HO_7.out).2.2 x11_3 p115 q115
                                              (try rw [← Nbq31.out] at hx115_0)
                                              obtain rfl : (⟨go12, 0, none⟩ : Addr) = ad115 := (by injection e115)
                                              (first | simp only [add_plain] at hx115_0 | simp only [add_at] at hx115_0 | simp only [Addr.add, Nat.zero_add] at hx115_0 | skip)
                                              replace p115 := eq_true p115
                                              replace q115 := eq_true q115
                                              go_wp2
                                              go_meet
                                              case rel => exact ⟨_, (false), (by first | rfl | (simp; done) | (simp [*]; done)), H', ⟨by have := HJ2.out; have := HK2.out; have := HK3.out; have := HK4.out; first | omega | exact Nat.le_refl _⟩, ⟨by (try simp only [hl7_2]); (with_reducible repeat (first | apply Kd.N_alloc | apply Kd.N_drewN | apply Kd.N_drew)); exact HO_6.out⟩, ⟨by (try simp only [hl7_2]); (with_reducible repeat (first | apply Kd.R_alloc | apply Kd.R_drewN | apply Kd.R_drew)); exact HO_7.out⟩, ⟨by (try simp only [hl7_2]); (with_reducible repeat (first | apply Kd.N_alloc | apply Kd.N_drewN | apply Kd.N_drew)); exact HO_9.out⟩, ⟨by (try simp only [hl7_2]); (with_reducible repeat (first | apply Kd.R_alloc | apply Kd.R_drewN | apply Kd.R_drew)); exact HO_10.out⟩, ⟨by repeat (first | (with_reducible first | exact HB.out | apply below_alloc | apply pw_below_drewN | apply below_drew1) | exact HB.out)⟩⟩
                                          · rw [if_neg c30] at H
                                            exact absurd H (by simp)
                                        · rw [if_neg c29] at H
                                          exact absurd H (by simp)
                                      · rw [if_neg c28] at H
                                        have c28b0 : decide (x12_4 < 10) = false := decide_eq_false c28
                                        clear c28
                                        (first | rw [c28b0] | (simp only [i64_w, i32_w]; rw [c28b0]) | skip)
                                        have H' := Aside0.mk H
                                        clear H
                                        go_wp2
                                        go_meet
                                        case rel => exact ⟨_, (false), (by first | rfl | (simp; done) | (simp [*]; done)), H', ⟨by have := HJ2.out; have := HK2.out; have := HK3.out; have := HK4.out; first | omega | exact Nat.le_refl _⟩, ⟨by (try simp only [hl7_2]); (with_reducible repeat (first | apply Kd.N_alloc | apply Kd.N_drewN | apply Kd.N_drew)); exact HO_6.out⟩, ⟨by (try simp only [hl7_2]); (with_reducible repeat (first | apply Kd.R_alloc | apply Kd.R_drewN | apply Kd.R_drew)); exact HO_7.out⟩, ⟨by (try simp only [hl7_2]); (with_reducible repeat (first | apply Kd.N_alloc | apply Kd.N_drewN | apply Kd.N_drew)); exact HO_9.out⟩, ⟨by (try simp only [hl7_2]); (with_reducible repeat (first | apply Kd.R_alloc | apply Kd.R_drewN | apply Kd.R_drew)); exact HO_10.out⟩, ⟨by repeat (first | (with_reducible first | exact HB.out | apply below_alloc | apply pw_below_drewN | apply below_drew1) | exact HB.out)⟩⟩
                                    case rest =>
                                      clear HC27
                                      try clear c1
                                      try clear p1
                                      try clear q1
                                      try clear hx1
                                      try clear c2
                                      try clear p2
                                      try clear c3
                                      try clear q3
                                      try clear c4
                                      try clear c4b0
                                      try clear c5
                                      try clear c5b0
                                      try clear c6
                                      try clear c6b0
                                      try clear c7
                                      try clear c8
                                      try clear c8b0
                                      try clear c8b1
                                      try clear c9
                                      try clear c9b0
                                      try clear c9b1
                                      try clear c10
                                      try clear c10b0
                                      try clear c11
                                      try clear c11b0
                                      try clear p11
                                      try clear q11
                                      try clear hx11
                                      try clear c12
                                      try clear p12
                                      try clear q12
                                      try clear hx12
                                      try clear hf12
                                      try clear c19
                                      try clear c19b0
                                      try clear c20
                                      try clear c20b0
                                      try clear c20b1
                                      try clear c21
                                      try clear c21b0
                                      try clear c21b1
                                      try clear c26
                                      try clear c26b0
                                      try clear c28
                                      try clear c28b0
                                      try clear c29
                                      try clear c29b0
                                      try clear c30
                                      try clear c30b0
                                      try clear q31
                                      try clear c32
                                      try clear c33
                                      try clear c33b0
                                      try clear hx115_0
                                      try clear hx116_0
                                      try clear hx12_0
                                      try clear p1
                                      try clear p115
                                      try clear p116
                                      try clear p12
                                      try clear p2
                                      try clear q1
                                      try clear q115
                                      try clear q116
                                      try clear q12
                                      obtain ⟨kq, x63_26, rfl, HA, HJ26, HO_6, HO_7, HO_9, HO_10, HB⟩ := hcut
                                      cases kq with
                                      | zero => exact absurd HA.out (by simp [vespersref20_Way.j4])
                                      | succ kj26 =>
                                        have H := HA.out
                                        clear HA
                                        simp only [vespersref20_Way.j4] at H
                                        by_cases c35 : x63_26 = true
                                        · subst c35
                                          have H1 : ((vespersref20_Next.f kj26 x11_3 x12_4).bind fun bt117 => (if bt117.2 = 0 then (if 0 ≤ bt117.1 then (if bt117.1 < (x7_2.length : Int) then (vespersref20_Way.j5 kj26 a1 x6_2 x7_2 x8_2 x9_4 x10_4 x11_3 x12_4 bt117.1 (rdOf false x7_2 bt117.1)) else (none)) else (none)) else (vespersref20_Way.j5 kj26 a1 x6_2 x7_2 x8_2 x9_4 x10_4 x11_3 x12_4 bt117.1 true))) = some (r1, r2) := by rw [if_pos rfl] at H; exact H
                                          clear H
                                          have H := H1
                                          clear H1
                                          replace H := Option.bind_eq_some_iff.mp H
                                          obtain ⟨⟨t117, t118⟩, A360, H⟩ := H
                                          replace H : (if t118 = 0 then (if 0 ≤ t117 then (if t117 < (x7_2.length : Int) then (vespersref20_Way.j5 kj26 a1 x6_2 x7_2 x8_2 x9_4 x10_4 x11_3 x12_4 t117 (rdOf false x7_2 t117)) else (none)) else (none)) else (vespersref20_Way.j5 kj26 a1 x6_2 x7_2 x8_2 x9_4 x10_4 x11_3 x12_4 t117 true)) = some (r1, r2) := H
                                          have A36 := Aside0.mk A360
                                          clear A360
                                          have HC37 := Aside0.mk H
                                          clear H
                                          go_upto_region 18 with (first | ((with_reducible refine gate_callee (f := 6) rfl ?_); refine goesL_ (some 69) rfl rfl Tryd.func6 (by kernel_rfl) rfl #[.int .i64 x11_3, .int .i64 x12_4] rfl (by (try simp only [List.map_toArray, List.map_cons, List.map_nil]); first | done | rfl | (simp only [List.length_drop, List.length_take]; rfl)) ?_; (with_reducible refine (vespersref20_Next.calls kj26 x11_3 x12_4 t117 t118 _ A36.out).mono ?_); rintro e w' ⟨rfl, ⟨nd, rfl⟩⟩; refine ⟨_, rfl, ?_⟩))
                                          (try simp only [Act.put, List.setIfInBounds_toArray, List.set_cons_zero, List.set_cons_succ])
                                          go_cut [79] (fun v79 wc => ∃ (kq : Nat) (x79_36 : Bool), v79 = .bool x79_36 ∧ Aside0 (vespersref20_Way.j5 kq a1 x6_2 x7_2 x8_2 x9_4 x10_4 x11_3 x12_4 t117 x79_36 = some (r1, r2)) ∧ Aside0 (kq ≤ kj26) ∧ Aside0 (Kd.N (Kd.slice 3 (Kd.int .i64)) 22 wc w.heap.size (fun k_ => (w.heap.size ≤ k_) ∧ some k_ ≠ ((.slice (some ⟨go12, 0, none⟩) x7_2.length co12) : Value).ownBlock ∧ some k_ ≠ (v110 : Value).ownBlock ∧ some k_ ≠ (v113 : Value).ownBlock) v102 x6_2) ∧ Aside0 (Kd.R Kd.bool 4 wc w.heap.size (fun k_ => (w.heap.size ≤ k_) ∧ some k_ ≠ (v113 : Value).ownBlock) (.slice (some ⟨go12, 0, none⟩) x7_2.length co12) x7_2) ∧ Aside0 (Kd.N (Kd.slice 3 (Kd.int .i64)) 22 wc w.heap.size (fun k_ => (w.heap.size ≤ k_) ∧ some k_ ≠ (v102 : Value).ownBlock ∧ some k_ ≠ ((.slice (some ⟨go12, 0, none⟩) x7_2.length co12) : Value).ownBlock ∧ some k_ ≠ (v113 : Value).ownBlock) v110 x9_4) ∧ Aside0 (Kd.R Kd.bool 4 wc w.heap.size (fun k_ => (w.heap.size ≤ k_) ∧ some k_ ≠ ((.slice (some ⟨go12, 0, none⟩) x7_2.length co12) : Value).ownBlock) v113 x10_4) ∧ Aside0 (Below w.heap.size w wc))
                                          case first =>
                                            have H := HC37.out
                                            clear HC37
                                            by_cases c38 : t118 = 0
                                            · rw [if_pos c38] at H
                                              have c38b0 : (t118 == 0) = true := beq_iff_eq.mpr c38
                                              have c38b1 : (t118 != 0) = false := bne_eq_false_iff_eq.mpr c38
                                              clear c38
                                              (first | rw [c38b0] | (simp only [i64_w, i32_w]; rw [c38b0]) | skip)
                                              by_cases c39 : 0 ≤ t117
                                              · rw [if_pos c39] at H
                                                have c39b0 : decide (0 ≤ t117) = true := decide_eq_true c39
                                                clear c39
                                                by_cases c40 : t117 < (x7_2.length : Int)
                                                · rw [if_pos c40] at H
                                                  have c40b0 : decide (t117 < (x7_2.length : Int)) = true := decide_eq_true c40
                                                  clear c40
                                                  have H' := Aside0.mk H
                                                  clear H
                                                  have p119 : 0 ≤ (t117 : Int) := of_decide_eq_true (by first | (with_reducible assumption) | assumption)
                                                  have q119 : t117 < (x7_2.length : Int) := of_decide_eq_true (by first | (with_reducible assumption) | assumption)
                                                  obtain ⟨ad119, e119, hx119_0⟩ := Kd.at_bool (Kd.R_reads' HO_7.out).2.2 t117 p119 q119
                                                  obtain rfl : (⟨go12, 0, none⟩ : Addr) = ad119 := (by injection e119)
                                                  (first | simp only [add_plain] at hx119_0 | simp only [add_at] at hx119_0 | simp only [Addr.add, Nat.zero_add] at hx119_0 | skip)
                                                  replace p119 := eq_true p119
                                                  replace q119 := eq_true q119
                                                  go_wp2
                                                  go_meet
                                                  case rel => exact ⟨_, (rdOf false x7_2 t117), (by first | rfl | (simp; done) | (simp [*]; done)), H', ⟨by have := HJ2.out; have := HK2.out; have := HK3.out; have := HK4.out; have := HJ26.out; first | omega | exact Nat.le_refl _⟩, ⟨by (try simp only [hl7_2]); (with_reducible repeat (first | apply Kd.N_alloc | apply Kd.N_drewN | apply Kd.N_drew)); exact HO_6.out⟩, ⟨by (try simp only [hl7_2]); (with_reducible repeat (first | apply Kd.R_alloc | apply Kd.R_drewN | apply Kd.R_drew)); exact HO_7.out⟩, ⟨by (try simp only [hl7_2]); (with_reducible repeat (first | apply Kd.N_alloc | apply Kd.N_drewN | apply Kd.N_drew)); exact HO_9.out⟩, ⟨by (try simp only [hl7_2]); (with_reducible repeat (first | apply Kd.R_alloc | apply Kd.R_drewN | apply Kd.R_drew)); exact HO_10.out⟩, ⟨by repeat (first | (with_reducible first | exact HB.out | apply below_alloc | apply pw_below_drewN | apply below_drew1) | exact HB.out)⟩⟩
                                                · rw [if_neg c40] at H
                                                  exact absurd H (by simp)
                                              · rw [if_neg c39] at H
                                                exact absurd H (by simp)
                                            · rw [if_neg c38] at H
                                              have c38b0 : (t118 == 0) = false := beq_eq_false_iff_ne.mpr c38
                                              have c38b1 : (t118 != 0) = true := bne_iff_ne.mpr c38
                                              (first | rw [c38b0] | (simp only [i64_w, i32_w]; rw [c38b0]) | skip)
                                              have H' := Aside0.mk H
                                              clear H
                                              go_wp2
                                              go_meet
                                              case rel => exact ⟨_, (true), (by first | rfl | (simp; done) | (simp [*]; done)), H', ⟨by have := HJ2.out; have := HK2.out; have := HK3.out; have := HK4.out; have := HJ26.out; first | omega | exact Nat.le_refl _⟩, ⟨by (try simp only [hl7_2]); (with_reducible repeat (first | apply Kd.N_alloc | apply Kd.N_drewN | apply Kd.N_drew)); exact HO_6.out⟩, ⟨by (try simp only [hl7_2]); (with_reducible repeat (first | apply Kd.R_alloc | apply Kd.R_drewN | apply Kd.R_drew)); exact HO_7.out⟩, ⟨by (try simp only [hl7_2]); (with_reducible repeat (first | apply Kd.N_alloc | apply Kd.N_drewN | apply Kd.N_drew)); exact HO_9.out⟩, ⟨by (try simp only [hl7_2]); (with_reducible repeat (first | apply Kd.R_alloc | apply Kd.R_drewN | apply Kd.R_drew)); exact HO_10.out⟩, ⟨by repeat (first | (with_reducible first | exact HB.out | apply below_alloc | apply pw_below_drewN | apply below_drew1) | exact HB.out)⟩⟩
                                          case rest =>
                                            clear HC37
                                            try clear c1
                                            try clear p1
                                            try clear q1
                                            try clear hx1
                                            try clear c2
                                            try clear p2
                                            try clear c3
                                            try clear q3
                                            try clear c4
                                            try clear c4b0
                                            try clear c5
                                            try clear c5b0
                                            try clear c6
                                            try clear c6b0
                                            try clear c7
                                            try clear c8
                                            try clear c8b0
                                            try clear c8b1
                                            try clear c9
                                            try clear c9b0
                                            try clear c9b1
                                            try clear c10
                                            try clear c10b0
                                            try clear c11
                                            try clear c11b0
                                            try clear p11
                                            try clear q11
                                            try clear hx11
                                            try clear c12
                                            try clear p12
                                            try clear q12
                                            try clear hx12
                                            try clear hf12
                                            try clear c19
                                            try clear c19b0
                                            try clear c20
                                            try clear c20b0
                                            try clear c20b1
                                            try clear c21
                                            try clear c21b0
                                            try clear c21b1
                                            try clear c26
                                            try clear c26b0
                                            try clear c28
                                            try clear c28b0
                                            try clear c29
                                            try clear c29b0
                                            try clear c30
                                            try clear c30b0
                                            try clear q31
                                            try clear c32
                                            try clear c33
                                            try clear c33b0
                                            try clear c35
                                            try clear c38
                                            try clear c38b0
                                            try clear c38b1
                                            try clear c39
                                            try clear c39b0
                                            try clear c40
                                            try clear c40b0
                                            try clear hx115_0
                                            try clear hx116_0
                                            try clear hx119_0
                                            try clear hx12_0
                                            try clear p1
                                            try clear p11
                                            try clear p115
                                            try clear p116
                                            try clear p119
                                            try clear p12
                                            try clear p2
                                            try clear q1
                                            try clear q11
                                            try clear q115
                                            try clear q116
                                            try clear q119
                                            try clear q12
                                            try clear q3
                                            try clear q31
                                            obtain ⟨kq, x79_36, rfl, HA, HJ36, HO_6, HO_7, HO_9, HO_10, HB⟩ := hcut
                                            cases kq with
                                            | zero => exact absurd HA.out (by simp [vespersref20_Way.j5])
                                            | succ kj36 =>
                                              have H := HA.out
                                              clear HA
                                              simp only [vespersref20_Way.j5] at H
                                              by_cases c41 : x79_36 = true
                                              · subst c41
                                                have H1 : (vespersref20_Way.l2 kj36 a1 x6_2 x7_2 x8_2 x9_4 x10_4 x11_3 (wrap64 (x12_4 + 1))) = some (r1, r2) := by rw [if_pos rfl] at H; exact H
                                                clear H
                                                have H := H1
                                                clear H1
                                                have H' := Aside0.mk H
                                                clear H
                                                go_wp2
                                                go_roundg kj36
                                                case measure => have := HJ2.out; have := HK2.out; have := HK3.out; have := HK4.out; have := HJ26.out; have := HJ36.out; omega
                                                case rel => exact ⟨(x9_4), (x10_4), (wrap64 (x12_4 + 1)), (by first | rfl | (simp; done) | (simp [*]; done)), H', ⟨by have := HJ2.out; have := HK2.out; have := HK3.out; have := HK4.out; have := HJ26.out; have := HJ36.out; omega⟩, ⟨by (try simp only [hl7_2]); (with_reducible repeat (first | apply Kd.N_alloc | apply Kd.N_drewN | apply Kd.N_drew)); exact HO_6.out⟩, ⟨by (try simp only [hl7_2]); (with_reducible repeat (first | apply Kd.R_alloc | apply Kd.R_drewN | apply Kd.R_drew)); exact HO_7.out⟩, ⟨by (try simp only [hl7_2]); (with_reducible repeat (first | apply Kd.N_alloc | apply Kd.N_drewN | apply Kd.N_drew)); exact HO_9.out⟩, ⟨by (try simp only [hl7_2]); (with_reducible repeat (first | apply Kd.R_alloc | apply Kd.R_drewN | apply Kd.R_drew)); exact HO_10.out⟩, ⟨by repeat (first | (with_reducible first | exact HB.out | apply below_alloc | apply pw_below_drewN | apply below_drew1) | exact HB.out)⟩⟩
                                              · replace c41 := Bool.eq_false_iff.mpr c41
                                                subst c41
                                                have H1 : (if 0 ≤ x11_3 then (if x11_3 < (x6_2.length : Int) then (if ([] : List Int).length + (rd_L1 x6_2 x11_3).length < 17592186044416 then ((some (([] : List Int) ++ (rd_L1 x6_2 x11_3) : List Int)).bind fun y121 => (if y121.length < 17592186044416 then ((some (y121 ++ [x12_4] : List Int)).bind fun y124 => (if 0 ≤ t117 then (if t117 < (x10_4.length : Int) then (if rdOf false x10_4 t117 = true then (if t117 < (x9_4.length : Int) then ((vespersref20_less.f kj36 y124 (rd_L1 x9_4 t117)).bind fun t129 => (if t129 = true then (vespersref20_Way.l2 kj36 a1 x6_2 x7_2 x8_2 (x9_4.set (t117 : Int).toNat y124) (x10_4.set (t117 : Int).toNat true) x11_3 (wrap64 (x12_4 + 1))) else (vespersref20_Way.l2 kj36 a1 x6_2 x7_2 x8_2 x9_4 x10_4 x11_3 (wrap64 (x12_4 + 1))))) else (none)) else (if t117 < (x9_4.length : Int) then (vespersref20_Way.l2 kj36 a1 x6_2 x7_2 x8_2 (x9_4.set (t117 : Int).toNat y124) (x10_4.set (t117 : Int).toNat true) x11_3 (wrap64 (x12_4 + 1))) else (none))) else (none)) else (none))) else (none))) else (none)) else (none)) else (none)) = some (r1, r2) := by rw [if_neg (show ¬ (false = true) by decide)] at H; exact H
                                                clear H
                                                have H := H1
                                                clear H1
                                                by_cases c42 : 0 ≤ x11_3
                                                · rw [if_pos c42] at H
                                                  have c42b0 : decide (0 ≤ x11_3) = true := decide_eq_true c42
                                                  clear c42
                                                  by_cases c43 : x11_3 < (x6_2.length : Int)
                                                  · rw [if_pos c43] at H
                                                    have c43b0 : decide (x11_3 < (x6_2.length : Int)) = true := decide_eq_true c43
                                                    clear c43
                                                    by_cases c44 : ([] : List Int).length + (rd_L1 x6_2 x11_3).length < 17592186044416
                                                    · rw [if_pos c44] at H
                                                      have LMc44 := Aside0.mk c44
                                                      clear c44
                                                      obtain ⟨y121, hy121⟩ : ∃ y_ : List Int, y_ = (([] : List Int) ++ (rd_L1 x6_2 x11_3)) := ⟨_, rfl⟩
                                                      replace H : (if y121.length < 17592186044416 then ((some (y121 ++ [x12_4] : List Int)).bind fun y124 => (if 0 ≤ t117 then (if t117 < (x10_4.length : Int) then (if rdOf false x10_4 t117 = true then (if t117 < (x9_4.length : Int) then ((vespersref20_less.f kj36 y124 (rd_L1 x9_4 t117)).bind fun t129 => (if t129 = true then (vespersref20_Way.l2 kj36 a1 x6_2 x7_2 x8_2 (x9_4.set (t117 : Int).toNat y124) (x10_4.set (t117 : Int).toNat true) x11_3 (wrap64 (x12_4 + 1))) else (vespersref20_Way.l2 kj36 a1 x6_2 x7_2 x8_2 x9_4 x10_4 x11_3 (wrap64 (x12_4 + 1))))) else (none)) else (if t117 < (x9_4.length : Int) then (vespersref20_Way.l2 kj36 a1 x6_2 x7_2 x8_2 (x9_4.set (t117 : Int).toNat y124) (x10_4.set (t117 : Int).toNat true) x11_3 (wrap64 (x12_4 + 1))) else (none))) else (none)) else (none))) else (none)) = some (r1, r2) := by first | (rw [hy121]; with_reducible exact H) | (have H2_ := (Option.bind_some _ _).symm.trans H; rw [hy121]; with_reducible exact H2_) | (have H2_ := (Option.bind_some _ _).symm.trans H; with_reducible exact H2_) | with_reducible exact H | (rw [hy121]; exact H) | exact H
                                                      have Ny121 := Aside0.mk hy121
                                                      clear hy121
                                                      by_cases c45 : y121.length < 17592186044416
                                                      · rw [if_pos c45] at H
                                                        have LMc45 := Aside0.mk c45
                                                        clear c45
                                                        obtain ⟨y124, hy124⟩ : ∃ y_ : List Int, y_ = (y121 ++ [x12_4]) := ⟨_, rfl⟩
                                                        replace H : (if 0 ≤ t117 then (if t117 < (x10_4.length : Int) then (if rdOf false x10_4 t117 = true then (if t117 < (x9_4.length : Int) then ((vespersref20_less.f kj36 y124 (rd_L1 x9_4 t117)).bind fun t129 => (if t129 = true then (vespersref20_Way.l2 kj36 a1 x6_2 x7_2 x8_2 (x9_4.set (t117 : Int).toNat y124) (x10_4.set (t117 : Int).toNat true) x11_3 (wrap64 (x12_4 + 1))) else (vespersref20_Way.l2 kj36 a1 x6_2 x7_2 x8_2 x9_4 x10_4 x11_3 (wrap64 (x12_4 + 1))))) else (none)) else (if t117 < (x9_4.length : Int) then (vespersref20_Way.l2 kj36 a1 x6_2 x7_2 x8_2 (x9_4.set (t117 : Int).toNat y124) (x10_4.set (t117 : Int).toNat true) x11_3 (wrap64 (x12_4 + 1))) else (none))) else (none)) else (none)) = some (r1, r2) := by first | (rw [hy124]; with_reducible exact H) | (have H2_ := (Option.bind_some _ _).symm.trans H; rw [hy124]; with_reducible exact H2_) | (have H2_ := (Option.bind_some _ _).symm.trans H; with_reducible exact H2_) | with_reducible exact H | (rw [hy124]; exact H) | exact H
                                                        have Ny124 := Aside0.mk hy124
                                                        clear hy124
                                                        by_cases c46 : 0 ≤ t117
                                                        · rw [if_pos c46] at H
                                                          have c46b0 : decide (0 ≤ t117) = true := decide_eq_true c46
                                                          clear c46
                                                          by_cases c47 : t117 < (x10_4.length : Int)
                                                          · rw [if_pos c47] at H
                                                            have c47b0 : decide (t117 < (x10_4.length : Int)) = true := decide_eq_true c47
                                                            clear c47
                                                            obtain ⟨bq48, hbq48⟩ : ∃ b_ : Bool, b_ = (rdOf false x10_4 t117) := ⟨_, rfl⟩
                                                            replace H : (if bq48 = true then (if t117 < (x9_4.length : Int) then ((vespersref20_less.f kj36 y124 (rd_L1 x9_4 t117)).bind fun t129 => (if t129 = true then (vespersref20_Way.l2 kj36 a1 x6_2 x7_2 x8_2 (x9_4.set (t117 : Int).toNat y124) (x10_4.set (t117 : Int).toNat true) x11_3 (wrap64 (x12_4 + 1))) else (vespersref20_Way.l2 kj36 a1 x6_2 x7_2 x8_2 x9_4 x10_4 x11_3 (wrap64 (x12_4 + 1))))) else (none)) else (if t117 < (x9_4.length : Int) then (vespersref20_Way.l2 kj36 a1 x6_2 x7_2 x8_2 (x9_4.set (t117 : Int).toNat y124) (x10_4.set (t117 : Int).toNat true) x11_3 (wrap64 (x12_4 + 1))) else (none))) = some (r1, r2) := by rw [← hbq48] at H; exact H
                                                            have Nbq48 := Aside0.mk hbq48
                                                            clear hbq48
                                                            by_cases c49 : bq48 = true
                                                            · subst c49
                                                              have H1 : (if t117 < (x9_4.length : Int) then ((vespersref20_less.f kj36 y124 (rd_L1 x9_4 t117)).bind fun t129 => (if t129 = true then (vespersref20_Way.l2 kj36 a1 x6_2 x7_2 x8_2 (x9_4.set (t117 : Int).toNat y124) (x10_4.set (t117 : Int).toNat true) x11_3 (wrap64 (x12_4 + 1))) else (vespersref20_Way.l2 kj36 a1 x6_2 x7_2 x8_2 x9_4 x10_4 x11_3 (wrap64 (x12_4 + 1))))) else (none)) = some (r1, r2) := by rw [if_pos rfl] at H; exact H
                                                              clear H
                                                              have H := H1
                                                              clear H1
                                                              by_cases c50 : t117 < (x9_4.length : Int)
                                                              · rw [if_pos c50] at H
                                                                have c50b0 : decide (t117 < (x9_4.length : Int)) = true := decide_eq_true c50
                                                                clear c50
                                                                replace H := Option.bind_eq_some_iff.mp H
                                                                obtain ⟨t129, A510, H⟩ := H
                                                                replace H : (if t129 = true then (vespersref20_Way.l2 kj36 a1 x6_2 x7_2 x8_2 (x9_4.set (t117 : Int).toNat y124) (x10_4.set (t117 : Int).toNat true) x11_3 (wrap64 (x12_4 + 1))) else (vespersref20_Way.l2 kj36 a1 x6_2 x7_2 x8_2 x9_4 x10_4 x11_3 (wrap64 (x12_4 + 1)))) = some (r1, r2) := H
                                                                have A51 := Aside0.mk A510
                                                                clear A510
                                                                by_cases c52 : t129 = true
                                                                · subst c52
                                                                  have H1 : (vespersref20_Way.l2 kj36 a1 x6_2 x7_2 x8_2 (x9_4.set (t117 : Int).toNat y124) (x10_4.set (t117 : Int).toNat true) x11_3 (wrap64 (x12_4 + 1))) = some (r1, r2) := by rw [if_pos rfl] at H; exact H
                                                                  clear H
                                                                  have H := H1
                                                                  clear H1
                                                                  obtain ⟨y130, hy130⟩ : ∃ y_ : List (List Int), y_ = (x9_4.set (t117 : Int).toNat y124) := ⟨_, rfl⟩
                                                                  replace H : (vespersref20_Way.l2 kj36 a1 x6_2 x7_2 x8_2 y130 (x10_4.set (t117 : Int).toNat true) x11_3 (wrap64 (x12_4 + 1))) = some (r1, r2) := by first | (rw [hy130]; with_reducible exact H) | (have H2_ := (Option.bind_some _ _).symm.trans H; rw [hy130]; with_reducible exact H2_) | (have H2_ := (Option.bind_some _ _).symm.trans H; with_reducible exact H2_) | with_reducible exact H | (rw [hy130]; exact H) | exact H
                                                                  have Ny130 := Aside0.mk hy130
                                                                  clear hy130
                                                                  obtain ⟨y131, hy131⟩ : ∃ y_ : List Bool, y_ = (x10_4.set (t117 : Int).toNat true) := ⟨_, rfl⟩
                                                                  replace H : (vespersref20_Way.l2 kj36 a1 x6_2 x7_2 x8_2 y130 y131 x11_3 (wrap64 (x12_4 + 1))) = some (r1, r2) := by first | (rw [hy131]; with_reducible exact H) | (have H2_ := (Option.bind_some _ _).symm.trans H; rw [hy131]; with_reducible exact H2_) | (have H2_ := (Option.bind_some _ _).symm.trans H; with_reducible exact H2_) | with_reducible exact H | (rw [hy131]; exact H) | exact H
                                                                  have Ny131 := Aside0.mk hy131
                                                                  clear hy131
                                                                  have H' := Aside0.mk H
                                                                  clear H
                                                                  obtain ⟨Ao55, co55, eo55⟩ := Kd.N_slice HO_6.out
                                                                  subst eo55
                                                                  have p120 : 0 ≤ (x11_3 : Int) := of_decide_eq_true (by first | (with_reducible assumption) | assumption)
                                                                  have q120 : x11_3 < (x6_2.length : Int) := of_decide_eq_true (by first | (with_reducible assumption) | assumption)
                                                                  obtain ⟨ad120, A120_0, c120_0, e120, hx120_0, hl120_0, hi120_0⟩ := at_L1 (Kd.N_reads' HO_6.out).2.2 x11_3 p120 q120
                                                                  cases e120
                                                                  obtain ⟨ce120, hce120, hMe120, hcc120⟩ := Kd.N_get HO_6.out [] x11_3 p120 (by first | exact q120 | exact of_decide_eq_true (by first | (with_reducible assumption) | assumption) | (have e_ := (Kd.N_reads' HO_6.out).1; omega))
                                                                  obtain ⟨ua120_0, uc120_0, rfl, ul120_0, ge120_0⟩ := Kd.FK_slice_open hMe120
                                                                  have hv120_0 := hcc120 0 _ rfl
                                                                  rw [Nat.add_zero, show ((Kd.slice 3 (Kd.int .i64))).sz = 1 from rfl, Nat.mul_one] at hv120_0
                                                                  replace hv120_0 := Option.some.inj (hv120_0.symm.trans hx120_0)
                                                                  injection hv120_0 with hva_ hvn_ hvc_
                                                                  rw [hva_] at ge120_0
                                                                  rw [hvc_] at ul120_0
                                                                  have HL120_0 := Aside0.mk (show Kd.V (Kd.int .i64) 3 _ w.heap.size _ _ (rd_L1 x6_2 x11_3) from Kd.V_mk ul120_0 ge120_0)
                                                                  clear hva_ hvn_ hvc_ ge120_0 ul120_0
                                                                  clear hcc120 hce120
                                                                  have HR120_0 := Aside0.mk hi120_0
                                                                  have HC120_0 := Aside0.mk hl120_0
                                                                  clear hi120_0 hl120_0
                                                                  replace p120 := eq_true p120
                                                                  replace q120 := eq_true q120
                                                                  go_wp2_with (first | ((with_reducible refine gate_builtin (b := .append) (xs := #[.tmp 80, .tmp 84]) rfl ?_); (try (refine gate_guard (by rfl) ?_; dsimp only)); at_builtin; refine Kd.R_append_rows (Kd.int .i64) (w0 := w) w.heap.size rfl (.tmp 80) (.tmp 84) 22 3 (.int .i64 0) 8 rfl Tryd.underlying22 info3 rfl (by decide) (by omega) (.slice none 0 0) ([] : List Int) (rd_L1 x6_2 x11_3) _ _ _ (fun k_ => (w.heap.size ≤ k_)) (fun _ => False) rfl rfl ?aO ?aR (fun _ _ h => h) (fun _ h => h.elim) ?aF ?aB ?aS ?aL ?_; (case aR => repeat (first | exact (by repeat (first | (with_reducible exact HR120_0.out) | (with_reducible refine Kd.C_alloc ?_ _) | (with_reducible refine Kd.C_drewN ?_ _) | (with_reducible refine Kd.C_drew ?_) | exact HR120_0.out)) | (with_reducible refine Kd.C_alloc ?_ _) | (with_reducible refine Kd.C_drewN ?_ _) | (with_reducible refine Kd.C_drew ?_))); (case aB => exact (by repeat (first | (with_reducible first | exact HB.out | apply below_alloc | apply pw_below_drewN | apply below_drew1) | exact HB.out))); (case aF => exact (fun k_ hk => (Nat.le_trans (below_size (by repeat (first | (with_reducible first | exact HB.out | apply below_alloc | apply pw_below_drewN | apply below_drew1) | exact HB.out))) hk))); (case aO => exact ((Kd.R_nil _ _ _ _ (fun k_ => (w.heap.size ≤ k_))))); (case aS => exact (below_size (by repeat (first | (with_reducible first | exact HB.out | apply below_alloc | apply pw_below_drewN | apply below_drew1) | exact HB.out)))); (case aL => have := LMc44.out; omega); intro v122 w56 ho hb hg hat; rw [← Ny121.out] at ho; have n0_ := Aside0.mk (Kd.N_afterv (Kd.N_apart_nil (by (with_reducible repeat (first | apply Kd.N_alloc | apply Kd.N_drewN | apply Kd.N_drew)); exact HO_6.out)) hg hat); have n1_ := Aside0.mk (Kd.R_grown (by (with_reducible repeat (first | apply Kd.R_alloc | apply Kd.R_drewN | apply Kd.R_drew)); exact HO_7.out) hg (fun _ _ => by simp [Value.ownBlock])); have n2_ := Aside0.mk (Kd.N_afterv (Kd.N_apart_nil (by (with_reducible repeat (first | apply Kd.N_alloc | apply Kd.N_drewN | apply Kd.N_drew)); exact HO_9.out)) hg hat); have n3_ := Aside0.mk (Kd.R_grown (by (with_reducible repeat (first | apply Kd.R_alloc | apply Kd.R_drewN | apply Kd.R_drew)); exact HO_10.out) hg (fun _ _ => by simp [Value.ownBlock])); have n4_ := Aside0.mk (Kd.V_afterv (Kd.V_apart_nil (by (with_reducible repeat (first | apply Kd.V_alloc | apply Kd.V_drewN | apply Kd.V_drew)); exact HL120_0.out)) hg hat); have n5_ := Aside0.mk (hb); have n6_ := Aside0.mk (ho); clear HO_6; clear HO_7; clear HO_9; clear HO_10; clear HL120_0; clear HB; have HO_6 := n0_; have HO_7 := n1_; have HO_9 := n2_; have HO_10 := n3_; have HL120_0 := n4_; have HB := n5_; have HO123 := n6_; clear n0_ n1_ n2_ n3_ n4_ n5_ n6_; clear ho hb hg hat) | ((with_reducible refine gate_builtin (b := .append) (xs := #[.tmp 85, .tmp 87]) rfl ?_); (try (refine gate_guard (by rfl) ?_; dsimp only)); at_builtin; refine Kd.R_append (Kd.int .i64) (w0 := w) w.heap.size rfl (.tmp 85) (.tmp 87) 22 3 (.int .i64 0) 8 rfl Tryd.underlying22 info3 rfl (by decide) (by omega) v122 y121 x12_4 [.int .i64 x12_4] (fun k_ => (w.heap.size ≤ k_)) (fun _ => False) rfl rfl ?aP (fun _ hk => hk.elim) ?aF ?aO ?aB ?aS ?aL ?_; (case aP => exact rfl); (case aB => exact (by repeat (first | (with_reducible first | exact HB.out | apply below_alloc | apply pw_below_drewN | apply below_drew1) | exact HB.out))); (case aF => exact (fun k_ hk => (Nat.le_trans (below_size (by repeat (first | (with_reducible first | exact HB.out | apply below_alloc | apply pw_below_drewN | apply below_drew1) | exact HB.out))) hk))); (case aO => exact (by (with_reducible repeat (first | apply Kd.R_alloc | apply Kd.R_drewN | apply Kd.R_drew)); exact HO123.out)); (case aS => exact (below_size (by repeat (first | (with_reducible first | exact HB.out | apply below_alloc | apply pw_below_drewN | apply below_drew1) | exact HB.out)))); (case aL => have := LMc45.out; omega); intro v125 w57 ho hb hg hat; rw [← Ny124.out] at ho; have n0_ := Aside0.mk (Kd.N_afterv (ok := (fun k_ => (w.heap.size ≤ k_) ∧ some k_ ≠ (.slice (some ⟨go12, 0, none⟩) x7_2.length co12 : Value).ownBlock ∧ some k_ ≠ (v110 : Value).ownBlock ∧ some k_ ≠ (v113 : Value).ownBlock)) (by (with_reducible repeat (first | apply Kd.N_alloc | apply Kd.N_drewN | apply Kd.N_drew)); exact HO_6.out) hg hat); have n1_ := Aside0.mk (Kd.R_over' (by (with_reducible repeat (first | apply Kd.R_alloc | apply Kd.R_drewN | apply Kd.R_drew)); exact HO_7.out) (Kd.R_typed (by (with_reducible repeat (first | apply Kd.R_alloc | apply Kd.R_drewN | apply Kd.R_drew)); exact HO123.out)) (by decide) hg); have n2_ := Aside0.mk (Kd.N_afterv (ok := (fun k_ => (w.heap.size ≤ k_) ∧ some k_ ≠ (.slice (some ad120) x6_2.length co55 : Value).ownBlock ∧ some k_ ≠ (.slice (some ⟨go12, 0, none⟩) x7_2.length co12 : Value).ownBlock ∧ some k_ ≠ (v113 : Value).ownBlock)) (by (with_reducible repeat (first | apply Kd.N_alloc | apply Kd.N_drewN | apply Kd.N_drew)); exact HO_9.out) hg hat); have n3_ := Aside0.mk (Kd.R_over' (by (with_reducible repeat (first | apply Kd.R_alloc | apply Kd.R_drewN | apply Kd.R_drew)); exact HO_10.out) (Kd.R_typed (by (with_reducible repeat (first | apply Kd.R_alloc | apply Kd.R_drewN | apply Kd.R_drew)); exact HO123.out)) (by decide) hg); have n4_ := Aside0.mk (Kd.V_afterv (ok := (fun k_ => (w.heap.size ≤ k_) ∧ some k_ ≠ (.slice (some ad120) x6_2.length co55 : Value).ownBlock ∧ some k_ ≠ (.slice (some ⟨go12, 0, none⟩) x7_2.length co12 : Value).ownBlock ∧ some k_ ≠ (v110 : Value).ownBlock ∧ some k_ ≠ (v113 : Value).ownBlock)) (by (with_reducible repeat (first | apply Kd.V_alloc | apply Kd.V_drewN | apply Kd.V_drew)); exact Kd.V_mono HL120_0.out (fun _ hk => by first | exact ⟨⟨hk.1.1.1, ⟨hk.1.2, ⟨hk.1.1.2.1, ⟨hk.1.1.2.2.1, hk.1.1.2.2.2⟩⟩⟩⟩, hk.2⟩ | (simp only [and_assoc] at hk ⊢; (repeat' apply And.intro) <;> first | exact hk.1 | exact hk.2.1 | exact hk.2.2.1 | exact hk.2.2.2.1 | exact hk.2.2.2.2.1 | exact hk.2.2.2.2.2.1 | exact hk.2 | exact hk.2.2 | exact hk.2.2.2 | exact hk.2.2.2.2 | exact hk.2.2.2.2.2 | exact hk.2.2.2.2.2.2))) hg hat); have n5_ := Aside0.mk (hb); have n6_ := Aside0.mk (ho); clear HO_6; clear HO_7; clear HO_9; clear HO_10; clear HL120_0; clear HB; clear HO123; have HO_6 := n0_; have HO_7 := n1_; have HO_9 := n2_; have HO_10 := n3_; have HL120_0 := n4_; have HB := n5_; have HO126 := n6_; clear n0_ n1_ n2_ n3_ n4_ n5_ n6_; clear ho hb hg hat; obtain ⟨Ao58, co58, eo58⟩ := Kd.R_slice HO_10.out; subst eo58; have p127 : 0 ≤ (t117 : Int) := of_decide_eq_true (by first | (with_reducible assumption) | assumption); have q127 : t117 < (x10_4.length : Int) := of_decide_eq_true (by first | (with_reducible assumption) | assumption); obtain ⟨ad127, e127, hx127_0⟩ := Kd.at_bool (Kd.R_reads' HO_10.out).2.2 t117 p127 q127; (try rw [← Nbq48.out] at hx127_0); cases e127; replace p127 := eq_true p127; replace q127 := eq_true q127; obtain ⟨Ao59, co59, eo59⟩ := Kd.N_slice HO_9.out; subst eo59; have p128 : 0 ≤ (t117 : Int) := of_decide_eq_true (by first | (with_reducible assumption) | assumption); have q128 : t117 < (x9_4.length : Int) := of_decide_eq_true (by first | (with_reducible assumption) | assumption); obtain ⟨ad128, A128_0, c128_0, e128, hx128_0, hl128_0, hi128_0⟩ := at_L1 (Kd.N_reads' HO_9.out).2.2 t117 p128 q128; cases e128; obtain ⟨ce128, hce128, hMe128, hcc128⟩ := Kd.N_get HO_9.out [] t117 p128 (by first | exact q128 | exact of_decide_eq_true (by first | (with_reducible assumption) | assumption) | (have e_ := (Kd.N_reads' HO_9.out).1; omega)); obtain ⟨ua128_0, uc128_0, rfl, ul128_0, ge128_0⟩ := Kd.FK_slice_open hMe128; have hv128_0 := hcc128 0 _ rfl; rw [Nat.add_zero, show ((Kd.slice 3 (Kd.int .i64))).sz = 1 from rfl, Nat.mul_one] at hv128_0; replace hv128_0 := Option.some.inj (hv128_0.symm.trans hx128_0); injection hv128_0 with hva_ hvn_ hvc_; rw [hva_] at ge128_0; rw [hvc_] at ul128_0; have HL128_0 := Aside0.mk (show Kd.V (Kd.int .i64) 3 _ w.heap.size _ _ (rd_L1 x9_4 t117) from Kd.V_mk ul128_0 ge128_0); clear hva_ hvn_ hvc_ ge128_0 ul128_0; clear hcc128 hce128; have HR128_0 := Aside0.mk hi128_0; have HC128_0 := Aside0.mk hl128_0; clear hi128_0 hl128_0; replace p128 := eq_true p128; replace q128 := eq_true q128; obtain ⟨Ao60, co60, eo60⟩ := Kd.R_slice HO126.out; subst eo60) | (go_at_call 27; (with_reducible refine (vespersref20_less.calls kj36 _ _ y124 _ _ (rd_L1 x9_4 t117) true _ ?side1 ?side2 ?side3 ?side4 A51.out).mono ?_); (case side1 => repeat (first | exact (Kd.R_reads' HO126.out).2.2 | (with_reducible refine Kd.C_alloc ?_ _) | (with_reducible refine Kd.C_drewN ?_ _) | (with_reducible refine Kd.C_drew ?_))); (case side2 => exact (Kd.R_reads' HO126.out).2.1); (case side3 => repeat (first | exact (by repeat (first | (with_reducible exact HR128_0.out) | (with_reducible refine Kd.C_alloc ?_ _) | (with_reducible refine Kd.C_drewN ?_ _) | (with_reducible refine Kd.C_drew ?_) | exact HR128_0.out)) | (with_reducible refine Kd.C_alloc ?_ _) | (with_reducible refine Kd.C_drewN ?_ _) | (with_reducible refine Kd.C_drew ?_))); (case side4 => exact HC128_0.out); rintro e w' ⟨rfl, ⟨nd, rfl⟩⟩; (try (rw [drewN_self w57]; generalize hq_ : World.drewN w57 _ = w57; have n0_ : Aside0 (Kd.V (Kd.int .i64) 3 w57 w.heap.size (fun k_ => (w.heap.size ≤ k_) ∧ some k_ ≠ (.slice Ao60 y124.length co60 : Value).ownBlock ∧ some k_ ≠ (.slice (some ad127) x10_4.length co58 : Value).ownBlock ∧ some k_ ≠ (.slice (some ad120) x6_2.length co55 : Value).ownBlock ∧ some k_ ≠ (.slice (some ⟨go12, 0, none⟩) x7_2.length co12 : Value).ownBlock ∧ some k_ ≠ (.slice (some ad128) x9_4.length co59 : Value).ownBlock) (.slice A120_0 (rd_L1 x6_2 x11_3).length c120_0) (rd_L1 x6_2 x11_3)) := ⟨by rw [← hq_]; exact (by (with_reducible repeat (first | apply Kd.V_alloc | apply Kd.V_drewN | apply Kd.V_drew)); exact Kd.V_mono HL120_0.out (fun _ hk => by first | exact ⟨hk.1.1, ⟨hk.2, ⟨hk.1.2.2.2.2, ⟨hk.1.2.1, ⟨hk.1.2.2.1, hk.1.2.2.2.1⟩⟩⟩⟩⟩ | (simp only [and_assoc] at hk ⊢; (repeat' apply And.intro) <;> first | exact hk.1 | exact hk.2.1 | exact hk.2.2.1 | exact hk.2.2.2.1 | exact hk.2.2.2.2.1 | exact hk.2.2.2.2.2.1 | exact hk.2 | exact hk.2.2 | exact hk.2.2.2 | exact hk.2.2.2.2 | exact hk.2.2.2.2.2 | exact hk.2.2.2.2.2.2)))⟩; have n1_ : Aside0 (Kd.V (Kd.int .i64) 3 w57 w.heap.size (fun k_ => (w.heap.size ≤ k_) ∧ some k_ ≠ (.slice Ao60 y124.length co60 : Value).ownBlock ∧ some k_ ≠ (.slice (some ad127) x10_4.length co58 : Value).ownBlock ∧ some k_ ≠ (.slice (some ad120) x6_2.length co55 : Value).ownBlock ∧ some k_ ≠ (.slice (some ⟨go12, 0, none⟩) x7_2.length co12 : Value).ownBlock ∧ some k_ ≠ (.slice (some ad128) x9_4.length co59 : Value).ownBlock) (.slice A128_0 (rd_L1 x9_4 t117).length c128_0) (rd_L1 x9_4 t117)) := ⟨by rw [← hq_]; exact (by (with_reducible repeat (first | apply Kd.V_alloc | apply Kd.V_drewN | apply Kd.V_drew)); exact Kd.V_mono HL128_0.out (fun _ hk => by first | exact ⟨hk.1.1.1, ⟨hk.1.2, ⟨hk.1.1.2.2.2, ⟨hk.1.1.2.1, ⟨hk.1.1.2.2.1, hk.2⟩⟩⟩⟩⟩ | (simp only [and_assoc] at hk ⊢; (repeat' apply And.intro) <;> first | exact hk.1 | exact hk.2.1 | exact hk.2.2.1 | exact hk.2.2.2.1 | exact hk.2.2.2.2.1 | exact hk.2.2.2.2.2.1 | exact hk.2 | exact hk.2.2 | exact hk.2.2.2 | exact hk.2.2.2.2 | exact hk.2.2.2.2.2 | exact hk.2.2.2.2.2.2)))⟩; have n2_ : Aside0 (Kd.R (Kd.int .i64) 3 w57 w.heap.size (fun k_ => (w.heap.size ≤ k_)) (.slice Ao60 y124.length co60) y124) := ⟨by rw [← hq_]; exact (by (with_reducible repeat (first | apply Kd.R_alloc | apply Kd.R_drewN | apply Kd.R_drew)); exact HO126.out)⟩; have n3_ : Aside0 (Kd.R Kd.bool 4 w57 w.heap.size (fun k_ => (w.heap.size ≤ k_) ∧ some k_ ≠ (.slice (some ⟨go12, 0, none⟩) x7_2.length co12 : Value).ownBlock) (.slice (some ad127) x10_4.length co58) x10_4) := ⟨by rw [← hq_]; exact (by (with_reducible repeat (first | apply Kd.R_alloc | apply Kd.R_drewN | apply Kd.R_drew)); exact HO_10.out)⟩; have n4_ : Aside0 (Kd.N (Kd.slice 3 (Kd.int .i64)) 22 w57 w.heap.size (fun k_ => (w.heap.size ≤ k_) ∧ some k_ ≠ (.slice Ao60 y124.length co60 : Value).ownBlock ∧ some k_ ≠ (.slice (some ad127) x10_4.length co58 : Value).ownBlock ∧ some k_ ≠ (.slice (some ⟨go12, 0, none⟩) x7_2.length co12 : Value).ownBlock ∧ some k_ ≠ (.slice (some ad128) x9_4.length co59 : Value).ownBlock) (.slice (some ad120) x6_2.length co55) x6_2) := ⟨by rw [← hq_]; exact (by (with_reducible repeat (first | apply Kd.N_alloc | apply Kd.N_drewN | apply Kd.N_drew)); exact Kd.N_mono HO_6.out (fun _ hk => by first | exact ⟨hk.1.1, ⟨hk.2, ⟨hk.1.2.2.2, ⟨hk.1.2.1, hk.1.2.2.1⟩⟩⟩⟩ | (simp only [and_assoc] at hk ⊢; (repeat' apply And.intro) <;> first | exact hk.1 | exact hk.2.1 | exact hk.2.2.1 | exact hk.2.2.2.1 | exact hk.2.2.2.2.1 | exact hk.2.2.2.2.2.1 | exact hk.2 | exact hk.2.2 | exact hk.2.2.2 | exact hk.2.2.2.2 | exact hk.2.2.2.2.2 | exact hk.2.2.2.2.2.2)))⟩; have n5_ : Aside0 (Kd.R Kd.bool 4 w57 w.heap.size (fun k_ => (w.heap.size ≤ k_) ∧ some k_ ≠ (.slice (some ad127) x10_4.length co58 : Value).ownBlock) (.slice (some ⟨go12, 0, none⟩) x7_2.length co12) x7_2) := ⟨by rw [← hq_]; exact (by (with_reducible repeat (first | apply Kd.R_alloc | apply Kd.R_drewN | apply Kd.R_drew)); exact HO_7.out)⟩; have n6_ : Aside0 (Kd.N (Kd.slice 3 (Kd.int .i64)) 22 w57 w.heap.size (fun k_ => (w.heap.size ≤ k_) ∧ some k_ ≠ (.slice Ao60 y124.length co60 : Value).ownBlock ∧ some k_ ≠ (.slice (some ad127) x10_4.length co58 : Value).ownBlock ∧ some k_ ≠ (.slice (some ad120) x6_2.length co55 : Value).ownBlock ∧ some k_ ≠ (.slice (some ⟨go12, 0, none⟩) x7_2.length co12 : Value).ownBlock) (.slice (some ad128) x9_4.length co59) x9_4) := ⟨by rw [← hq_]; exact (by (with_reducible repeat (first | apply Kd.N_alloc | apply Kd.N_drewN | apply Kd.N_drew)); exact Kd.N_mono HO_9.out (fun _ hk => by first | exact ⟨hk.1.1, ⟨hk.2, ⟨hk.1.2.2.2, ⟨hk.1.2.1, hk.1.2.2.1⟩⟩⟩⟩ | (simp only [and_assoc] at hk ⊢; (repeat' apply And.intro) <;> first | exact hk.1 | exact hk.2.1 | exact hk.2.2.1 | exact hk.2.2.2.1 | exact hk.2.2.2.2.1 | exact hk.2.2.2.2.2.1 | exact hk.2 | exact hk.2.2 | exact hk.2.2.2 | exact hk.2.2.2.2 | exact hk.2.2.2.2.2 | exact hk.2.2.2.2.2.2)))⟩; have n7_ : Aside0 (Below w.heap.size w w57) := ⟨by rw [← hq_]; exact (by repeat (first | (with_reducible first | exact HB.out | apply below_alloc | apply pw_below_drewN | apply below_drew1) | exact HB.out))⟩; have n8_ : Aside0 (Kd.C (Kd.int .i64) w57 A128_0 (rd_L1 x9_4 t117).length (rd_L1 x9_4 t117)) := ⟨by rw [← hq_]; exact (by repeat (first | (with_reducible exact HR128_0.out) | (with_reducible refine Kd.C_alloc ?_ _) | (with_reducible refine Kd.C_drewN ?_ _) | (with_reducible refine Kd.C_drew ?_) | exact HR128_0.out))⟩; clear HL120_0 HL128_0 HO126 HO_10 HO_6 HO_7 HO_9 HB HR128_0 hq_; have HL120_0 := n0_; have HL128_0 := n1_; have HO126 := n2_; have HO_10 := n3_; have HO_6 := n4_; have HO_7 := n5_; have HO_9 := n6_; have HB := n7_; have HR128_0 := n8_; clear n0_ n1_ n2_ n3_ n4_ n5_ n6_ n7_ n8_)); have p53 : 0 ≤ (t117 : Int) := of_decide_eq_true (by first | (with_reducible assumption) | assumption); have q53 : (t117 : Int) < ((x9_4.length : Int) : Int) := of_decide_eq_true (by first | (with_reducible assumption) | assumption); obtain ⟨go53, co53, eo53, gb53, gl53, cl53, HG53⟩ := Kd.N_form HO_9.out (by omega); (first | cases eo53 | (injection eo53 with ea_ en_ ec_; (first | subst ea_ | (injection ea_ with ea_; subst ea_)); subst ec_; clear en_)); have GB53 := Aside0.mk gb53; have GG53 := Aside0.mk HG53; clear gb53 gl53 HG53; (first | simp only [add_plain] at hx128_0 | skip); obtain ⟨ce53, hcl53, hM53, hcc53, hfr53⟩ := Kd.N_elem HO_9.out [] (t117 : Int) p53 q53; obtain ⟨ua53_0, uc53_0, rfl, ul53_0, ge53_0⟩ := Kd.FK_slice_open hM53; have hx53_0 := hcc53 0 _ rfl; have hf53_0 := hfr53 0; (try simp only [show ((Kd.slice 3 (Kd.int .i64))).sz = 1 from rfl, Nat.mul_one, Nat.add_zero] at hx53_0); (try simp only [show ((Kd.slice 3 (Kd.int .i64))).sz = 1 from rfl, Nat.mul_one, Nat.add_zero] at hf53_0); clear hcl53 hcc53 hfr53 hM53; replace p53 := eq_true p53; replace q53 := eq_true q53; have n_ := Aside0.mk (Kd.N_mono (ok' := (fun k_ => (w.heap.size ≤ k_) ∧ some k_ ≠ (.slice (some ad120) x6_2.length co55 : Value).ownBlock ∧ some k_ ≠ (.slice (some ⟨go12, 0, none⟩) x7_2.length co12 : Value).ownBlock ∧ some k_ ≠ (.slice (some ad127) x10_4.length co58 : Value).ownBlock ∧ some k_ ≠ (.slice Ao60 y124.length co60 : Value).ownBlock)) HO_9.out (fun k_ hk => by first | exact ⟨hk.1.1, ⟨hk.1.2.1, ⟨hk.1.2.2.1, ⟨hk.1.2.2.2, hk.2⟩⟩⟩⟩ | exact hk | (refine ⟨?_, ?_, ?_, ?_, ?_⟩ <;> first | exact hk.1 | exact hk.2.1 | exact hk.2.2.1 | exact hk.2.2.2.1 | exact hk.2.2.2.2))); clear HO_9; have HO_9 := n_; clear n_; have HX61 := Aside0.mk (show Kd.N (Kd.slice 3 (Kd.int .i64)) 22 w57 w.heap.size (fun k_ => (w.heap.size ≤ k_) ∧ some k_ ≠ (.slice (some ad120) x6_2.length co55 : Value).ownBlock ∧ some k_ ≠ (.slice (some ⟨go12, 0, none⟩) x7_2.length co12 : Value).ownBlock ∧ some k_ ≠ (.slice (some ad127) x10_4.length co58 : Value).ownBlock) (.slice (some ⟨go53, 0, none⟩) x9_4.length co59) x9_4 from (by (with_reducible repeat (first | apply Kd.N_alloc | apply Kd.N_drewN | apply Kd.N_drew)); exact Kd.N_mono HO_9.out (fun _ hk => by first | exact ⟨hk.1, ⟨hk.2.1, ⟨hk.2.2.1, hk.2.2.2.1⟩⟩⟩ | (simp only [and_assoc] at hk ⊢; (repeat' apply And.intro) <;> first | exact hk.1 | exact hk.2.1 | exact hk.2.2.1 | exact hk.2.2.2.1 | exact hk.2.2.2.2.1 | exact hk.2.2.2.2.2.1 | exact hk.2 | exact hk.2.2 | exact hk.2.2.2 | exact hk.2.2.2.2 | exact hk.2.2.2.2.2 | exact hk.2.2.2.2.2.2)))); obtain ⟨ce61, hcl61, hM61, hcc61, hfr61⟩ := Kd.N_elem HX61.out [] (t117 : Int) (of_decide_eq_true (by first | (with_reducible assumption) | assumption)) (by have h_ : (t117 : Int) < ((x9_4.length : Int) : Int) := of_decide_eq_true (by first | (with_reducible assumption) | assumption); first | exact h_ | (have e_ := (Kd.N_reads' HO_9.out).1; omega) | simpa using h_); obtain ⟨ua61_0, uc61_0, rfl, ul61_0, ge61_0⟩ := Kd.FK_slice_open hM61; have HP61 := Kd.N_seg HX61.out (t117 : Int) (of_decide_eq_true (by first | (with_reducible assumption) | assumption)) (by have h_ : (t117 : Int) < ((x9_4.length : Int) : Int) := of_decide_eq_true (by first | (with_reducible assumption) | assumption); first | exact h_ | (have e_ := (Kd.N_reads' HO_9.out).1; omega) | simpa using h_) (seg := [.slice Ao60 y124.length co60]) (j := 0) hcl61 hcc61 (show 1 ≤ 1 from by decide) (x' := y124) (Kd.FK_slice_mk (Kd.R_reads' (Kd.R_mono (ok' := (fun k_ => ((fun k_ => (w.heap.size ≤ k_) ∧ some k_ ≠ (.slice (some ad120) x6_2.length co55 : Value).ownBlock ∧ some k_ ≠ (.slice (some ⟨go12, 0, none⟩) x7_2.length co12 : Value).ownBlock ∧ some k_ ≠ (.slice (some ad127) x10_4.length co58 : Value).ownBlock)) k_ ∧ k_ ≠ go53)) (Kd.R_apart' (Kd.R_apart' (Kd.R_apart' (Kd.R_apart' (HO126.out) (Kd.N_typed HO_6.out) (by decide)) (Kd.R_typed HO_7.out) (by decide)) (Kd.R_typed HO_10.out) (by decide)) (Kd.N_typed HO_9.out) (by decide)) (fun k_ hk => ⟨⟨hk.1.1.1.1, ⟨hk.1.1.1.2, ⟨hk.1.1.2, hk.1.2⟩⟩⟩, fun e_ => (hk.2) (by rw [e_]; rfl)⟩))).2.1 (Kd.R_F (Kd.R_mono (ok' := (fun k_ => ((fun k_ => (w.heap.size ≤ k_) ∧ some k_ ≠ (.slice (some ad120) x6_2.length co55 : Value).ownBlock ∧ some k_ ≠ (.slice (some ⟨go12, 0, none⟩) x7_2.length co12 : Value).ownBlock ∧ some k_ ≠ (.slice (some ad127) x10_4.length co58 : Value).ownBlock)) k_ ∧ k_ ≠ go53)) (Kd.R_apart' (Kd.R_apart' (Kd.R_apart' (Kd.R_apart' (HO126.out) (Kd.N_typed HO_6.out) (by decide)) (Kd.R_typed HO_7.out) (by decide)) (Kd.R_typed HO_10.out) (by decide)) (Kd.N_typed HO_9.out) (by decide)) (fun k_ hk => ⟨⟨hk.1.1.1.1, ⟨hk.1.1.1.2, ⟨hk.1.1.2, hk.1.2⟩⟩⟩, fun e_ => (hk.2) (by rw [e_]; rfl)⟩)))) (fun _ hk => hk); have hx61_0 := hcc61 0 _ rfl; (try simp only [show ((Kd.slice 3 (Kd.int .i64))).sz = 1 from rfl, Nat.mul_one, Nat.add_zero] at hx61_0); have hf61_0 := hfr61 0; (try simp only [show ((Kd.slice 3 (Kd.int .i64))).sz = 1 from rfl, Nat.mul_one, Nat.add_zero] at hf61_0); clear hcl61 hcc61 hfr61 hM61; (try simp only [show ((Kd.slice 3 (Kd.int .i64))).sz = 1 from rfl, Nat.mul_one, Nat.add_zero] at HP61); (try simp only [show ((Kd.slice 3 (Kd.int .i64))).sz = 1 from rfl, Nat.mul_one, Nat.add_zero] at HP61)) | ((with_reducible refine gate_store (t := 22) (p := 107) rfl ?_); refine store_event (t := 22) (p := 107) (v := ?vo_w62) (w1 := (w57.setCell ⟨go53, (t117 : Int).toNat, none⟩ (.slice Ao60 y124.length co60))) ?hg ?ho ?hn ?hr ?_; (case ho => rfl); (case hg => rfl); (case hn => rfl); (case hr => first | (go_simp; done) | (go_simp; rfl)); intro w62 hw; have hg : w57.grownBy w62 (some go53) := (by rw [hw]; exact HP61.2); have hp_ : Kd.N (Kd.slice 3 (Kd.int .i64)) 22 w62 w.heap.size (fun k_ => (w.heap.size ≤ k_) ∧ some k_ ≠ (.slice (some ad120) x6_2.length co55 : Value).ownBlock ∧ some k_ ≠ (.slice (some ⟨go12, 0, none⟩) x7_2.length co12 : Value).ownBlock ∧ some k_ ≠ (.slice (some ad127) x10_4.length co58 : Value).ownBlock) (.slice (some ⟨go53, 0, none⟩) x9_4.length co59) y130 := (by rw [hw, Ny130.out]; exact HP61.1); clear HP61; have n0_ := Aside0.mk (Kd.N_afterv (v := (.slice (some ⟨go53, 0, none⟩) x9_4.length co59)) (v1 := (.slice (some ⟨go53, 0, none⟩) x9_4.length co59)) (ok := (fun k_ => (w.heap.size ≤ k_) ∧ some k_ ≠ (.slice (some ⟨go12, 0, none⟩) x7_2.length co12 : Value).ownBlock ∧ some k_ ≠ (.slice (some ad127) x10_4.length co58 : Value).ownBlock ∧ some k_ ≠ (.slice Ao60 y124.length co60 : Value).ownBlock)) (by (with_reducible repeat (first | apply Kd.N_alloc | apply Kd.N_drewN | apply Kd.N_drew)); exact Kd.N_mono HO_6.out (fun _ hk => by first | exact ⟨⟨hk.1.1, ⟨hk.1.2.1, ⟨hk.1.2.2.2, hk.2⟩⟩⟩, hk.1.2.2.1⟩ | (simp only [and_assoc] at hk ⊢; (repeat' apply And.intro) <;> first | exact hk.1 | exact hk.2.1 | exact hk.2.2.1 | exact hk.2.2.2.1 | exact hk.2.2.2.2.1 | exact hk.2.2.2.2.2.1 | exact hk.2 | exact hk.2.2 | exact hk.2.2.2 | exact hk.2.2.2.2 | exact hk.2.2.2.2.2 | exact hk.2.2.2.2.2.2))) hg (.inl rfl)); have n1_ := Aside0.mk (Kd.R_over' (v := (.slice (some ⟨go53, 0, none⟩) x9_4.length co59)) (by (with_reducible repeat (first | apply Kd.R_alloc | apply Kd.R_drewN | apply Kd.R_drew)); exact HO_7.out) (Kd.N_typed HO_9.out) (by decide) hg); have n2_ := Aside0.mk (hp_); have n3_ := Aside0.mk (Kd.R_over' (v := (.slice (some ⟨go53, 0, none⟩) x9_4.length co59)) (by (with_reducible repeat (first | apply Kd.R_alloc | apply Kd.R_drewN | apply Kd.R_drew)); exact HO_10.out) (Kd.N_typed HO_9.out) (by decide) hg); have n4_ := Aside0.mk (Kd.V_afterv (v := (.slice (some ⟨go53, 0, none⟩) x9_4.length co59)) (v1 := (.slice (some ⟨go53, 0, none⟩) x9_4.length co59)) (ok := (fun k_ => (w.heap.size ≤ k_) ∧ some k_ ≠ (.slice (some ad120) x6_2.length co55 : Value).ownBlock ∧ some k_ ≠ (.slice (some ⟨go12, 0, none⟩) x7_2.length co12 : Value).ownBlock ∧ some k_ ≠ (.slice (some ad127) x10_4.length co58 : Value).ownBlock ∧ some k_ ≠ (.slice Ao60 y124.length co60 : Value).ownBlock)) (by (with_reducible repeat (first | apply Kd.V_alloc | apply Kd.V_drewN | apply Kd.V_drew)); exact Kd.V_mono HL120_0.out (fun _ hk => by first | exact ⟨⟨hk.1.1, ⟨hk.1.2.1, ⟨hk.1.2.2.1, ⟨hk.1.2.2.2.2, hk.2⟩⟩⟩⟩, hk.1.2.2.2.1⟩ | (simp only [and_assoc] at hk ⊢; (repeat' apply And.intro) <;> first | exact hk.1 | exact hk.2.1 | exact hk.2.2.1 | exact hk.2.2.2.1 | exact hk.2.2.2.2.1 | exact hk.2.2.2.2.2.1 | exact hk.2 | exact hk.2.2 | exact hk.2.2.2 | exact hk.2.2.2.2 | exact hk.2.2.2.2.2 | exact hk.2.2.2.2.2.2))) hg (.inl rfl)); have n5_ := Aside0.mk (Kd.V_afterv (v := (.slice (some ⟨go53, 0, none⟩) x9_4.length co59)) (v1 := (.slice (some ⟨go53, 0, none⟩) x9_4.length co59)) (ok := (fun k_ => (w.heap.size ≤ k_) ∧ some k_ ≠ (.slice (some ad120) x6_2.length co55 : Value).ownBlock ∧ some k_ ≠ (.slice (some ⟨go12, 0, none⟩) x7_2.length co12 : Value).ownBlock ∧ some k_ ≠ (.slice (some ad127) x10_4.length co58 : Value).ownBlock ∧ some k_ ≠ (.slice Ao60 y124.length co60 : Value).ownBlock)) (by (with_reducible repeat (first | apply Kd.V_alloc | apply Kd.V_drewN | apply Kd.V_drew)); exact Kd.V_mono HL128_0.out (fun _ hk => by first | exact ⟨⟨hk.1.1.1, ⟨hk.1.1.2.1, ⟨hk.1.1.2.2.1, ⟨hk.1.1.2.2.2, hk.1.2⟩⟩⟩⟩, hk.2⟩ | (simp only [and_assoc] at hk ⊢; (repeat' apply And.intro) <;> first | exact hk.1 | exact hk.2.1 | exact hk.2.2.1 | exact hk.2.2.2.1 | exact hk.2.2.2.2.1 | exact hk.2.2.2.2.2.1 | exact hk.2 | exact hk.2.2 | exact hk.2.2.2 | exact hk.2.2.2.2 | exact hk.2.2.2.2.2 | exact hk.2.2.2.2.2.2))) hg (.inl rfl)); have n6_ := Aside0.mk ((by rw [hw]; exact below_set (HB.out) GB53.out : Below w.heap.size w w62)); clear HO_6; clear HO_7; clear HO_9; clear HO_10; clear HL120_0; clear HL128_0; clear HB; clear HO126; have HO_6 := n0_; have HO_7 := n1_; have HO_9 := n2_; have HO_10 := n3_; have HL120_0 := n4_; have HL128_0 := n5_; have HB := n6_; clear n0_ n1_ n2_ n3_ n4_ n5_ n6_; clear hg hw hp_; have p54 : 0 ≤ (t117 : Int) := of_decide_eq_true (by first | (with_reducible assumption) | assumption); have q54 : (t117 : Int) < ((x10_4.length : Int) : Int) := of_decide_eq_true (by first | (with_reducible assumption) | assumption); obtain ⟨go54, co54, eo54, gb54, gl54, cl54, HG54⟩ := Kd.R_form HO_10.out (by omega); (first | cases eo54 | (injection eo54 with ea_ en_ ec_; (first | subst ea_ | (injection ea_ with ea_; subst ea_)); subst ec_; clear en_)); have GB54 := Aside0.mk gb54; have GG54 := Aside0.mk HG54; clear gb54 gl54 HG54; (first | simp only [add_plain] at hx127_0 | skip); obtain ⟨hx54_0, hf54_0⟩ := Kd.R_celln false HO_10.out (t117 : Int) p54 q54; replace p54 := eq_true p54; replace q54 := eq_true q54; obtain ⟨hy63_, hz63_⟩ := Kd.R_celln false HO_10.out (t117 : Int) (of_decide_eq_true (by first | (with_reducible assumption) | assumption)) (of_decide_eq_true (by first | (with_reducible assumption) | assumption)); have HP63 := Kd.R_putg HO_10.out (t117 : Int) true) | ((with_reducible refine gate_store (t := 4) (p := 110) rfl ?_); refine store_event (t := 4) (p := 110) (v := ?vo_w64) (w1 := (w62.setCell ⟨go54, (t117 : Int).toNat, none⟩ (.bool true))) ?hg ?ho ?hn ?hr ?_; (case ho => rfl); (case hg => rfl); (case hn => rfl); (case hr => first | (go_simp; done) | (go_simp; rfl)); intro w64 hw; have hg : w62.grownBy w64 (some go54) := (by rw [hw]; exact HP63.2); have hp_ : Kd.R Kd.bool 4 w64 w.heap.size (fun k_ => (w.heap.size ≤ k_) ∧ some k_ ≠ (.slice (some ⟨go12, 0, none⟩) x7_2.length co12 : Value).ownBlock) (.slice (some ⟨go54, 0, none⟩) x10_4.length co58) y131 := (by rw [hw, Ny131.out]; exact HP63.1); clear HP63; have n0_ := Aside0.mk (Kd.N_afterv (v := (.slice (some ⟨go54, 0, none⟩) x10_4.length co58)) (v1 := (.slice (some ⟨go54, 0, none⟩) x10_4.length co58)) (ok := (fun k_ => (w.heap.size ≤ k_) ∧ some k_ ≠ (.slice (some ⟨go12, 0, none⟩) x7_2.length co12 : Value).ownBlock ∧ some k_ ≠ (.slice (some ⟨go53, 0, none⟩) x9_4.length co59 : Value).ownBlock)) (by (with_reducible repeat (first | apply Kd.N_alloc | apply Kd.N_drewN | apply Kd.N_drew)); exact Kd.N_mono HO_6.out (fun _ hk => by first | exact ⟨⟨hk.1.1, ⟨hk.1.2.1, hk.2⟩⟩, hk.1.2.2.1⟩ | (simp only [and_assoc] at hk ⊢; (repeat' apply And.intro) <;> first | exact hk.1 | exact hk.2.1 | exact hk.2.2.1 | exact hk.2.2.2.1 | exact hk.2.2.2.2.1 | exact hk.2.2.2.2.2.1 | exact hk.2 | exact hk.2.2 | exact hk.2.2.2 | exact hk.2.2.2.2 | exact hk.2.2.2.2.2 | exact hk.2.2.2.2.2.2))) hg (.inl rfl)); have n1_ := Aside0.mk (Kd.R_after (v := (.slice (some ⟨go54, 0, none⟩) x10_4.length co58)) (v1 := (.slice (some ⟨go54, 0, none⟩) x10_4.length co58)) (ok := (fun k_ => (w.heap.size ≤ k_))) (by (with_reducible repeat (first | apply Kd.R_alloc | apply Kd.R_drewN | apply Kd.R_drew)); exact HO_7.out) hg (.inl rfl)); have n2_ := Aside0.mk (Kd.N_afterv (v := (.slice (some ⟨go54, 0, none⟩) x10_4.length co58)) (v1 := (.slice (some ⟨go54, 0, none⟩) x10_4.length co58)) (ok := (fun k_ => (w.heap.size ≤ k_) ∧ some k_ ≠ (.slice (some ad120) x6_2.length co55 : Value).ownBlock ∧ some k_ ≠ (.slice (some ⟨go12, 0, none⟩) x7_2.length co12 : Value).ownBlock)) (by (with_reducible repeat (first | apply Kd.N_alloc | apply Kd.N_drewN | apply Kd.N_drew)); exact Kd.N_mono HO_9.out (fun _ hk => by first | exact ⟨⟨hk.1, ⟨hk.2.1, hk.2.2.1⟩⟩, hk.2.2.2⟩ | (simp only [and_assoc] at hk ⊢; (repeat' apply And.intro) <;> first | exact hk.1 | exact hk.2.1 | exact hk.2.2.1 | exact hk.2.2.2.1 | exact hk.2.2.2.2.1 | exact hk.2.2.2.2.2.1 | exact hk.2 | exact hk.2.2 | exact hk.2.2.2 | exact hk.2.2.2.2 | exact hk.2.2.2.2.2 | exact hk.2.2.2.2.2.2))) hg (.inl rfl)); have n3_ := Aside0.mk (hp_); have n4_ := Aside0.mk (Kd.V_afterv (v := (.slice (some ⟨go54, 0, none⟩) x10_4.length co58)) (v1 := (.slice (some ⟨go54, 0, none⟩) x10_4.length co58)) (ok := (fun k_ => (w.heap.size ≤ k_) ∧ some k_ ≠ (.slice (some ad120) x6_2.length co55 : Value).ownBlock ∧ some k_ ≠ (.slice (some ⟨go12, 0, none⟩) x7_2.length co12 : Value).ownBlock ∧ some k_ ≠ (.slice (some ⟨go53, 0, none⟩) x9_4.length co59 : Value).ownBlock)) (by (with_reducible repeat (first | apply Kd.V_alloc | apply Kd.V_drewN | apply Kd.V_drew)); exact Kd.V_mono HL120_0.out (fun _ hk => by first | exact ⟨⟨hk.1.1, ⟨hk.1.2.1, ⟨hk.1.2.2.1, hk.2⟩⟩⟩, hk.1.2.2.2.1⟩ | (simp only [and_assoc] at hk ⊢; (repeat' apply And.intro) <;> first | exact hk.1 | exact hk.2.1 | exact hk.2.2.1 | exact hk.2.2.2.1 | exact hk.2.2.2.2.1 | exact hk.2.2.2.2.2.1 | exact hk.2 | exact hk.2.2 | exact hk.2.2.2 | exact hk.2.2.2.2 | exact hk.2.2.2.2.2 | exact hk.2.2.2.2.2.2))) hg (.inl rfl)); have n5_ := Aside0.mk (Kd.V_afterv (v := (.slice (some ⟨go54, 0, none⟩) x10_4.length co58)) (v1 := (.slice (some ⟨go54, 0, none⟩) x10_4.length co58)) (ok := (fun k_ => (w.heap.size ≤ k_) ∧ some k_ ≠ (.slice (some ad120) x6_2.length co55 : Value).ownBlock ∧ some k_ ≠ (.slice (some ⟨go12, 0, none⟩) x7_2.length co12 : Value).ownBlock ∧ some k_ ≠ (.slice (some ⟨go53, 0, none⟩) x9_4.length co59 : Value).ownBlock)) (by (with_reducible repeat (first | apply Kd.V_alloc | apply Kd.V_drewN | apply Kd.V_drew)); exact Kd.V_mono HL128_0.out (fun _ hk => by first | exact ⟨⟨hk.1.1, ⟨hk.1.2.1, ⟨hk.1.2.2.1, hk.2⟩⟩⟩, hk.1.2.2.2.1⟩ | (simp only [and_assoc] at hk ⊢; (repeat' apply And.intro) <;> first | exact hk.1 | exact hk.2.1 | exact hk.2.2.1 | exact hk.2.2.2.1 | exact hk.2.2.2.2.1 | exact hk.2.2.2.2.2.1 | exact hk.2 | exact hk.2.2 | exact hk.2.2.2 | exact hk.2.2.2.2 | exact hk.2.2.2.2.2 | exact hk.2.2.2.2.2.2))) hg (.inl rfl)); have n6_ := Aside0.mk ((by rw [hw]; exact below_set (HB.out) GB54.out : Below w.heap.size w w64)); clear HO_6; clear HO_7; clear HO_9; clear HO_10; clear HL120_0; clear HL128_0; clear HB; have HO_6 := n0_; have HO_7 := n1_; have HO_9 := n2_; have HO_10 := n3_; have HL120_0 := n4_; have HL128_0 := n5_; have HB := n6_; clear n0_ n1_ n2_ n3_ n4_ n5_ n6_; clear hg hw hp_))
                                                                  go_roundg kj36
                                                                  case measure => have := HJ2.out; have := HK2.out; have := HK3.out; have := HK4.out; have := HJ26.out; have := HJ36.out; omega
                                                                  case rel => exact ⟨(y130), (y131), (wrap64 (x12_4 + 1)), (by first | rfl | (simp; done) | (simp [*]; done)), H', ⟨by have := HJ2.out; have := HK2.out; have := HK3.out; have := HK4.out; have := HJ26.out; have := HJ36.out; omega⟩, ⟨by (try simp only [hl7_2]); (with_reducible repeat (first | apply Kd.N_alloc | apply Kd.N_drewN | apply Kd.N_drew)); exact Kd.N_mono HO_6.out (fun _ hk => ⟨hk.1.1, ⟨hk.1.2.1, ⟨hk.1.2.2, hk.2⟩⟩⟩)⟩, ⟨by (try simp only [hl7_2]); (with_reducible repeat (first | apply Kd.R_alloc | apply Kd.R_drewN | apply Kd.R_drew)); exact HO_7.out⟩, ⟨by (try simp only [hl7_2]); (with_reducible repeat (first | apply Kd.N_alloc | apply Kd.N_drewN | apply Kd.N_drew)); exact Kd.N_mono HO_9.out (fun _ hk => ⟨hk.1.1, ⟨hk.1.2.1, ⟨hk.1.2.2, hk.2⟩⟩⟩)⟩, ⟨by (try simp only [hl7_2]); (with_reducible repeat (first | apply Kd.R_alloc | apply Kd.R_drewN | apply Kd.R_drew)); exact HO_10.out⟩, ⟨by repeat (first | (with_reducible first | exact HB.out | apply below_alloc | apply pw_below_drewN | apply below_drew1) | exact HB.out)⟩⟩
                                                                · replace c52 := Bool.eq_false_iff.mpr c52
                                                                  subst c52
                                                                  have H1 : (vespersref20_Way.l2 kj36 a1 x6_2 x7_2 x8_2 x9_4 x10_4 x11_3 (wrap64 (x12_4 + 1))) = some (r1, r2) := by rw [if_neg (show ¬ (false = true) by decide)] at H; exact H
                                                                  clear H
                                                                  have H := H1
                                                                  clear H1
                                                                  have H' := Aside0.mk H
                                                                  clear H
                                                                  obtain ⟨Ao65, co65, eo65⟩ := Kd.N_slice HO_6.out
                                                                  subst eo65
                                                                  have p120 : 0 ≤ (x11_3 : Int) := of_decide_eq_true (by first | (with_reducible assumption) | assumption)
                                                                  have q120 : x11_3 < (x6_2.length : Int) := of_decide_eq_true (by first | (with_reducible assumption) | assumption)
                                                                  obtain ⟨ad120, A120_0, c120_0, e120, hx120_0, hl120_0, hi120_0⟩ := at_L1 (Kd.N_reads' HO_6.out).2.2 x11_3 p120 q120
                                                                  cases e120
                                                                  obtain ⟨ce120, hce120, hMe120, hcc120⟩ := Kd.N_get HO_6.out [] x11_3 p120 (by first | exact q120 | exact of_decide_eq_true (by first | (with_reducible assumption) | assumption) | (have e_ := (Kd.N_reads' HO_6.out).1; omega))
                                                                  obtain ⟨ua120_0, uc120_0, rfl, ul120_0, ge120_0⟩ := Kd.FK_slice_open hMe120
                                                                  have hv120_0 := hcc120 0 _ rfl
                                                                  rw [Nat.add_zero, show ((Kd.slice 3 (Kd.int .i64))).sz = 1 from rfl, Nat.mul_one] at hv120_0
                                                                  replace hv120_0 := Option.some.inj (hv120_0.symm.trans hx120_0)
                                                                  injection hv120_0 with hva_ hvn_ hvc_
                                                                  rw [hva_] at ge120_0
                                                                  rw [hvc_] at ul120_0
                                                                  have HL120_0 := Aside0.mk (show Kd.V (Kd.int .i64) 3 _ w.heap.size _ _ (rd_L1 x6_2 x11_3) from Kd.V_mk ul120_0 ge120_0)
                                                                  clear hva_ hvn_ hvc_ ge120_0 ul120_0
                                                                  clear hcc120 hce120
                                                                  have HR120_0 := Aside0.mk hi120_0
                                                                  have HC120_0 := Aside0.mk hl120_0
                                                                  clear hi120_0 hl120_0
                                                                  replace p120 := eq_true p120
                                                                  replace q120 := eq_true q120
                                                                  go_wp2_with (first | ((with_reducible refine gate_builtin (b := .append) (xs := #[.tmp 80, .tmp 84]) rfl ?_); (try (refine gate_guard (by rfl) ?_; dsimp only)); at_builtin; refine Kd.R_append_rows (Kd.int .i64) (w0 := w) w.heap.size rfl (.tmp 80) (.tmp 84) 22 3 (.int .i64 0) 8 rfl Tryd.underlying22 info3 rfl (by decide) (by omega) (.slice none 0 0) ([] : List Int) (rd_L1 x6_2 x11_3) _ _ _ (fun k_ => (w.heap.size ≤ k_)) (fun _ => False) rfl rfl ?aO ?aR (fun _ _ h => h) (fun _ h => h.elim) ?aF ?aB ?aS ?aL ?_; (case aR => repeat (first | exact (by repeat (first | (with_reducible exact HR120_0.out) | (with_reducible refine Kd.C_alloc ?_ _) | (with_reducible refine Kd.C_drewN ?_ _) | (with_reducible refine Kd.C_drew ?_) | exact HR120_0.out)) | (with_reducible refine Kd.C_alloc ?_ _) | (with_reducible refine Kd.C_drewN ?_ _) | (with_reducible refine Kd.C_drew ?_))); (case aB => exact (by repeat (first | (with_reducible first | exact HB.out | apply below_alloc | apply pw_below_drewN | apply below_drew1) | exact HB.out))); (case aF => exact (fun k_ hk => (Nat.le_trans (below_size (by repeat (first | (with_reducible first | exact HB.out | apply below_alloc | apply pw_below_drewN | apply below_drew1) | exact HB.out))) hk))); (case aO => exact ((Kd.R_nil _ _ _ _ (fun k_ => (w.heap.size ≤ k_))))); (case aS => exact (below_size (by repeat (first | (with_reducible first | exact HB.out | apply below_alloc | apply pw_below_drewN | apply below_drew1) | exact HB.out)))); (case aL => have := LMc44.out; omega); intro v122 w66 ho hb hg hat; rw [← Ny121.out] at ho; have n0_ := Aside0.mk (Kd.N_afterv (Kd.N_apart_nil (by (with_reducible repeat (first | apply Kd.N_alloc | apply Kd.N_drewN | apply Kd.N_drew)); exact HO_6.out)) hg hat); have n1_ := Aside0.mk (Kd.R_grown (by (with_reducible repeat (first | apply Kd.R_alloc | apply Kd.R_drewN | apply Kd.R_drew)); exact HO_7.out) hg (fun _ _ => by simp [Value.ownBlock])); have n2_ := Aside0.mk (Kd.N_afterv (Kd.N_apart_nil (by (with_reducible repeat (first | apply Kd.N_alloc | apply Kd.N_drewN | apply Kd.N_drew)); exact HO_9.out)) hg hat); have n3_ := Aside0.mk (Kd.R_grown (by (with_reducible repeat (first | apply Kd.R_alloc | apply Kd.R_drewN | apply Kd.R_drew)); exact HO_10.out) hg (fun _ _ => by simp [Value.ownBlock])); have n4_ := Aside0.mk (Kd.V_afterv (Kd.V_apart_nil (by (with_reducible repeat (first | apply Kd.V_alloc | apply Kd.V_drewN | apply Kd.V_drew)); exact HL120_0.out)) hg hat); have n5_ := Aside0.mk (hb); have n6_ := Aside0.mk (ho); clear HO_6; clear HO_7; clear HO_9; clear HO_10; clear HL120_0; clear HB; have HO_6 := n0_; have HO_7 := n1_; have HO_9 := n2_; have HO_10 := n3_; have HL120_0 := n4_; have HB := n5_; have HO123 := n6_; clear n0_ n1_ n2_ n3_ n4_ n5_ n6_; clear ho hb hg hat) | ((with_reducible refine gate_builtin (b := .append) (xs := #[.tmp 85, .tmp 87]) rfl ?_); (try (refine gate_guard (by rfl) ?_; dsimp only)); at_builtin; refine Kd.R_append (Kd.int .i64) (w0 := w) w.heap.size rfl (.tmp 85) (.tmp 87) 22 3 (.int .i64 0) 8 rfl Tryd.underlying22 info3 rfl (by decide) (by omega) v122 y121 x12_4 [.int .i64 x12_4] (fun k_ => (w.heap.size ≤ k_)) (fun _ => False) rfl rfl ?aP (fun _ hk => hk.elim) ?aF ?aO ?aB ?aS ?aL ?_; (case aP => exact rfl); (case aB => exact (by repeat (first | (with_reducible first | exact HB.out | apply below_alloc | apply pw_below_drewN | apply below_drew1) | exact HB.out))); (case aF => exact (fun k_ hk => (Nat.le_trans (below_size (by repeat (first | (with_reducible first | exact HB.out | apply below_alloc | apply pw_below_drewN | apply below_drew1) | exact HB.out))) hk))); (case aO => exact (by (with_reducible repeat (first | apply Kd.R_alloc | apply Kd.R_drewN | apply Kd.R_drew)); exact HO123.out)); (case aS => exact (below_size (by repeat (first | (with_reducible first | exact HB.out | apply below_alloc | apply pw_below_drewN | apply below_drew1) | exact HB.out)))); (case aL => have := LMc45.out; omega); intro v125 w67 ho hb hg hat; rw [← Ny124.out] at ho; have n0_ := Aside0.mk (Kd.N_afterv (ok := (fun k_ => (w.heap.size ≤ k_) ∧ some k_ ≠ (.slice (some ⟨go12, 0, none⟩) x7_2.length co12 : Value).ownBlock ∧ some k_ ≠ (v110 : Value).ownBlock ∧ some k_ ≠ (v113 : Value).ownBlock)) (by (with_reducible repeat (first | apply Kd.N_alloc | apply Kd.N_drewN | apply Kd.N_drew)); exact HO_6.out) hg hat); have n1_ := Aside0.mk (Kd.R_over' (by (with_reducible repeat (first | apply Kd.R_alloc | apply Kd.R_drewN | apply Kd.R_drew)); exact HO_7.out) (Kd.R_typed (by (with_reducible repeat (first | apply Kd.R_alloc | apply Kd.R_drewN | apply Kd.R_drew)); exact HO123.out)) (by decide) hg); have n2_ := Aside0.mk (Kd.N_afterv (ok := (fun k_ => (w.heap.size ≤ k_) ∧ some k_ ≠ (.slice (some ad120) x6_2.length co65 : Value).ownBlock ∧ some k_ ≠ (.slice (some ⟨go12, 0, none⟩) x7_2.length co12 : Value).ownBlock ∧ some k_ ≠ (v113 : Value).ownBlock)) (by (with_reducible repeat (first | apply Kd.N_alloc | apply Kd.N_drewN | apply Kd.N_drew)); exact HO_9.out) hg hat); have n3_ := Aside0.mk (Kd.R_over' (by (with_reducible repeat (first | apply Kd.R_alloc | apply Kd.R_drewN | apply Kd.R_drew)); exact HO_10.out) (Kd.R_typed (by (with_reducible repeat (first | apply Kd.R_alloc | apply Kd.R_drewN | apply Kd.R_drew)); exact HO123.out)) (by decide) hg); have n4_ := Aside0.mk (Kd.V_afterv (ok := (fun k_ => (w.heap.size ≤ k_) ∧ some k_ ≠ (.slice (some ad120) x6_2.length co65 : Value).ownBlock ∧ some k_ ≠ (.slice (some ⟨go12, 0, none⟩) x7_2.length co12 : Value).ownBlock ∧ some k_ ≠ (v110 : Value).ownBlock ∧ some k_ ≠ (v113 : Value).ownBlock)) (by (with_reducible repeat (first | apply Kd.V_alloc | apply Kd.V_drewN | apply Kd.V_drew)); exact Kd.V_mono HL120_0.out (fun _ hk => by first | exact ⟨⟨hk.1.1.1, ⟨hk.1.2, ⟨hk.1.1.2.1, ⟨hk.1.1.2.2.1, hk.1.1.2.2.2⟩⟩⟩⟩, hk.2⟩ | (simp only [and_assoc] at hk ⊢; (repeat' apply And.intro) <;> first | exact hk.1 | exact hk.2.1 | exact hk.2.2.1 | exact hk.2.2.2.1 | exact hk.2.2.2.2.1 | exact hk.2.2.2.2.2.1 | exact hk.2 | exact hk.2.2 | exact hk.2.2.2 | exact hk.2.2.2.2 | exact hk.2.2.2.2.2 | exact hk.2.2.2.2.2.2))) hg hat); have n5_ := Aside0.mk (hb); have n6_ := Aside0.mk (ho); clear HO_6; clear HO_7; clear HO_9; clear HO_10; clear HL120_0; clear HB; clear HO123; have HO_6 := n0_; have HO_7 := n1_; have HO_9 := n2_; have HO_10 := n3_; have HL120_0 := n4_; have HB := n5_; have HO126 := n6_; clear n0_ n1_ n2_ n3_ n4_ n5_ n6_; clear ho hb hg hat; obtain ⟨Ao68, co68, eo68⟩ := Kd.R_slice HO_10.out; subst eo68; have p127 : 0 ≤ (t117 : Int) := of_decide_eq_true (by first | (with_reducible assumption) | assumption); have q127 : t117 < (x10_4.length : Int) := of_decide_eq_true (by first | (with_reducible assumption) | assumption); obtain ⟨ad127, e127, hx127_0⟩ := Kd.at_bool (Kd.R_reads' HO_10.out).2.2 t117 p127 q127; (try rw [← Nbq48.out] at hx127_0); cases e127; replace p127 := eq_true p127; replace q127 := eq_true q127; obtain ⟨Ao69, co69, eo69⟩ := Kd.N_slice HO_9.out; subst eo69; have p128 : 0 ≤ (t117 : Int) := of_decide_eq_true (by first | (with_reducible assumption) | assumption); have q128 : t117 < (x9_4.length : Int) := of_decide_eq_true (by first | (with_reducible assumption) | assumption); obtain ⟨ad128, A128_0, c128_0, e128, hx128_0, hl128_0, hi128_0⟩ := at_L1 (Kd.N_reads' HO_9.out).2.2 t117 p128 q128; cases e128; obtain ⟨ce128, hce128, hMe128, hcc128⟩ := Kd.N_get HO_9.out [] t117 p128 (by first | exact q128 | exact of_decide_eq_true (by first | (with_reducible assumption) | assumption) | (have e_ := (Kd.N_reads' HO_9.out).1; omega)); obtain ⟨ua128_0, uc128_0, rfl, ul128_0, ge128_0⟩ := Kd.FK_slice_open hMe128; have hv128_0 := hcc128 0 _ rfl; rw [Nat.add_zero, show ((Kd.slice 3 (Kd.int .i64))).sz = 1 from rfl, Nat.mul_one] at hv128_0; replace hv128_0 := Option.some.inj (hv128_0.symm.trans hx128_0); injection hv128_0 with hva_ hvn_ hvc_; rw [hva_] at ge128_0; rw [hvc_] at ul128_0; have HL128_0 := Aside0.mk (show Kd.V (Kd.int .i64) 3 _ w.heap.size _ _ (rd_L1 x9_4 t117) from Kd.V_mk ul128_0 ge128_0); clear hva_ hvn_ hvc_ ge128_0 ul128_0; clear hcc128 hce128; have HR128_0 := Aside0.mk hi128_0; have HC128_0 := Aside0.mk hl128_0; clear hi128_0 hl128_0; replace p128 := eq_true p128; replace q128 := eq_true q128; obtain ⟨Ao70, co70, eo70⟩ := Kd.R_slice HO126.out; subst eo70) | (go_at_call 27; (with_reducible refine (vespersref20_less.calls kj36 _ _ y124 _ _ (rd_L1 x9_4 t117) false _ ?side1 ?side2 ?side3 ?side4 A51.out).mono ?_); (case side1 => repeat (first | exact (Kd.R_reads' HO126.out).2.2 | (with_reducible refine Kd.C_alloc ?_ _) | (with_reducible refine Kd.C_drewN ?_ _) | (with_reducible refine Kd.C_drew ?_))); (case side2 => exact (Kd.R_reads' HO126.out).2.1); (case side3 => repeat (first | exact (by repeat (first | (with_reducible exact HR128_0.out) | (with_reducible refine Kd.C_alloc ?_ _) | (with_reducible refine Kd.C_drewN ?_ _) | (with_reducible refine Kd.C_drew ?_) | exact HR128_0.out)) | (with_reducible refine Kd.C_alloc ?_ _) | (with_reducible refine Kd.C_drewN ?_ _) | (with_reducible refine Kd.C_drew ?_))); (case side4 => exact HC128_0.out); rintro e w' ⟨rfl, ⟨nd, rfl⟩⟩))
                                                                  go_roundg kj36
                                                                  case measure => have := HJ2.out; have := HK2.out; have := HK3.out; have := HK4.out; have := HJ26.out; have := HJ36.out; omega
                                                                  case rel => exact ⟨(x9_4), (x10_4), (wrap64 (x12_4 + 1)), (by first | rfl | (simp; done) | (simp [*]; done)), H', ⟨by have := HJ2.out; have := HK2.out; have := HK3.out; have := HK4.out; have := HJ26.out; have := HJ36.out; omega⟩, ⟨by (try simp only [hl7_2]); (with_reducible repeat (first | apply Kd.N_alloc | apply Kd.N_drewN | apply Kd.N_drew)); exact Kd.N_mono HO_6.out (fun _ hk => ⟨hk.1.1, ⟨hk.1.2.1, ⟨hk.1.2.2.1, hk.1.2.2.2⟩⟩⟩)⟩, ⟨by (try simp only [hl7_2]); (with_reducible repeat (first | apply Kd.R_alloc | apply Kd.R_drewN | apply Kd.R_drew)); exact HO_7.out⟩, ⟨by (try simp only [hl7_2]); (with_reducible repeat (first | apply Kd.N_alloc | apply Kd.N_drewN | apply Kd.N_drew)); exact Kd.N_mono HO_9.out (fun _ hk => ⟨hk.1.1, ⟨hk.1.2.1, ⟨hk.1.2.2.1, hk.1.2.2.2⟩⟩⟩)⟩, ⟨by (try simp only [hl7_2]); (with_reducible repeat (first | apply Kd.R_alloc | apply Kd.R_drewN | apply Kd.R_drew)); exact HO_10.out⟩, ⟨by repeat (first | (with_reducible first | exact HB.out | apply below_alloc | apply pw_below_drewN | apply below_drew1) | exact HB.out)⟩⟩
                                                              · rw [if_neg c50] at H
                                                                exact absurd H (by simp)
                                                            · replace c49 := Bool.eq_false_iff.mpr c49
                                                              subst c49
                                                              have H1 : (if t117 < (x9_4.length : Int) then (vespersref20_Way.l2 kj36 a1 x6_2 x7_2 x8_2 (x9_4.set (t117 : Int).toNat y124) (x10_4.set (t117 : Int).toNat true) x11_3 (wrap64 (x12_4 + 1))) else (none)) = some (r1, r2) := by rw [if_neg (show ¬ (false = true) by decide)] at H; exact H
                                                              clear H
                                                              have H := H1
                                                              clear H1
                                                              by_cases c71 : t117 < (x9_4.length : Int)
                                                              · rw [if_pos c71] at H
                                                                have c71b0 : decide (t117 < (x9_4.length : Int)) = true := decide_eq_true c71
                                                                clear c71
                                                                obtain ⟨y132, hy132⟩ : ∃ y_ : List (List Int), y_ = (x9_4.set (t117 : Int).toNat y124) := ⟨_, rfl⟩
                                                                replace H : (vespersref20_Way.l2 kj36 a1 x6_2 x7_2 x8_2 y132 (x10_4.set (t117 : Int).toNat true) x11_3 (wrap64 (x12_4 + 1))) = some (r1, r2) := by first | (rw [hy132]; with_reducible exact H) | (have H2_ := (Option.bind_some _ _).symm.trans H; rw [hy132]; with_reducible exact H2_) | (have H2_ := (Option.bind_some _ _).symm.trans H; with_reducible exact H2_) | with_reducible exact H | (rw [hy132]; exact H) | exact H
                                                                have Ny132 := Aside0.mk hy132
                                                                clear hy132
                                                                obtain ⟨y133, hy133⟩ : ∃ y_ : List Bool, y_ = (x10_4.set (t117 : Int).toNat true) := ⟨_, rfl⟩
                                                                replace H : (vespersref20_Way.l2 kj36 a1 x6_2 x7_2 x8_2 y132 y133 x11_3 (wrap64 (x12_4 + 1))) = some (r1, r2) := by first | (rw [hy133]; with_reducible exact H) | (have H2_ := (Option.bind_some _ _).symm.trans H; rw [hy133]; with_reducible exact H2_) | (have H2_ := (Option.bind_some _ _).symm.trans H; with_reducible exact H2_) | with_reducible exact H | (rw [hy133]; exact H) | exact H
                                                                have Ny133 := Aside0.mk hy133
                                                                clear hy133
                                                                have H' := Aside0.mk H
                                                                clear H
                                                                obtain ⟨Ao74, co74, eo74⟩ := Kd.N_slice HO_6.out
                                                                subst eo74
                                                                have p120 : 0 ≤ (x11_3 : Int) := of_decide_eq_true (by first | (with_reducible assumption) | assumption)
                                                                have q120 : x11_3 < (x6_2.length : Int) := of_decide_eq_true (by first | (with_reducible assumption) | assumption)
                                                                obtain ⟨ad120, A120_0, c120_0, e120, hx120_0, hl120_0, hi120_0⟩ := at_L1 (Kd.N_reads' HO_6.out).2.2 x11_3 p120 q120
                                                                cases e120
                                                                obtain ⟨ce120, hce120, hMe120, hcc120⟩ := Kd.N_get HO_6.out [] x11_3 p120 (by first | exact q120 | exact of_decide_eq_true (by first | (with_reducible assumption) | assumption) | (have e_ := (Kd.N_reads' HO_6.out).1; omega))
                                                                obtain ⟨ua120_0, uc120_0, rfl, ul120_0, ge120_0⟩ := Kd.FK_slice_open hMe120
                                                                have hv120_0 := hcc120 0 _ rfl
                                                                rw [Nat.add_zero, show ((Kd.slice 3 (Kd.int .i64))).sz = 1 from rfl, Nat.mul_one] at hv120_0
                                                                replace hv120_0 := Option.some.inj (hv120_0.symm.trans hx120_0)
                                                                injection hv120_0 with hva_ hvn_ hvc_
                                                                rw [hva_] at ge120_0
                                                                rw [hvc_] at ul120_0
                                                                have HL120_0 := Aside0.mk (show Kd.V (Kd.int .i64) 3 _ w.heap.size _ _ (rd_L1 x6_2 x11_3) from Kd.V_mk ul120_0 ge120_0)
                                                                clear hva_ hvn_ hvc_ ge120_0 ul120_0
                                                                clear hcc120 hce120
                                                                have HR120_0 := Aside0.mk hi120_0
                                                                have HC120_0 := Aside0.mk hl120_0
                                                                clear hi120_0 hl120_0
                                                                replace p120 := eq_true p120
                                                                replace q120 := eq_true q120
                                                                go_wp2_with (first | ((with_reducible refine gate_builtin (b := .append) (xs := #[.tmp 80, .tmp 84]) rfl ?_); (try (refine gate_guard (by rfl) ?_; dsimp only)); at_builtin; refine Kd.R_append_rows (Kd.int .i64) (w0 := w) w.heap.size rfl (.tmp 80) (.tmp 84) 22 3 (.int .i64 0) 8 rfl Tryd.underlying22 info3 rfl (by decide) (by omega) (.slice none 0 0) ([] : List Int) (rd_L1 x6_2 x11_3) _ _ _ (fun k_ => (w.heap.size ≤ k_)) (fun _ => False) rfl rfl ?aO ?aR (fun _ _ h => h) (fun _ h => h.elim) ?aF ?aB ?aS ?aL ?_; (case aR => repeat (first | exact (by repeat (first | (with_reducible exact HR120_0.out) | (with_reducible refine Kd.C_alloc ?_ _) | (with_reducible refine Kd.C_drewN ?_ _) | (with_reducible refine Kd.C_drew ?_) | exact HR120_0.out)) | (with_reducible refine Kd.C_alloc ?_ _) | (with_reducible refine Kd.C_drewN ?_ _) | (with_reducible refine Kd.C_drew ?_))); (case aB => exact (by repeat (first | (with_reducible first | exact HB.out | apply below_alloc | apply pw_below_drewN | apply below_drew1) | exact HB.out))); (case aF => exact (fun k_ hk => (Nat.le_trans (below_size (by repeat (first | (with_reducible first | exact HB.out | apply below_alloc | apply pw_below_drewN | apply below_drew1) | exact HB.out))) hk))); (case aO => exact ((Kd.R_nil _ _ _ _ (fun k_ => (w.heap.size ≤ k_))))); (case aS => exact (below_size (by repeat (first | (with_reducible first | exact HB.out | apply below_alloc | apply pw_below_drewN | apply below_drew1) | exact HB.out)))); (case aL => have := LMc44.out; omega); intro v122 w75 ho hb hg hat; rw [← Ny121.out] at ho; have n0_ := Aside0.mk (Kd.N_afterv (Kd.N_apart_nil (by (with_reducible repeat (first | apply Kd.N_alloc | apply Kd.N_drewN | apply Kd.N_drew)); exact HO_6.out)) hg hat); have n1_ := Aside0.mk (Kd.R_grown (by (with_reducible repeat (first | apply Kd.R_alloc | apply Kd.R_drewN | apply Kd.R_drew)); exact HO_7.out) hg (fun _ _ => by simp [Value.ownBlock])); have n2_ := Aside0.mk (Kd.N_afterv (Kd.N_apart_nil (by (with_reducible repeat (first | apply Kd.N_alloc | apply Kd.N_drewN | apply Kd.N_drew)); exact HO_9.out)) hg hat); have n3_ := Aside0.mk (Kd.R_grown (by (with_reducible repeat (first | apply Kd.R_alloc | apply Kd.R_drewN | apply Kd.R_drew)); exact HO_10.out) hg (fun _ _ => by simp [Value.ownBlock])); have n4_ := Aside0.mk (Kd.V_afterv (Kd.V_apart_nil (by (with_reducible repeat (first | apply Kd.V_alloc | apply Kd.V_drewN | apply Kd.V_drew)); exact HL120_0.out)) hg hat); have n5_ := Aside0.mk (hb); have n6_ := Aside0.mk (ho); clear HO_6; clear HO_7; clear HO_9; clear HO_10; clear HL120_0; clear HB; have HO_6 := n0_; have HO_7 := n1_; have HO_9 := n2_; have HO_10 := n3_; have HL120_0 := n4_; have HB := n5_; have HO123 := n6_; clear n0_ n1_ n2_ n3_ n4_ n5_ n6_; clear ho hb hg hat) | ((with_reducible refine gate_builtin (b := .append) (xs := #[.tmp 85, .tmp 87]) rfl ?_); (try (refine gate_guard (by rfl) ?_; dsimp only)); at_builtin; refine Kd.R_append (Kd.int .i64) (w0 := w) w.heap.size rfl (.tmp 85) (.tmp 87) 22 3 (.int .i64 0) 8 rfl Tryd.underlying22 info3 rfl (by decide) (by omega) v122 y121 x12_4 [.int .i64 x12_4] (fun k_ => (w.heap.size ≤ k_)) (fun _ => False) rfl rfl ?aP (fun _ hk => hk.elim) ?aF ?aO ?aB ?aS ?aL ?_; (case aP => exact rfl); (case aB => exact (by repeat (first | (with_reducible first | exact HB.out | apply below_alloc | apply pw_below_drewN | apply below_drew1) | exact HB.out))); (case aF => exact (fun k_ hk => (Nat.le_trans (below_size (by repeat (first | (with_reducible first | exact HB.out | apply below_alloc | apply pw_below_drewN | apply below_drew1) | exact HB.out))) hk))); (case aO => exact (by (with_reducible repeat (first | apply Kd.R_alloc | apply Kd.R_drewN | apply Kd.R_drew)); exact HO123.out)); (case aS => exact (below_size (by repeat (first | (with_reducible first | exact HB.out | apply below_alloc | apply pw_below_drewN | apply below_drew1) | exact HB.out)))); (case aL => have := LMc45.out; omega); intro v125 w76 ho hb hg hat; rw [← Ny124.out] at ho; have n0_ := Aside0.mk (Kd.N_afterv (ok := (fun k_ => (w.heap.size ≤ k_) ∧ some k_ ≠ (.slice (some ⟨go12, 0, none⟩) x7_2.length co12 : Value).ownBlock ∧ some k_ ≠ (v110 : Value).ownBlock ∧ some k_ ≠ (v113 : Value).ownBlock)) (by (with_reducible repeat (first | apply Kd.N_alloc | apply Kd.N_drewN | apply Kd.N_drew)); exact HO_6.out) hg hat); have n1_ := Aside0.mk (Kd.R_over' (by (with_reducible repeat (first | apply Kd.R_alloc | apply Kd.R_drewN | apply Kd.R_drew)); exact HO_7.out) (Kd.R_typed (by (with_reducible repeat (first | apply Kd.R_alloc | apply Kd.R_drewN | apply Kd.R_drew)); exact HO123.out)) (by decide) hg); have n2_ := Aside0.mk (Kd.N_afterv (ok := (fun k_ => (w.heap.size ≤ k_) ∧ some k_ ≠ (.slice (some ad120) x6_2.length co74 : Value).ownBlock ∧ some k_ ≠ (.slice (some ⟨go12, 0, none⟩) x7_2.length co12 : Value).ownBlock ∧ some k_ ≠ (v113 : Value).ownBlock)) (by (with_reducible repeat (first | apply Kd.N_alloc | apply Kd.N_drewN | apply Kd.N_drew)); exact HO_9.out) hg hat); have n3_ := Aside0.mk (Kd.R_over' (by (with_reducible repeat (first | apply Kd.R_alloc | apply Kd.R_drewN | apply Kd.R_drew)); exact HO_10.out) (Kd.R_typed (by (with_reducible repeat (first | apply Kd.R_alloc | apply Kd.R_drewN | apply Kd.R_drew)); exact HO123.out)) (by decide) hg); have n4_ := Aside0.mk (Kd.V_afterv (ok := (fun k_ => (w.heap.size ≤ k_) ∧ some k_ ≠ (.slice (some ad120) x6_2.length co74 : Value).ownBlock ∧ some k_ ≠ (.slice (some ⟨go12, 0, none⟩) x7_2.length co12 : Value).ownBlock ∧ some k_ ≠ (v110 : Value).ownBlock ∧ some k_ ≠ (v113 : Value).ownBlock)) (by (with_reducible repeat (first | apply Kd.V_alloc | apply Kd.V_drewN | apply Kd.V_drew)); exact Kd.V_mono HL120_0.out (fun _ hk => ⟨⟨hk.1.1.1, ⟨hk.1.2, ⟨hk.1.1.2.1, ⟨hk.1.1.2.2.1, hk.1.1.2.2.2⟩⟩⟩⟩, hk.2⟩)) hg hat); have n5_ := Aside0.mk (hb); have n6_ := Aside0.mk (ho); clear HO_6; clear HO_7; clear HO_9; clear HO_10; clear HL120_0; clear HB; clear HO123; have HO_6 := n0_; have HO_7 := n1_; have HO_9 := n2_; have HO_10 := n3_; have HL120_0 := n4_; have HB := n5_; have HO126 := n6_; clear n0_ n1_ n2_ n3_ n4_ n5_ n6_; obtain ⟨Ao125, co125, eo125⟩ := Kd.R_slice HO126.out; subst eo125; clear ho hb hg hat; obtain ⟨Ao77, co77, eo77⟩ := Kd.R_slice HO_10.out; subst eo77; have p127 : 0 ≤ (t117 : Int) := of_decide_eq_true (by first | (with_reducible assumption) | assumption); have q127 : t117 < (x10_4.length : Int) := of_decide_eq_true (by first | (with_reducible assumption) | assumption); obtain ⟨ad127, e127, hx127_0⟩ := Kd.at_bool (Kd.R_reads' HO_10.out).2.2 t117 p127 q127; (try rw [← Nbq48.out] at hx127_0); cases e127; replace p127 := eq_true p127; replace q127 := eq_true q127; have p72 : 0 ≤ (t117 : Int) := of_decide_eq_true (by first | (with_reducible assumption) | assumption); have q72 : (t117 : Int) < ((x9_4.length : Int) : Int) := of_decide_eq_true (by first | (with_reducible assumption) | assumption); obtain ⟨go72, co72, eo72, gb72, gl72, cl72, HG72⟩ := Kd.N_form HO_9.out (by omega); (first | cases eo72 | (injection eo72 with ea_ en_ ec_; (first | subst ea_ | (injection ea_ with ea_; subst ea_)); subst ec_; clear en_)); have GB72 := Aside0.mk gb72; have GG72 := Aside0.mk HG72; clear gb72 gl72 HG72; obtain ⟨ce72, hcl72, hM72, hcc72, hfr72⟩ := Kd.N_elem HO_9.out [] (t117 : Int) p72 q72; obtain ⟨ua72_0, uc72_0, rfl, ul72_0, ge72_0⟩ := Kd.FK_slice_open hM72; have hx72_0 := hcc72 0 _ rfl; have hf72_0 := hfr72 0; (try simp only [show ((Kd.slice 3 (Kd.int .i64))).sz = 1 from rfl, Nat.mul_one, Nat.add_zero] at hx72_0); (try simp only [show ((Kd.slice 3 (Kd.int .i64))).sz = 1 from rfl, Nat.mul_one, Nat.add_zero] at hf72_0); clear hcl72 hcc72 hfr72 hM72; replace p72 := eq_true p72; replace q72 := eq_true q72; have n_ := Aside0.mk (Kd.N_mono (ok' := (fun k_ => (w.heap.size ≤ k_) ∧ some k_ ≠ (.slice (some ad120) x6_2.length co74 : Value).ownBlock ∧ some k_ ≠ (.slice (some ⟨go12, 0, none⟩) x7_2.length co12 : Value).ownBlock ∧ some k_ ≠ (.slice (some ad127) x10_4.length co77 : Value).ownBlock ∧ some k_ ≠ ((.slice Ao125 y124.length co125 : Value) : Value).ownBlock)) HO_9.out (fun k_ hk => by first | exact ⟨hk.1.1, ⟨hk.1.2.1, ⟨hk.1.2.2.1, ⟨hk.1.2.2.2, hk.2⟩⟩⟩⟩ | exact hk | (refine ⟨?_, ?_, ?_, ?_, ?_⟩ <;> first | exact hk.1 | exact hk.2.1 | exact hk.2.2.1 | exact hk.2.2.2.1 | exact hk.2.2.2.2))); clear HO_9; have HO_9 := n_; clear n_; have HX78 := Aside0.mk (show Kd.N (Kd.slice 3 (Kd.int .i64)) 22 w76 w.heap.size (fun k_ => (w.heap.size ≤ k_) ∧ some k_ ≠ (.slice (some ad120) x6_2.length co74 : Value).ownBlock ∧ some k_ ≠ (.slice (some ⟨go12, 0, none⟩) x7_2.length co12 : Value).ownBlock ∧ some k_ ≠ (.slice (some ad127) x10_4.length co77 : Value).ownBlock) (.slice (some ⟨go72, 0, none⟩) x9_4.length co72) x9_4 from (by (with_reducible repeat (first | apply Kd.N_alloc | apply Kd.N_drewN | apply Kd.N_drew)); exact Kd.N_mono HO_9.out (fun _ hk => ⟨hk.1, ⟨hk.2.1, ⟨hk.2.2.1, hk.2.2.2.1⟩⟩⟩))); obtain ⟨ce78, hcl78, hM78, hcc78, hfr78⟩ := Kd.N_elem HX78.out [] (t117 : Int) (of_decide_eq_true (by first | (with_reducible assumption) | assumption)) (by have h_ : (t117 : Int) < ((x9_4.length : Int) : Int) := of_decide_eq_true (by first | (with_reducible assumption) | assumption); first | exact h_ | (have e_ := (Kd.N_reads' HO_9.out).1; omega) | simpa using h_); obtain ⟨ua78_0, uc78_0, rfl, ul78_0, ge78_0⟩ := Kd.FK_slice_open hM78; have HP78 := Kd.N_seg HX78.out (t117 : Int) (of_decide_eq_true (by first | (with_reducible assumption) | assumption)) (by have h_ : (t117 : Int) < ((x9_4.length : Int) : Int) := of_decide_eq_true (by first | (with_reducible assumption) | assumption); first | exact h_ | (have e_ := (Kd.N_reads' HO_9.out).1; omega) | simpa using h_) (seg := [(.slice Ao125 y124.length co125 : Value)]) (j := 0) hcl78 hcc78 (show 1 ≤ 1 from by decide) (x' := y124) (Kd.FK_slice_mk (Kd.R_reads' (Kd.R_mono (ok' := (fun k_ => ((fun k_ => (w.heap.size ≤ k_) ∧ some k_ ≠ (.slice (some ad120) x6_2.length co74 : Value).ownBlock ∧ some k_ ≠ (.slice (some ⟨go12, 0, none⟩) x7_2.length co12 : Value).ownBlock ∧ some k_ ≠ (.slice (some ad127) x10_4.length co77 : Value).ownBlock)) k_ ∧ k_ ≠ go72)) (Kd.R_apart' (Kd.R_apart' (Kd.R_apart' (Kd.R_apart' (HO126.out) (Kd.N_typed HO_6.out) (by decide)) (Kd.R_typed HO_7.out) (by decide)) (Kd.R_typed HO_10.out) (by decide)) (Kd.N_typed HO_9.out) (by decide)) (fun k_ hk => ⟨⟨hk.1.1.1.1, ⟨hk.1.1.1.2, ⟨hk.1.1.2, hk.1.2⟩⟩⟩, fun e_ => (hk.2) (by rw [e_]; rfl)⟩))).2.1 (Kd.R_F (Kd.R_mono (ok' := (fun k_ => ((fun k_ => (w.heap.size ≤ k_) ∧ some k_ ≠ (.slice (some ad120) x6_2.length co74 : Value).ownBlock ∧ some k_ ≠ (.slice (some ⟨go12, 0, none⟩) x7_2.length co12 : Value).ownBlock ∧ some k_ ≠ (.slice (some ad127) x10_4.length co77 : Value).ownBlock)) k_ ∧ k_ ≠ go72)) (Kd.R_apart' (Kd.R_apart' (Kd.R_apart' (Kd.R_apart' (HO126.out) (Kd.N_typed HO_6.out) (by decide)) (Kd.R_typed HO_7.out) (by decide)) (Kd.R_typed HO_10.out) (by decide)) (Kd.N_typed HO_9.out) (by decide)) (fun k_ hk => ⟨⟨hk.1.1.1.1, ⟨hk.1.1.1.2, ⟨hk.1.1.2, hk.1.2⟩⟩⟩, fun e_ => (hk.2) (by rw [e_]; rfl)⟩)))) (fun _ hk => hk); have hx78_0 := hcc78 0 _ rfl; (try simp only [show ((Kd.slice 3 (Kd.int .i64))).sz = 1 from rfl, Nat.mul_one, Nat.add_zero] at hx78_0); have hf78_0 := hfr78 0; (try simp only [show ((Kd.slice 3 (Kd.int .i64))).sz = 1 from rfl, Nat.mul_one, Nat.add_zero] at hf78_0); clear hcl78 hcc78 hfr78 hM78; (try simp only [show ((Kd.slice 3 (Kd.int .i64))).sz = 1 from rfl, Nat.mul_one, Nat.add_zero] at HP78); (try simp only [show ((Kd.slice 3 (Kd.int .i64))).sz = 1 from rfl, Nat.mul_one, Nat.add_zero] at HP78)) | ((with_reducible refine gate_store (t := 22) (p := 107) rfl ?_); refine store_event (t := 22) (p := 107) (v := ?vo_w79) (w1 := (w76.setCell ⟨go72, (t117 : Int).toNat, none⟩ ((.slice Ao125 y124.length co125 : Value)))) ?hg ?ho ?hn ?hr ?_; (case ho => rfl); (case hg => rfl); (case hn => rfl); (case hr => first | (go_simp; done) | (go_simp; rfl)); intro w79 hw; have hg : w76.grownBy w79 (some go72) := (by rw [hw]; exact HP78.2); have hp_ : Kd.N (Kd.slice 3 (Kd.int .i64)) 22 w79 w.heap.size (fun k_ => (w.heap.size ≤ k_) ∧ some k_ ≠ (.slice (some ad120) x6_2.length co74 : Value).ownBlock ∧ some k_ ≠ (.slice (some ⟨go12, 0, none⟩) x7_2.length co12 : Value).ownBlock ∧ some k_ ≠ (.slice (some ad127) x10_4.length co77 : Value).ownBlock) (.slice (some ⟨go72, 0, none⟩) x9_4.length co72) y132 := (by rw [hw, Ny132.out]; exact HP78.1); clear HP78; have n0_ := Aside0.mk (Kd.N_afterv (v := (.slice (some ⟨go72, 0, none⟩) x9_4.length co72)) (v1 := (.slice (some ⟨go72, 0, none⟩) x9_4.length co72)) (ok := (fun k_ => (w.heap.size ≤ k_) ∧ some k_ ≠ (.slice (some ⟨go12, 0, none⟩) x7_2.length co12 : Value).ownBlock ∧ some k_ ≠ (.slice (some ad127) x10_4.length co77 : Value).ownBlock ∧ some k_ ≠ ((.slice Ao125 y124.length co125 : Value) : Value).ownBlock)) (by (with_reducible repeat (first | apply Kd.N_alloc | apply Kd.N_drewN | apply Kd.N_drew)); exact Kd.N_mono HO_6.out (fun _ hk => ⟨⟨hk.1.1, ⟨hk.1.2.1, ⟨hk.1.2.2.2, hk.2⟩⟩⟩, hk.1.2.2.1⟩)) hg (.inl rfl)); have n1_ := Aside0.mk (Kd.R_over' (v := (.slice (some ⟨go72, 0, none⟩) x9_4.length co72)) (by (with_reducible repeat (first | apply Kd.R_alloc | apply Kd.R_drewN | apply Kd.R_drew)); exact HO_7.out) (Kd.N_typed HO_9.out) (by decide) hg); have n2_ := Aside0.mk (hp_); have n3_ := Aside0.mk (Kd.R_over' (v := (.slice (some ⟨go72, 0, none⟩) x9_4.length co72)) (by (with_reducible repeat (first | apply Kd.R_alloc | apply Kd.R_drewN | apply Kd.R_drew)); exact HO_10.out) (Kd.N_typed HO_9.out) (by decide) hg); have n4_ := Aside0.mk (Kd.V_afterv (v := (.slice (some ⟨go72, 0, none⟩) x9_4.length co72)) (v1 := (.slice (some ⟨go72, 0, none⟩) x9_4.length co72)) (ok := (fun k_ => (w.heap.size ≤ k_) ∧ some k_ ≠ (.slice (some ad120) x6_2.length co74 : Value).ownBlock ∧ some k_ ≠ (.slice (some ⟨go12, 0, none⟩) x7_2.length co12 : Value).ownBlock ∧ some k_ ≠ (.slice (some ad127) x10_4.length co77 : Value).ownBlock ∧ some k_ ≠ ((.slice Ao125 y124.length co125 : Value) : Value).ownBlock)) (by (with_reducible repeat (first | apply Kd.V_alloc | apply Kd.V_drewN | apply Kd.V_drew)); exact Kd.V_mono HL120_0.out (fun _ hk => ⟨⟨hk.1.1, ⟨hk.1.2.1, ⟨hk.1.2.2.1, ⟨hk.1.2.2.2.2, hk.2⟩⟩⟩⟩, hk.1.2.2.2.1⟩)) hg (.inl rfl)); have n5_ := Aside0.mk ((by rw [hw]; exact below_set (HB.out) GB72.out : Below w.heap.size w w79)); clear HO_6; clear HO_7; clear HO_9; clear HO_10; clear HL120_0; clear HB; clear HO126; have HO_6 := n0_; have HO_7 := n1_; have HO_9 := n2_; have HO_10 := n3_; have HL120_0 := n4_; have HB := n5_; clear n0_ n1_ n2_ n3_ n4_ n5_; clear hg hw hp_; have p73 : 0 ≤ (t117 : Int) := of_decide_eq_true (by first | (with_reducible assumption) | assumption); have q73 : (t117 : Int) < ((x10_4.length : Int) : Int) := of_decide_eq_true (by first | (with_reducible assumption) | assumption); obtain ⟨go73, co73, eo73, gb73, gl73, cl73, HG73⟩ := Kd.R_form HO_10.out (by omega); (first | cases eo73 | (injection eo73 with ea_ en_ ec_; (first | subst ea_ | (injection ea_ with ea_; subst ea_)); subst ec_; clear en_)); have GB73 := Aside0.mk gb73; have GG73 := Aside0.mk HG73; clear gb73 gl73 HG73; (first | simp only [add_plain] at hx127_0 | skip); obtain ⟨hx73_0, hf73_0⟩ := Kd.R_celln false HO_10.out (t117 : Int) p73 q73; replace p73 := eq_true p73; replace q73 := eq_true q73; obtain ⟨hy80_, hz80_⟩ := Kd.R_celln false HO_10.out (t117 : Int) (of_decide_eq_true (by first | (with_reducible assumption) | assumption)) (of_decide_eq_true (by first | (with_reducible assumption) | assumption)); have HP80 := Kd.R_putg HO_10.out (t117 : Int) true) | ((with_reducible refine gate_store (t := 4) (p := 110) rfl ?_); refine store_event (t := 4) (p := 110) (v := ?vo_w81) (w1 := (w79.setCell ⟨go73, (t117 : Int).toNat, none⟩ (.bool true))) ?hg ?ho ?hn ?hr ?_; (case ho => rfl); (case hg => rfl); (case hn => rfl); (case hr => first | (go_simp; done) | (go_simp; rfl)); intro w81 hw; have hg : w79.grownBy w81 (some go73) := (by rw [hw]; exact HP80.2); have hp_ : Kd.R Kd.bool 4 w81 w.heap.size (fun k_ => (w.heap.size ≤ k_) ∧ some k_ ≠ (.slice (some ⟨go12, 0, none⟩) x7_2.length co12 : Value).ownBlock) (.slice (some ⟨go73, 0, none⟩) x10_4.length co77) y133 := (by rw [hw, Ny133.out]; exact HP80.1); clear HP80; have n0_ := Aside0.mk (Kd.N_afterv (v := (.slice (some ⟨go73, 0, none⟩) x10_4.length co77)) (v1 := (.slice (some ⟨go73, 0, none⟩) x10_4.length co77)) (ok := (fun k_ => (w.heap.size ≤ k_) ∧ some k_ ≠ (.slice (some ⟨go12, 0, none⟩) x7_2.length co12 : Value).ownBlock ∧ some k_ ≠ (.slice (some ⟨go72, 0, none⟩) x9_4.length co72 : Value).ownBlock)) (by (with_reducible repeat (first | apply Kd.N_alloc | apply Kd.N_drewN | apply Kd.N_drew)); exact Kd.N_mono HO_6.out (fun _ hk => ⟨⟨hk.1.1, ⟨hk.1.2.1, hk.2⟩⟩, hk.1.2.2.1⟩)) hg (.inl rfl)); have n1_ := Aside0.mk (Kd.R_after (v := (.slice (some ⟨go73, 0, none⟩) x10_4.length co77)) (v1 := (.slice (some ⟨go73, 0, none⟩) x10_4.length co77)) (ok := (fun k_ => (w.heap.size ≤ k_))) (by (with_reducible repeat (first | apply Kd.R_alloc | apply Kd.R_drewN | apply Kd.R_drew)); exact HO_7.out) hg (.inl rfl)); have n2_ := Aside0.mk (Kd.N_afterv (v := (.slice (some ⟨go73, 0, none⟩) x10_4.length co77)) (v1 := (.slice (some ⟨go73, 0, none⟩) x10_4.length co77)) (ok := (fun k_ => (w.heap.size ≤ k_) ∧ some k_ ≠ (.slice (some ad120) x6_2.length co74 : Value).ownBlock ∧ some k_ ≠ (.slice (some ⟨go12, 0, none⟩) x7_2.length co12 : Value).ownBlock)) (by (with_reducible repeat (first | apply Kd.N_alloc | apply Kd.N_drewN | apply Kd.N_drew)); exact Kd.N_mono HO_9.out (fun _ hk => ⟨⟨hk.1, ⟨hk.2.1, hk.2.2.1⟩⟩, hk.2.2.2⟩)) hg (.inl rfl)); have n3_ := Aside0.mk (hp_); have n4_ := Aside0.mk (Kd.V_afterv (v := (.slice (some ⟨go73, 0, none⟩) x10_4.length co77)) (v1 := (.slice (some ⟨go73, 0, none⟩) x10_4.length co77)) (ok := (fun k_ => (w.heap.size ≤ k_) ∧ some k_ ≠ (.slice (some ad120) x6_2.length co74 : Value).ownBlock ∧ some k_ ≠ (.slice (some ⟨go12, 0, none⟩) x7_2.length co12 : Value).ownBlock ∧ some k_ ≠ (.slice (some ⟨go72, 0, none⟩) x9_4.length co72 : Value).ownBlock)) (by (with_reducible repeat (first | apply Kd.V_alloc | apply Kd.V_drewN | apply Kd.V_drew)); exact Kd.V_mono HL120_0.out (fun _ hk => ⟨⟨hk.1.1, ⟨hk.1.2.1, ⟨hk.1.2.2.1, hk.2⟩⟩⟩, hk.1.2.2.2.1⟩)) hg (.inl rfl)); have n5_ := Aside0.mk ((by rw [hw]; exact below_set (HB.out) GB73.out : Below w.heap.size w w81)); clear HO_6; clear HO_7; clear HO_9; clear HO_10; clear HL120_0; clear HB; have HO_6 := n0_; have HO_7 := n1_; have HO_9 := n2_; have HO_10 := n3_; have HL120_0 := n4_; have HB := n5_; clear n0_ n1_ n2_ n3_ n4_ n5_; clear hg hw hp_))
                                                                go_roundg kj36
                                                                case measure => have := HJ2.out; have := HK2.out; have := HK3.out; have := HK4.out; have := HJ26.out; have := HJ36.out; omega
                                                                case rel => exact ⟨(y132), (y133), (wrap64 (x12_4 + 1)), (by first | rfl | (simp; done) | (simp [*]; done)), H', ⟨by have := HJ2.out; have := HK2.out; have := HK3.out; have := HK4.out; have := HJ26.out; have := HJ36.out; omega⟩, ⟨by (try simp only [hl7_2]); (with_reducible repeat (first | apply Kd.N_alloc | apply Kd.N_drewN | apply Kd.N_drew)); exact Kd.N_mono HO_6.out (fun _ hk => ⟨hk.1.1, ⟨hk.1.2.1, ⟨hk.1.2.2, hk.2⟩⟩⟩)⟩, ⟨by (try simp only [hl7_2]); (with_reducible repeat (first | apply Kd.R_alloc | apply Kd.R_drewN | apply Kd.R_drew)); exact HO_7.out⟩, ⟨by (try simp only [hl7_2]); (with_reducible repeat (first | apply Kd.N_alloc | apply Kd.N_drewN | apply Kd.N_drew)); exact Kd.N_mono HO_9.out (fun _ hk => ⟨hk.1.1, ⟨hk.1.2.1, ⟨hk.1.2.2, hk.2⟩⟩⟩)⟩, ⟨by (try simp only [hl7_2]); (with_reducible repeat (first | apply Kd.R_alloc | apply Kd.R_drewN | apply Kd.R_drew)); exact HO_10.out⟩, ⟨by repeat (first | (with_reducible first | exact HB.out | apply below_alloc | apply pw_below_drewN | apply below_drew1) | exact HB.out)⟩⟩
                                                              · rw [if_neg c71] at H
                                                                exact absurd H (by simp)
                                                          · rw [if_neg c47] at H
                                                            exact absurd H (by simp)
                                                        · rw [if_neg c46] at H
                                                          exact absurd H (by simp)
                                                      · rw [if_neg c45] at H
                                                        exact absurd H (by simp)
                                                    · rw [if_neg c44] at H
                                                      exact absurd H (by simp)
                                                  · rw [if_neg c43] at H
                                                    exact absurd H (by simp)
                                                · rw [if_neg c42] at H
                                                  exact absurd H (by simp)
                                        · replace c35 := Bool.eq_false_iff.mpr c35
                                          subst c35
                                          have H1 : (vespersref20_Way.l1 kj26 a1 x6_2 x7_2 x8_2 x9_4 x10_4 (wrap64 (x11_3 + 1))) = some (r1, r2) := by rw [if_neg (show ¬ (false = true) by decide)] at H; exact H
                                          clear H
                                          have H := H1
                                          clear H1
                                          have H' := Aside0.mk H
                                          clear H
                                          go_wp2
                                          go_roundg kj26
                                          case measure => have := HJ2.out; have := HK2.out; have := HK3.out; have := HK4.out; have := HJ26.out; omega
                                          case rel => exact ⟨(x9_4), (x10_4), (wrap64 (x11_3 + 1)), (by first | rfl | (simp; done) | (simp [*]; done)), H', ⟨by have := HJ2.out; have := HK2.out; have := HK3.out; have := HK4.out; have := HJ26.out; omega⟩, ⟨by (try simp only [hl7_2]); (with_reducible repeat (first | apply Kd.N_alloc | apply Kd.N_drewN | apply Kd.N_drew)); exact HO_6.out⟩, ⟨by (try simp only [hl7_2]); (with_reducible repeat (first | apply Kd.R_alloc | apply Kd.R_drewN | apply Kd.R_drew)); exact HO_7.out⟩, ⟨by (try simp only [hl7_2]); (with_reducible repeat (first | apply Kd.N_alloc | apply Kd.N_drewN | apply Kd.N_drew)); exact HO_9.out⟩, ⟨by (try simp only [hl7_2]); (with_reducible repeat (first | apply Kd.R_alloc | apply Kd.R_drewN | apply Kd.R_drew)); exact HO_10.out⟩, ⟨by repeat (first | (with_reducible first | exact HB.out | apply below_alloc | apply pw_below_drewN | apply below_drew1) | exact HB.out)⟩⟩
                              · rw [if_neg c26] at H
                                have c26b0 : decide (x11_3 < 7) = false := decide_eq_false c26
                                clear c26
                                have H' := Aside0.mk H
                                clear H
                                go_wp2
                                go_loopg [17] k3 (fun kq v17 w' => ∃ (x6_4 : List (List Int)) (x7_4 : List Bool) (x17_4 : Int), v17 = .int .i64 x17_4 ∧ Aside0 (vespersref20_Way.l3 kq a1 x6_4 x7_4 x8_2 x9_3 x10_3 x17_4 = some (r1, r2)) ∧ Aside0 (kq ≤ k3) ∧ Aside0 (Kd.N (Kd.slice 3 (Kd.int .i64)) 22 w' w.heap.size (fun k_ => (w.heap.size ≤ k_) ∧ some k_ ≠ ((.slice (some ⟨go12, 0, none⟩) x7_2.length co12) : Value).ownBlock ∧ some k_ ≠ (v110 : Value).ownBlock ∧ some k_ ≠ (v113 : Value).ownBlock) v102 x6_4) ∧ Aside0 (Kd.R Kd.bool 4 w' w.heap.size (fun k_ => (w.heap.size ≤ k_) ∧ some k_ ≠ (v113 : Value).ownBlock) (.slice (some ⟨go12, 0, none⟩) x7_2.length co12) x7_4) ∧ Aside0 (Kd.N (Kd.slice 3 (Kd.int .i64)) 22 w' w.heap.size (fun k_ => (w.heap.size ≤ k_) ∧ some k_ ≠ (v102 : Value).ownBlock ∧ some k_ ≠ ((.slice (some ⟨go12, 0, none⟩) x7_2.length co12) : Value).ownBlock ∧ some k_ ≠ (v113 : Value).ownBlock) v110 x9_3) ∧ Aside0 (Kd.R Kd.bool 4 w' w.heap.size (fun k_ => (w.heap.size ≤ k_) ∧ some k_ ≠ ((.slice (some ⟨go12, 0, none⟩) x7_2.length co12) : Value).ownBlock) v113 x10_3) ∧ Aside0 (Below w.heap.size w w'))
                                case atStart => exact ⟨(x6_2), (x7_2), (0), (by first | rfl | (simp; done) | (simp [*]; done)), H', ⟨Nat.le_refl _⟩, ⟨by (try simp only [hl7_2]); (with_reducible repeat (first | apply Kd.N_alloc | apply Kd.N_drewN | apply Kd.N_drew)); exact HO_6.out⟩, ⟨by (try simp only [hl7_2]); (with_reducible repeat (first | apply Kd.R_alloc | apply Kd.R_drewN | apply Kd.R_drew)); exact HO_7.out⟩, ⟨by (try simp only [hl7_2]); (with_reducible repeat (first | apply Kd.N_alloc | apply Kd.N_drewN | apply Kd.N_drew)); exact HO_9.out⟩, ⟨by (try simp only [hl7_2]); (with_reducible repeat (first | apply Kd.R_alloc | apply Kd.R_drewN | apply Kd.R_drew)); exact HO_10.out⟩, ⟨by repeat (first | (with_reducible first | exact HB.out | apply below_alloc | apply pw_below_drewN | apply below_drew1) | exact HB.out)⟩⟩
                                case round =>
                                  clear H'
                                  try clear c1
                                  try clear p1
                                  try clear q1
                                  try clear hx1
                                  try clear c2
                                  try clear p2
                                  try clear c3
                                  try clear q3
                                  try clear c4
                                  try clear c4b0
                                  try clear q4
                                  try clear c5
                                  try clear c5b0
                                  try clear p5
                                  try clear q5
                                  try clear hx5
                                  try clear hf5
                                  try clear c6
                                  try clear c6b0
                                  try clear p6
                                  try clear hx6
                                  try clear hf6
                                  try clear c7
                                  try clear p7
                                  try clear q7
                                  try clear hx7
                                  try clear hf7
                                  try clear c8
                                  try clear c8b0
                                  try clear c8b1
                                  try clear c9
                                  try clear c9b0
                                  try clear c9b1
                                  try clear c10
                                  try clear c10b0
                                  try clear c11
                                  try clear c11b0
                                  try clear p11
                                  try clear q11
                                  try clear hx11
                                  try clear c12
                                  try clear p12
                                  try clear q12
                                  try clear hx12
                                  try clear hf12
                                  try clear c19
                                  try clear c19b0
                                  try clear c20
                                  try clear c20b0
                                  try clear c20b1
                                  try clear c21
                                  try clear c21b0
                                  try clear c21b1
                                  try clear c26
                                  try clear c26b0
                                  try clear c28
                                  try clear c28b0
                                  try clear c29
                                  try clear c29b0
                                  try clear c30
                                  try clear c30b0
                                  try clear q31
                                  try clear c32
                                  try clear c33
                                  try clear c33b0
                                  try clear c35
                                  try clear c38
                                  try clear c38b0
                                  try clear c38b1
                                  try clear c39
                                  try clear c39b0
                                  try clear c40
                                  try clear c40b0
                                  try clear c41
                                  try clear c42
                                  try clear c42b0
                                  try clear c43
                                  try clear c43b0
                                  try clear c44
                                  try clear c45
                                  try clear c46
                                  try clear c46b0
                                  try clear c47
                                  try clear c47b0
                                  try clear q48
                                  try clear c49
                                  try clear c50
                                  try clear c50b0
                                  try clear c52
                                  try clear c53
                                  try clear p53
                                  try clear q53
                                  try clear hx53
                                  try clear hf53
                                  try clear p54
                                  try clear q54
                                  try clear hx54
                                  try clear hf54
                                  try clear c61
                                  try clear hx61
                                  try clear hf61
                                  try clear p64
                                  try clear c71
                                  try clear c71b0
                                  try clear c72
                                  try clear p72
                                  try clear q72
                                  try clear hx72
                                  try clear hf72
                                  try clear p73
                                  try clear q73
                                  try clear hx73
                                  try clear hf73
                                  try clear c78
                                  try clear hx78
                                  try clear hf78
                                  try clear hx115_0
                                  try clear hx116_0
                                  try clear hx119_0
                                  try clear hx120_0
                                  try clear hx127_0
                                  try clear hx128_0
                                  try clear hx12_0
                                  try clear hx53_0
                                  try clear hx54_0
                                  try clear hx61_0
                                  try clear hx72_0
                                  try clear hx73_0
                                  try clear hx78_0
                                  try clear p1
                                  try clear p11
                                  try clear p115
                                  try clear p116
                                  try clear p119
                                  try clear p12
                                  try clear p120
                                  try clear p127
                                  try clear p128
                                  try clear p2
                                  try clear p53
                                  try clear p54
                                  try clear p72
                                  try clear p73
                                  try clear q1
                                  try clear q11
                                  try clear q115
                                  try clear q116
                                  try clear q119
                                  try clear q12
                                  try clear q120
                                  try clear q127
                                  try clear q128
                                  try clear q3
                                  try clear q31
                                  try clear q53
                                  try clear q54
                                  try clear q72
                                  try clear q73
                                  obtain ⟨x6_4, x7_4, x17_4, rfl, HA, HK4, HO_6, HO_7, HO_9, HO_10, HB⟩ := hrel
                                  have hl7_4 := (Kd.R_reads' HO_7.out).1
                                  rw [hl7_4] at HO_7
                                  (try simp only [hl7_4])
                                  (try simp only [hl7_4] at HO_6)
                                  (try simp only [hl7_4] at HO_9)
                                  (try simp only [hl7_4] at HO_10)
                                  cases gk with
                                  | zero => exact absurd HA.out (by simp [vespersref20_Way.l3])
                                  | succ k4 =>
                                    have H := HA.out
                                    clear HA
                                    simp only [vespersref20_Way.l3] at H
                                    by_cases c82 : x17_4 < 7
                                    · rw [if_pos c82] at H
                                      have c82b0 : decide (x17_4 < 7) = true := decide_eq_true c82
                                      clear c82
                                      by_cases c83 : 0 ≤ x17_4
                                      · rw [if_pos c83] at H
                                        have c83b0 : decide (0 ≤ x17_4) = true := decide_eq_true c83
                                        clear c83
                                        by_cases c84 : x17_4 < (x10_3.length : Int)
                                        · rw [if_pos c84] at H
                                          have c84b0 : decide (x17_4 < (x10_3.length : Int)) = true := decide_eq_true c84
                                          clear c84
                                          obtain ⟨bq85, hbq85⟩ : ∃ b_ : Bool, b_ = (rdOf false x10_3 x17_4) := ⟨_, rfl⟩
                                          replace H : (if bq85 = true then (if x17_4 < (x9_3.length : Int) then (if x17_4 < (x6_4.length : Int) then (if x17_4 < (x7_4.length : Int) then (vespersref20_Way.l3 k4 a1 (x6_4.set (x17_4 : Int).toNat (rd_L1 x9_3 x17_4)) (x7_4.set (x17_4 : Int).toNat true) x8_2 x9_3 x10_3 (wrap64 (x17_4 + 1))) else (none)) else (none)) else (none)) else (vespersref20_Way.l3 k4 a1 x6_4 x7_4 x8_2 x9_3 x10_3 (wrap64 (x17_4 + 1)))) = some (r1, r2) := by rw [← hbq85] at H; exact H
                                          have Nbq85 := Aside0.mk hbq85
                                          clear hbq85
                                          by_cases c86 : bq85 = true
                                          · subst c86
                                            have H1 : (if x17_4 < (x9_3.length : Int) then (if x17_4 < (x6_4.length : Int) then (if x17_4 < (x7_4.length : Int) then (vespersref20_Way.l3 k4 a1 (x6_4.set (x17_4 : Int).toNat (rd_L1 x9_3 x17_4)) (x7_4.set (x17_4 : Int).toNat true) x8_2 x9_3 x10_3 (wrap64 (x17_4 + 1))) else (none)) else (none)) else (none)) = some (r1, r2) := by rw [if_pos rfl] at H; exact H
                                            clear H
                                            have H := H1
                                            clear H1
                                            by_cases c87 : x17_4 < (x9_3.length : Int)
                                            · rw [if_pos c87] at H
                                              have c87b0 : decide (x17_4 < (x9_3.length : Int)) = true := decide_eq_true c87
                                              clear c87
                                              by_cases c88 : x17_4 < (x6_4.length : Int)
                                              · rw [if_pos c88] at H
                                                have c88b0 : decide (x17_4 < (x6_4.length : Int)) = true := decide_eq_true c88
                                                clear c88
                                                obtain ⟨y136, hy136⟩ : ∃ y_ : List (List Int), y_ = (x6_4.set (x17_4 : Int).toNat (rd_L1 x9_3 x17_4)) := ⟨_, rfl⟩
                                                replace H : (if x17_4 < (x7_4.length : Int) then (vespersref20_Way.l3 k4 a1 y136 (x7_4.set (x17_4 : Int).toNat true) x8_2 x9_3 x10_3 (wrap64 (x17_4 + 1))) else (none)) = some (r1, r2) := by first | (rw [hy136]; with_reducible exact H) | (have H2_ := (Option.bind_some _ _).symm.trans H; rw [hy136]; with_reducible exact H2_) | (have H2_ := (Option.bind_some _ _).symm.trans H; with_reducible exact H2_) | with_reducible exact H | (rw [hy136]; exact H) | exact H
                                                have Ny136 := Aside0.mk hy136
                                                clear hy136
                                                by_cases c90 : x17_4 < (x7_4.length : Int)
                                                · rw [if_pos c90] at H
                                                  have c90b0 : decide (x17_4 < (x7_4.length : Int)) = true := decide_eq_true c90
                                                  clear c90
                                                  obtain ⟨y137, hy137⟩ : ∃ y_ : List Bool, y_ = (x7_4.set (x17_4 : Int).toNat true) := ⟨_, rfl⟩
                                                  replace H : (vespersref20_Way.l3 k4 a1 y136 y137 x8_2 x9_3 x10_3 (wrap64 (x17_4 + 1))) = some (r1, r2) := by first | (rw [hy137]; with_reducible exact H) | (have H2_ := (Option.bind_some _ _).symm.trans H; rw [hy137]; with_reducible exact H2_) | (have H2_ := (Option.bind_some _ _).symm.trans H; with_reducible exact H2_) | with_reducible exact H | (rw [hy137]; exact H) | exact H
                                                  have Ny137 := Aside0.mk hy137
                                                  clear hy137
                                                  have H' := Aside0.mk H
                                                  clear H
                                                  obtain ⟨Ao92, co92, eo92⟩ := Kd.R_slice HO_10.out
                                                  subst eo92
                                                  have p134 : 0 ≤ (x17_4 : Int) := of_decide_eq_true (by first | (with_reducible assumption) | assumption)
                                                  have q134 : x17_4 < (x10_3.length : Int) := of_decide_eq_true (by first | (with_reducible assumption) | assumption)
                                                  obtain ⟨ad134, e134, hx134_0⟩ := Kd.at_bool (Kd.R_reads' HO_10.out).2.2 x17_4 p134 q134
                                                  (try rw [← Nbq85.out] at hx134_0)
                                                  cases e134
                                                  replace p134 := eq_true p134
                                                  replace q134 := eq_true q134
                                                  obtain ⟨Ao93, co93, eo93⟩ := Kd.N_slice HO_9.out
                                                  subst eo93
                                                  have p135 : 0 ≤ (x17_4 : Int) := of_decide_eq_true (by first | (with_reducible assumption) | assumption)
                                                  have q135 : x17_4 < (x9_3.length : Int) := of_decide_eq_true (by first | (with_reducible assumption) | assumption)
                                                  obtain ⟨ad135, A135_0, c135_0, e135, hx135_0, hl135_0, hi135_0⟩ := at_L1 (Kd.N_reads' HO_9.out).2.2 x17_4 p135 q135
                                                  cases e135
                                                  obtain ⟨ce135, hce135, hMe135, hcc135⟩ := Kd.N_get HO_9.out [] x17_4 p135 (by first | exact q135 | exact of_decide_eq_true (by first | (with_reducible assumption) | assumption) | (have e_ := (Kd.N_reads' HO_9.out).1; omega))
                                                  obtain ⟨ua135_0, uc135_0, rfl, ul135_0, ge135_0⟩ := Kd.FK_slice_open hMe135
                                                  have hv135_0 := hcc135 0 _ rfl
                                                  rw [Nat.add_zero, show ((Kd.slice 3 (Kd.int .i64))).sz = 1 from rfl, Nat.mul_one] at hv135_0
                                                  replace hv135_0 := Option.some.inj (hv135_0.symm.trans hx135_0)
                                                  injection hv135_0 with hva_ hvn_ hvc_
                                                  rw [hva_] at ge135_0
                                                  rw [hvc_] at ul135_0
                                                  have HL135_0 := Aside0.mk (show Kd.V (Kd.int .i64) 3 _ w.heap.size _ _ (rd_L1 x9_3 x17_4) from Kd.V_mk ul135_0 ge135_0)
                                                  clear hva_ hvn_ hvc_ ge135_0 ul135_0
                                                  clear hcc135 hce135
                                                  have HR135_0 := Aside0.mk hi135_0
                                                  have HC135_0 := Aside0.mk hl135_0
                                                  clear hi135_0 hl135_0
                                                  replace p135 := eq_true p135
                                                  replace q135 := eq_true q135
                                                  have p89 : 0 ≤ (x17_4 : Int) := of_decide_eq_true (by first | (with_reducible assumption) | assumption)
                                                  have q89 : (x17_4 : Int) < ((x6_4.length : Int) : Int) := of_decide_eq_true (by first | (with_reducible assumption) | assumption)
                                                  obtain ⟨go89, co89, eo89, gb89, gl89, cl89, HG89⟩ := Kd.N_form HO_6.out (by omega)
                                                  (first | cases eo89 | (injection eo89 with ea_ en_ ec_; (first | subst ea_ | (injection ea_ with ea_; subst ea_)); subst ec_; clear en_))
                                                  have GB89 := Aside0.mk gb89
                                                  have GG89 := Aside0.mk HG89
                                                  clear gb89 gl89 HG89
                                                  obtain ⟨ce89, hcl89, hM89, hcc89, hfr89⟩ := Kd.N_elem HO_6.out [] (x17_4 : Int) p89 q89
                                                  obtain ⟨ua89_0, uc89_0, rfl, ul89_0, ge89_0⟩ := Kd.FK_slice_open hM89
                                                  have hx89_0 := hcc89 0 _ rfl
                                                  have hf89_0 := hfr89 0
                                                  (try simp only [show ((Kd.slice 3 (Kd.int .i64))).sz = 1 from rfl, Nat.mul_one, Nat.add_zero] at hx89_0)
                                                  (try simp only [show ((Kd.slice 3 (Kd.int .i64))).sz = 1 from rfl, Nat.mul_one, Nat.add_zero] at hf89_0)
                                                  clear hcl89 hcc89 hfr89 hM89
                                                  replace p89 := eq_true p89
                                                  replace q89 := eq_true q89
                                                  have HX94 := Aside0.mk (show Kd.N (Kd.slice 3 (Kd.int .i64)) 22 wr w.heap.size (fun k_ => (w.heap.size ≤ k_) ∧ some k_ ≠ (.slice (some ⟨go12, 0, none⟩) x7_4.length co12 : Value).ownBlock ∧ some k_ ≠ (.slice (some ad135) x9_3.length co93 : Value).ownBlock ∧ some k_ ≠ (.slice (some ad134) x10_3.length co92 : Value).ownBlock) (.slice (some ⟨go89, 0, none⟩) x6_4.length co89) x6_4 from (by (with_reducible repeat (first | apply Kd.N_alloc | apply Kd.N_drewN | apply Kd.N_drew)); exact HO_6.out))
                                                  obtain ⟨ce94, hcl94, hM94, hcc94, hfr94⟩ := Kd.N_elem HX94.out [] (x17_4 : Int) (of_decide_eq_true (by first | (with_reducible assumption) | assumption)) (by have h_ : (x17_4 : Int) < ((x6_4.length : Int) : Int) := of_decide_eq_true (by first | (with_reducible assumption) | assumption); first | exact h_ | (have e_ := (Kd.N_reads' HO_6.out).1; omega) | simpa using h_)
                                                  obtain ⟨ua94_0, uc94_0, rfl, ul94_0, ge94_0⟩ := Kd.FK_slice_open hM94
                                                  have HP94 := Kd.N_seg HX94.out (x17_4 : Int) (of_decide_eq_true (by first | (with_reducible assumption) | assumption)) (by have h_ : (x17_4 : Int) < ((x6_4.length : Int) : Int) := of_decide_eq_true (by first | (with_reducible assumption) | assumption); first | exact h_ | (have e_ := (Kd.N_reads' HO_6.out).1; omega) | simpa using h_) (seg := [.slice A135_0 (rd_L1 x9_3 x17_4).length c135_0]) (j := 0) hcl94 hcc94 (show 1 ≤ 1 from by decide) (x' := rd_L1 x9_3 x17_4) (Kd.FK_slice_mk (Kd.V_reads' (Kd.V_mono (ok' := (fun k_ => ((fun k_ => (w.heap.size ≤ k_) ∧ some k_ ≠ (.slice (some ⟨go12, 0, none⟩) x7_4.length co12 : Value).ownBlock ∧ some k_ ≠ (.slice (some ad135) x9_3.length co93 : Value).ownBlock ∧ some k_ ≠ (.slice (some ad134) x10_3.length co92 : Value).ownBlock)) k_ ∧ k_ ≠ go89)) (HL135_0.out) (fun k_ hk => ⟨⟨hk.1.1, ⟨hk.1.2.2.1, ⟨hk.2, hk.1.2.2.2⟩⟩⟩, fun e_ => (hk.1.2.1) (by rw [e_]; rfl)⟩))).2.1 (Kd.V_F (Kd.V_mono (ok' := (fun k_ => ((fun k_ => (w.heap.size ≤ k_) ∧ some k_ ≠ (.slice (some ⟨go12, 0, none⟩) x7_4.length co12 : Value).ownBlock ∧ some k_ ≠ (.slice (some ad135) x9_3.length co93 : Value).ownBlock ∧ some k_ ≠ (.slice (some ad134) x10_3.length co92 : Value).ownBlock)) k_ ∧ k_ ≠ go89)) (HL135_0.out) (fun k_ hk => ⟨⟨hk.1.1, ⟨hk.1.2.2.1, ⟨hk.2, hk.1.2.2.2⟩⟩⟩, fun e_ => (hk.1.2.1) (by rw [e_]; rfl)⟩)))) (fun _ hk => hk)
                                                  have hx94_0 := hcc94 0 _ rfl
                                                  (try simp only [show ((Kd.slice 3 (Kd.int .i64))).sz = 1 from rfl, Nat.mul_one, Nat.add_zero] at hx94_0)
                                                  have hf94_0 := hfr94 0
                                                  (try simp only [show ((Kd.slice 3 (Kd.int .i64))).sz = 1 from rfl, Nat.mul_one, Nat.add_zero] at hf94_0)
                                                  clear hcl94 hcc94 hfr94 hM94
                                                  (try simp only [show ((Kd.slice 3 (Kd.int .i64))).sz = 1 from rfl, Nat.mul_one, Nat.add_zero] at HP94)
                                                  (try simp only [show ((Kd.slice 3 (Kd.int .i64))).sz = 1 from rfl, Nat.mul_one, Nat.add_zero] at HP94)
                                                  go_wp2_with (first | ((with_reducible refine gate_store (t := 22) (p := 125) rfl ?_); refine store_event (t := 22) (p := 125) (v := ?vo_w95) (w1 := (wr.setCell ⟨go89, (x17_4 : Int).toNat, none⟩ (.slice A135_0 (rd_L1 x9_3 x17_4).length c135_0))) ?hg ?ho ?hn ?hr ?_; (case ho => rfl); (case hg => rfl); (case hn => rfl); (case hr => first | (go_simp; done) | (go_simp; rfl)); intro w95 hw; have hg : wr.grownBy w95 (some go89) := (by rw [hw]; exact HP94.2); have hp_ : Kd.N (Kd.slice 3 (Kd.int .i64)) 22 w95 w.heap.size (fun k_ => (w.heap.size ≤ k_) ∧ some k_ ≠ (.slice (some ⟨go12, 0, none⟩) x7_4.length co12 : Value).ownBlock ∧ some k_ ≠ (.slice (some ad135) x9_3.length co93 : Value).ownBlock ∧ some k_ ≠ (.slice (some ad134) x10_3.length co92 : Value).ownBlock) (.slice (some ⟨go89, 0, none⟩) x6_4.length co89) y136 := (by rw [hw, Ny136.out]; exact HP94.1); clear HP94; have n0_ := Aside0.mk (hp_); have n1_ := Aside0.mk (Kd.R_over' (v := (.slice (some ⟨go89, 0, none⟩) x6_4.length co89)) (by (with_reducible repeat (first | apply Kd.R_alloc | apply Kd.R_drewN | apply Kd.R_drew)); exact HO_7.out) (Kd.N_typed HO_6.out) (by decide) hg); have n2_ := Aside0.mk (Kd.N_afterv (v := (.slice (some ⟨go89, 0, none⟩) x6_4.length co89)) (v1 := (.slice (some ⟨go89, 0, none⟩) x6_4.length co89)) (ok := (fun k_ => (w.heap.size ≤ k_) ∧ some k_ ≠ (.slice (some ⟨go12, 0, none⟩) x7_4.length co12 : Value).ownBlock ∧ some k_ ≠ (.slice (some ad134) x10_3.length co92 : Value).ownBlock)) (by (with_reducible repeat (first | apply Kd.N_alloc | apply Kd.N_drewN | apply Kd.N_drew)); exact Kd.N_mono HO_9.out (fun _ hk => ⟨⟨hk.1, ⟨hk.2.2.1, hk.2.2.2⟩⟩, hk.2.1⟩)) hg (.inl rfl)); have n3_ := Aside0.mk (Kd.R_over' (v := (.slice (some ⟨go89, 0, none⟩) x6_4.length co89)) (by (with_reducible repeat (first | apply Kd.R_alloc | apply Kd.R_drewN | apply Kd.R_drew)); exact HO_10.out) (Kd.N_typed HO_6.out) (by decide) hg); have n4_ := Aside0.mk (Kd.V_afterv (v := (.slice (some ⟨go89, 0, none⟩) x6_4.length co89)) (v1 := (.slice (some ⟨go89, 0, none⟩) x6_4.length co89)) (ok := (fun k_ => (w.heap.size ≤ k_) ∧ some k_ ≠ (.slice (some ⟨go12, 0, none⟩) x7_4.length co12 : Value).ownBlock ∧ some k_ ≠ (.slice (some ad135) x9_3.length co93 : Value).ownBlock ∧ some k_ ≠ (.slice (some ad134) x10_3.length co92 : Value).ownBlock)) (by (with_reducible repeat (first | apply Kd.V_alloc | apply Kd.V_drewN | apply Kd.V_drew)); exact Kd.V_mono HL135_0.out (fun _ hk => ⟨⟨hk.1.1, ⟨hk.1.2.2.1, ⟨hk.2, hk.1.2.2.2⟩⟩⟩, hk.1.2.1⟩)) hg (.inl rfl)); have n5_ := Aside0.mk ((by rw [hw]; exact below_set (HB.out) GB89.out : Below w.heap.size w w95)); clear HO_6; clear HO_7; clear HO_9; clear HO_10; clear HL135_0; clear HB; have HO_6 := n0_; have HO_7 := n1_; have HO_9 := n2_; have HO_10 := n3_; have HL135_0 := n4_; have HB := n5_; clear n0_ n1_ n2_ n3_ n4_ n5_; clear hg hw hp_; have p91 : 0 ≤ (x17_4 : Int) := of_decide_eq_true (by first | (with_reducible assumption) | assumption); have q91 : (x17_4 : Int) < ((x7_4.length : Int) : Int) := of_decide_eq_true (by first | (with_reducible assumption) | assumption); obtain ⟨hx91_0, hf91_0⟩ := Kd.R_celln false HO_7.out (x17_4 : Int) p91 q91; replace p91 := eq_true p91; replace q91 := eq_true q91; obtain ⟨hy96_, hz96_⟩ := Kd.R_celln false HO_7.out (x17_4 : Int) (of_decide_eq_true (by first | (with_reducible assumption) | assumption)) (of_decide_eq_true (by first | (with_reducible assumption) | assumption)); have HP96 := Kd.R_putg HO_7.out (x17_4 : Int) true) | ((with_reducible refine gate_store (t := 4) (p := 128) rfl ?_); refine store_event (t := 4) (p := 128) (v := ?vo_w97) (w1 := (w95.setCell ⟨go12, (x17_4 : Int).toNat, none⟩ (.bool true))) ?hg ?ho ?hn ?hr ?_; (case ho => rfl); (case hg => rfl); (case hn => rfl); (case hr => first | (go_simp; done) | (go_simp; rfl)); intro w97 hw; have hg : w95.grownBy w97 (some go12) := (by rw [hw]; exact HP96.2); have hp_ : Kd.R Kd.bool 4 w97 w.heap.size (fun k_ => (w.heap.size ≤ k_) ∧ some k_ ≠ (.slice (some ad134) x10_3.length co92 : Value).ownBlock) (.slice (some ⟨go12, 0, none⟩) x7_4.length co12) y137 := (by rw [hw, Ny137.out]; exact HP96.1); clear HP96; have n0_ := Aside0.mk (Kd.N_afterv (v := (.slice (some ⟨go12, 0, none⟩) x7_4.length co12)) (v1 := (.slice (some ⟨go12, 0, none⟩) x7_4.length co12)) (ok := (fun k_ => (w.heap.size ≤ k_) ∧ some k_ ≠ (.slice (some ad135) x9_3.length co93 : Value).ownBlock ∧ some k_ ≠ (.slice (some ad134) x10_3.length co92 : Value).ownBlock)) (by (with_reducible repeat (first | apply Kd.N_alloc | apply Kd.N_drewN | apply Kd.N_drew)); exact Kd.N_mono HO_6.out (fun _ hk => ⟨⟨hk.1, ⟨hk.2.2.1, hk.2.2.2⟩⟩, hk.2.1⟩)) hg (.inl rfl)); have n1_ := Aside0.mk (hp_); have n2_ := Aside0.mk (Kd.N_afterv (v := (.slice (some ⟨go12, 0, none⟩) x7_4.length co12)) (v1 := (.slice (some ⟨go12, 0, none⟩) x7_4.length co12)) (ok := (fun k_ => (w.heap.size ≤ k_) ∧ some k_ ≠ (.slice (some ⟨go89, 0, none⟩) x6_4.length co89 : Value).ownBlock ∧ some k_ ≠ (.slice (some ad134) x10_3.length co92 : Value).ownBlock)) (by (with_reducible repeat (first | apply Kd.N_alloc | apply Kd.N_drewN | apply Kd.N_drew)); exact Kd.N_mono HO_9.out (fun _ hk => ⟨⟨hk.1.1, ⟨hk.2, hk.1.2.2⟩⟩, hk.1.2.1⟩)) hg (.inl rfl)); have n3_ := Aside0.mk (Kd.R_after (v := (.slice (some ⟨go12, 0, none⟩) x7_4.length co12)) (v1 := (.slice (some ⟨go12, 0, none⟩) x7_4.length co12)) (ok := (fun k_ => (w.heap.size ≤ k_))) (by (with_reducible repeat (first | apply Kd.R_alloc | apply Kd.R_drewN | apply Kd.R_drew)); exact HO_10.out) hg (.inl rfl)); have n4_ := Aside0.mk (Kd.V_afterv (v := (.slice (some ⟨go12, 0, none⟩) x7_4.length co12)) (v1 := (.slice (some ⟨go12, 0, none⟩) x7_4.length co12)) (ok := (fun k_ => (w.heap.size ≤ k_) ∧ some k_ ≠ (.slice (some ⟨go89, 0, none⟩) x6_4.length co89 : Value).ownBlock ∧ some k_ ≠ (.slice (some ad135) x9_3.length co93 : Value).ownBlock ∧ some k_ ≠ (.slice (some ad134) x10_3.length co92 : Value).ownBlock)) (by (with_reducible repeat (first | apply Kd.V_alloc | apply Kd.V_drewN | apply Kd.V_drew)); exact Kd.V_mono HL135_0.out (fun _ hk => ⟨⟨hk.1.1, ⟨hk.2, ⟨hk.1.2.2.1, hk.1.2.2.2⟩⟩⟩, hk.1.2.1⟩)) hg (.inl rfl)); have n5_ := Aside0.mk ((by rw [hw]; exact below_set (HB.out) GB12.out : Below w.heap.size w w97)); clear HO_6; clear HO_7; clear HO_9; clear HO_10; clear HL135_0; clear HB; have HO_6 := n0_; have HO_7 := n1_; have HO_9 := n2_; have HO_10 := n3_; have HL135_0 := n4_; have HB := n5_; clear n0_ n1_ n2_ n3_ n4_ n5_; clear hg hw hp_))
                                                  (try simp only [← hl7_4])
                                                  go_roundg k4
                                                  case measure => have := HJ2.out; have := HK2.out; have := HK3.out; have := HK4.out; omega
                                                  case rel => exact ⟨(y136), (y137), (wrap64 (x17_4 + 1)), (by first | rfl | (simp; done) | (simp [*]; done)), H', ⟨by have := HJ2.out; have := HK2.out; have := HK3.out; have := HK4.out; omega⟩, ⟨by (try simp only [hl7_2]); (try simp only [hl7_4]); (with_reducible repeat (first | apply Kd.N_alloc | apply Kd.N_drewN | apply Kd.N_drew)); exact Kd.N_mono HO_6.out (fun _ hk => ⟨hk.1.1, ⟨hk.2, ⟨hk.1.2.1, hk.1.2.2⟩⟩⟩)⟩, ⟨by (try simp only [hl7_2]); (try simp only [hl7_4]); (with_reducible repeat (first | apply Kd.R_alloc | apply Kd.R_drewN | apply Kd.R_drew)); exact HO_7.out⟩, ⟨by (try simp only [hl7_2]); (try simp only [hl7_4]); (with_reducible repeat (first | apply Kd.N_alloc | apply Kd.N_drewN | apply Kd.N_drew)); exact Kd.N_mono HO_9.out (fun _ hk => ⟨hk.1.1, ⟨hk.1.2.1, ⟨hk.2, hk.1.2.2⟩⟩⟩)⟩, ⟨by (try simp only [hl7_2]); (try simp only [hl7_4]); (with_reducible repeat (first | apply Kd.R_alloc | apply Kd.R_drewN | apply Kd.R_drew)); exact HO_10.out⟩, ⟨by repeat (first | (with_reducible first | exact HB.out | apply below_alloc | apply pw_below_drewN | apply below_drew1) | exact HB.out)⟩⟩
                                                · rw [if_neg c90] at H
                                                  exact absurd H (by simp)
                                              · rw [if_neg c88] at H
                                                exact absurd H (by simp)
                                            · rw [if_neg c87] at H
                                              exact absurd H (by simp)
                                          · replace c86 := Bool.eq_false_iff.mpr c86
                                            subst c86
                                            have H1 : (vespersref20_Way.l3 k4 a1 x6_4 x7_4 x8_2 x9_3 x10_3 (wrap64 (x17_4 + 1))) = some (r1, r2) := by rw [if_neg (show ¬ (false = true) by decide)] at H; exact H
                                            clear H
                                            have H := H1
                                            clear H1
                                            have H' := Aside0.mk H
                                            clear H
                                            obtain ⟨Ao98, co98, eo98⟩ := Kd.R_slice HO_10.out
                                            subst eo98
                                            have p134 : 0 ≤ (x17_4 : Int) := of_decide_eq_true (by first | (with_reducible assumption) | assumption)
                                            have q134 : x17_4 < (x10_3.length : Int) := of_decide_eq_true (by first | (with_reducible assumption) | assumption)
                                            obtain ⟨ad134, e134, hx134_0⟩ := Kd.at_bool (Kd.R_reads' HO_10.out).2.2 x17_4 p134 q134
                                            (try rw [← Nbq85.out] at hx134_0)
                                            cases e134
                                            replace p134 := eq_true p134
                                            replace q134 := eq_true q134
                                            go_wp2
                                            (try simp only [← hl7_4])
                                            go_roundg k4
                                            case measure => have := HJ2.out; have := HK2.out; have := HK3.out; have := HK4.out; omega
                                            case rel => exact ⟨(x6_4), (x7_4), (wrap64 (x17_4 + 1)), (by first | rfl | (simp; done) | (simp [*]; done)), H', ⟨by have := HJ2.out; have := HK2.out; have := HK3.out; have := HK4.out; omega⟩, ⟨by (try simp only [hl7_2]); (try simp only [hl7_4]); (with_reducible repeat (first | apply Kd.N_alloc | apply Kd.N_drewN | apply Kd.N_drew)); exact HO_6.out⟩, ⟨by (try simp only [hl7_2]); (try simp only [hl7_4]); (with_reducible repeat (first | apply Kd.R_alloc | apply Kd.R_drewN | apply Kd.R_drew)); exact HO_7.out⟩, ⟨by (try simp only [hl7_2]); (try simp only [hl7_4]); (with_reducible repeat (first | apply Kd.N_alloc | apply Kd.N_drewN | apply Kd.N_drew)); exact HO_9.out⟩, ⟨by (try simp only [hl7_2]); (try simp only [hl7_4]); (with_reducible repeat (first | apply Kd.R_alloc | apply Kd.R_drewN | apply Kd.R_drew)); exact HO_10.out⟩, ⟨by repeat (first | (with_reducible first | exact HB.out | apply below_alloc | apply pw_below_drewN | apply below_drew1) | exact HB.out)⟩⟩
                                        · rw [if_neg c84] at H
                                          exact absurd H (by simp)
                                      · rw [if_neg c83] at H
                                        exact absurd H (by simp)
                                    · rw [if_neg c82] at H
                                      have c82b0 : decide (x17_4 < 7) = false := decide_eq_false c82
                                      clear c82
                                      have H' := Aside0.mk H
                                      clear H
                                      go_wp2
                                      (try simp only [← hl7_2, ← hl7_4])
                                      go_roundg k4
                                      case measure => have := HJ2.out; have := HK2.out; have := HK3.out; have := HK4.out; omega
                                      case rel => exact ⟨(x6_4), (x7_4), (wrap64 (x8_2 + 1)), (by first | rfl | (simp; done) | (simp [*]; done)), H', ⟨by have := HJ2.out; have := HK2.out; have := HK3.out; have := HK4.out; omega⟩, ⟨by (try simp only [hl7_2]); (try simp only [hl7_4]); (with_reducible repeat (first | apply Kd.N_alloc | apply Kd.N_drewN | apply Kd.N_drew)); exact Kd.N_mono HO_6.out (fun _ hk => ⟨hk.1, hk.2.1⟩)⟩, ⟨by (try simp only [hl7_2]); (try simp only [hl7_4]); (with_reducible repeat (first | apply Kd.R_alloc | apply Kd.R_drewN | apply Kd.R_drew)); exact Kd.R_mono HO_7.out (fun _ hk => hk.1)⟩, ⟨by repeat (first | (with_reducible first | exact HB.out | apply below_alloc | apply pw_below_drewN | apply below_drew1) | exact HB.out)⟩⟩
                        · rw [if_neg c21] at H
                          exact absurd H (by simp)
                      · rw [if_neg c20] at H
                        exact absurd H (by simp)
                    · rw [if_neg c19] at H
                      have c19b0 : decide (x8_2 < 7) = false := decide_eq_false c19
                      clear c19
                      by_cases c99 : 0 ≤ a1
                      · rw [if_pos c99] at H
                        have c99b0 : decide (0 ≤ a1) = true := decide_eq_true c99
                        clear c99
                        by_cases c100 : a1 < (x6_2.length : Int)
                        · rw [if_pos c100] at H
                          have c100b0 : decide (a1 < (x6_2.length : Int)) = true := decide_eq_true c100
                          clear c100
                          simp only [Option.some.injEq, Prod.mk.injEq] at H
                          obtain ⟨rfl, rfl⟩ := H
                          obtain ⟨Ao101, co101, eo101⟩ := Kd.N_slice HO_6.out
                          subst eo101
                          have p108 : 0 ≤ (a1 : Int) := of_decide_eq_true (by first | (with_reducible assumption) | assumption)
                          have q108 : a1 < (x6_2.length : Int) := of_decide_eq_true (by first | (with_reducible assumption) | assumption)
                          obtain ⟨ad108, A108_0, c108_0, e108, hx108_0, hl108_0, hi108_0⟩ := at_L1 (Kd.N_reads' HO_6.out).2.2 a1 p108 q108
                          cases e108
                          obtain ⟨ce108, hce108, hMe108, hcc108⟩ := Kd.N_get HO_6.out [] a1 p108 (by first | exact q108 | exact of_decide_eq_true (by first | (with_reducible assumption) | assumption) | (have e_ := (Kd.N_reads' HO_6.out).1; omega))
                          obtain ⟨ua108_0, uc108_0, rfl, ul108_0, ge108_0⟩ := Kd.FK_slice_open hMe108
                          have hv108_0 := hcc108 0 _ rfl
                          rw [Nat.add_zero, show ((Kd.slice 3 (Kd.int .i64))).sz = 1 from rfl, Nat.mul_one] at hv108_0
                          replace hv108_0 := Option.some.inj (hv108_0.symm.trans hx108_0)
                          injection hv108_0 with hva_ hvn_ hvc_
                          rw [hva_] at ge108_0
                          rw [hvc_] at ul108_0
                          have HL108_0 := Aside0.mk (show Kd.V (Kd.int .i64) 3 _ w.heap.size _ _ (rd_L1 x6_2 a1) from Kd.V_mk ul108_0 ge108_0)
                          clear hva_ hvn_ hvc_ ge108_0 ul108_0
                          clear hcc108 hce108
                          have HR108_0 := Aside0.mk hi108_0
                          have HC108_0 := Aside0.mk hl108_0
                          clear hi108_0 hl108_0
                          replace p108 := eq_true p108
                          replace q108 := eq_true q108
                          go_wp2
                          go_ret2
                          exact ⟨_, by first | rfl | (simp [errW_none, errW_some] <;> rfl) | (simp [*, errW_none, errW_some] <;> rfl), by (with_reducible repeat (first | apply Kd.V_alloc | apply Kd.V_drewN | apply Kd.V_drew)); exact Kd.V_mono HL108_0.out (fun _ hk => hk.1.1), by repeat (first | (with_reducible first | exact HB.out | apply below_alloc | apply pw_below_drewN | apply below_drew1) | exact HB.out)⟩
                        · rw [if_neg c100] at H
                          exact absurd H (by simp)
                      · rw [if_neg c99] at H
                        exact absurd H (by simp)
              · rw [if_neg c11] at H
                exact absurd H (by simp)
            · rw [if_neg c10] at H
              exact absurd H (by simp)
          · rw [if_neg c9] at H
            exact absurd H (by simp)
        · rw [if_neg c8] at H
          exact absurd H (by simp)

end Go.Proofs.YtbbiihifhdcniaaDoor.PC
