/- Written by a program of this session (wip/jprint.py, over the printer of the kit): functions that a law comes to, as plain Lean functions, and walks; Lean checks it. -/
import Derived.Test.YtcfloaplbmpoaaaPAx0
import Derived.Test.YtcfloaplbmpoaaaPAx1
import Derived.Test.YtcfloaplbmpoaaaPAx3
import Derived.Test.YtcfloaplbmpoaaaPAx4
import Derived.Test.YtcfloaplbmpoaaaPAx5
namespace Go.Proofs.Ytcfloaplbmpoaaa.PA
open Go.RowKit Go.Proofs.Ytcfloaplbmpoaaa.Hand Go.Proofs.YtcfloaplbmpoaaaW.PrintWords Go.Proofs.YtcfloaplbmpoaaaW.PrintLast Go.Proofs.YtcfloaplbmpoaaaW.PrintMore
attribute [local go_sem] max2_int min2_int max_two min_two max_three min_three max_four min_four   -- for this text's walks alone
set_option linter.unusedVariables false
set_option linter.unusedSimpArgs false

attribute [local go_sem high] eqA25
/-! ### vesperslaw18_VectorRuns: function 4 -/
mutual
def vesperslaw18_VectorRuns.l0 : Nat → Int → List Int → Int → Int → Int → Int → Int → Int → Int → Int → Int → Int → Int → Option (Bool)
  | 0, _, _, _, _, _, _, _, _, _, _, _, _, _ => none
  | k + 1, x0, x2, x3, x12, x13, x239000, x239001, x239002, x239003, x245000, x245001, x245002, x245003 => if x13 < (x2.length : Int) then (vesperslaw18_VectorRuns.j1 k x0 x2 x3 x12 x13 (x12 == 0) x239000 x239001 x239002 x239003 x245000 x245001 x245002 x245003) else (vesperslaw18_VectorRuns.j1 k x0 x2 x3 x12 x13 false x239000 x239001 x239002 x239003 x245000 x245001 x245002 x245003)
def vesperslaw18_VectorRuns.j1 : Nat → Int → List Int → Int → Int → Int → Bool → Int → Int → Int → Int → Int → Int → Int → Int → Option (Bool)
  | 0, _, _, _, _, _, _, _, _, _, _, _, _, _, _ => none
  | k + 1, x0, x2, x3, x12, x13, x53, x239000, x239001, x239002, x239003, x245000, x245001, x245002, x245003 => if x53 = true then (if 0 ≤ (IntKind.u64.wrap (x13)) then (if (Int.tmod x13 5) = x0 then (if (Go.bits .and .u64 (shr .u64 x3 (IntKind.u64.wrap (x13))) 1) = 1 then ((vector_Quiet.f x239000 x239001 x239002 x239003).bind fun bt245 => ((vespersref18_Quiet.f k x245000 x245001 x245002 x245003).bind fun bt250 => (if (!(bt245.1 == bt250.1) || (!(bt245.2.1 == bt250.2.1) || (!(bt245.2.2.1 == bt250.2.2.1) || (!(bt245.2.2.2.1 == bt250.2.2.2.1))))) = true then (none) else (vesperslaw18_VectorRuns.l0 k x0 x2 x3 x12 (wrap64 (x13 + 1)) bt245.1 bt245.2.1 bt245.2.2.1 bt245.2.2.2.1 bt250.1 bt250.2.1 bt250.2.2.1 bt250.2.2.2.1)))) else ((vector_Sent.f x239000 x239001 x239002 x239003).bind fun bt255 => ((vespersref18_Sent.f k x245000 x245001 x245002 x245003).bind fun bt260 => (if (!(bt255.1 == bt260.1) || (!(bt255.2.1 == bt260.2.1) || (!(bt255.2.2.1 == bt260.2.2.1) || (!(bt255.2.2.2.1 == bt260.2.2.2.1))))) = true then (none) else (vesperslaw18_VectorRuns.l0 k x0 x2 x3 x12 (wrap64 (x13 + 1)) bt255.1 bt255.2.1 bt255.2.2.1 bt255.2.2.2.1 bt260.1 bt260.2.1 bt260.2.2.1 bt260.2.2.2.1))))) else ((vector_Looks.f x239000 x239001 x239002 x239003 (Int.tmod x13 5)).bind fun bt265 => ((vespersref18_Looks.f k x245000 x245001 x245002 x245003 (Int.tmod x13 5)).bind fun bt269 => (if 0 ≤ x13 then (if x13 < (x2.length : Int) then ((vector_Result.f bt265.1 (rd x2 x13)).bind fun t274 => ((vespersref18_Result.f k bt269.1 (rd x2 x13)).bind fun t276 => (if (Go.bits .and .u64 (shr .u64 x3 (IntKind.u64.wrap (x13))) 1) = 1 then (vesperslaw18_VectorRuns.j2 k x0 x2 x3 x12 x13 (Int.tmod x13 5) 0 0 x239000 x239001 x239002 x239003 x245000 x245001 x245002 x245003) else (vesperslaw18_VectorRuns.j2 k x0 x2 x3 x12 x13 (Int.tmod x13 5) t274 t276 x239000 x239001 x239002 x239003 x245000 x245001 x245002 x245003)))) else (none)) else (none))))) else (none)) else (some (x239000 == x245000 && (x239001 == x245001 && (x239002 == x245002 && (x239003 == x245003)))))
def vesperslaw18_VectorRuns.j2 : Nat → Int → List Int → Int → Int → Int → Int → Int → Int → Int → Int → Int → Int → Int → Int → Int → Int → Option (Bool)
  | 0, _, _, _, _, _, _, _, _, _, _, _, _, _, _, _, _ => none
  | k + 1, x0, x2, x3, x12, x13, x14, x20, x21, x239000, x239001, x239002, x239003, x245000, x245001, x245002, x245003 => (vector_Step.f x239000 x239001 x239002 x239003 x14 x20).bind fun bt277 => ((vespersref18_Step.f k x245000 x245001 x245002 x245003 x14 x21).bind fun bt284 => (if bt277.2.2.2.2.1 = bt284.2.2.2.2.1 then (vesperslaw18_VectorRuns.j3 k x0 x2 x3 x12 x13 (bt277.2.2.2.2.2 != bt284.2.2.2.2.2) bt277.1 bt277.2.1 bt277.2.2.1 bt277.2.2.2.1 bt284.1 bt284.2.1 bt284.2.2.1 bt284.2.2.2.1) else (vesperslaw18_VectorRuns.j3 k x0 x2 x3 x12 x13 true bt277.1 bt277.2.1 bt277.2.2.1 bt277.2.2.2.1 bt284.1 bt284.2.1 bt284.2.2.1 bt284.2.2.2.1)))
def vesperslaw18_VectorRuns.j3 : Nat → Int → List Int → Int → Int → Int → Bool → Int → Int → Int → Int → Int → Int → Int → Int → Option (Bool)
  | 0, _, _, _, _, _, _, _, _, _, _, _, _, _, _ => none
  | k + 1, x0, x2, x3, x12, x13, x136, x284000, x284001, x284002, x284003, x291000, x291001, x291002, x291003 => if x136 = true then (none) else (if (!(x284000 == x291000) || (!(x284001 == x291001) || (!(x284002 == x291002) || (!(x284003 == x291003))))) = true then (none) else (vesperslaw18_VectorRuns.l0 k x0 x2 x3 x12 (wrap64 (x13 + 1)) x284000 x284001 x284002 x284003 x291000 x291001 x291002 x291003))
end
def vesperslaw18_VectorRuns.f (k : Nat) (a0 : Int) (a1 : Int) (l2 : List Int) (a3 : Int) : Option (Bool) := if (l2.length : Int) > 60 then (some true) else ((vector_Joined.f a0 a1).bind fun bt233 => ((vespersref18_Joined.f a0 a1).bind fun bt239 => (if bt233.2.2.2.2 = bt239.2.2.2.2 then (vesperslaw18_VectorRuns.l0 k a0 l2 a3 bt239.2.2.2.2 0 bt233.1 bt233.2.1 bt233.2.2.1 bt233.2.2.2.1 bt239.1 bt239.2.1 bt239.2.2.1 bt239.2.2.2.1) else (none))))
theorem vesperslaw18_VectorRuns.mono_l : ∀ k, (∀ y0 y1 y2 y3 y4 y5 y6 y7 y8 y9 y10 y11 y12, LeO (vesperslaw18_VectorRuns.l0 k y0 y1 y2 y3 y4 y5 y6 y7 y8 y9 y10 y11 y12) (vesperslaw18_VectorRuns.l0 (k + 1) y0 y1 y2 y3 y4 y5 y6 y7 y8 y9 y10 y11 y12)) ∧ (∀ y0 y1 y2 y3 y4 y5 y6 y7 y8 y9 y10 y11 y12 y13, LeO (vesperslaw18_VectorRuns.j1 k y0 y1 y2 y3 y4 y5 y6 y7 y8 y9 y10 y11 y12 y13) (vesperslaw18_VectorRuns.j1 (k + 1) y0 y1 y2 y3 y4 y5 y6 y7 y8 y9 y10 y11 y12 y13)) ∧ (∀ y0 y1 y2 y3 y4 y5 y6 y7 y8 y9 y10 y11 y12 y13 y14 y15, LeO (vesperslaw18_VectorRuns.j2 k y0 y1 y2 y3 y4 y5 y6 y7 y8 y9 y10 y11 y12 y13 y14 y15) (vesperslaw18_VectorRuns.j2 (k + 1) y0 y1 y2 y3 y4 y5 y6 y7 y8 y9 y10 y11 y12 y13 y14 y15)) ∧ (∀ y0 y1 y2 y3 y4 y5 y6 y7 y8 y9 y10 y11 y12 y13, LeO (vesperslaw18_VectorRuns.j3 k y0 y1 y2 y3 y4 y5 y6 y7 y8 y9 y10 y11 y12 y13) (vesperslaw18_VectorRuns.j3 (k + 1) y0 y1 y2 y3 y4 y5 y6 y7 y8 y9 y10 y11 y12 y13))
  | 0 => ⟨fun _ _ _ _ _ _ _ _ _ _ _ _ _ r h => by simp [vesperslaw18_VectorRuns.l0] at h, fun _ _ _ _ _ _ _ _ _ _ _ _ _ _ r h => by simp [vesperslaw18_VectorRuns.j1] at h, fun _ _ _ _ _ _ _ _ _ _ _ _ _ _ _ _ r h => by simp [vesperslaw18_VectorRuns.j2] at h, fun _ _ _ _ _ _ _ _ _ _ _ _ _ _ r h => by simp [vesperslaw18_VectorRuns.j3] at h⟩
  | k + 1 => by
    obtain ⟨ih0, ih1, ih2, ih3⟩ := vesperslaw18_VectorRuns.mono_l k
    refine ⟨?_, ?_, ?_, ?_⟩
    · intro y0 y1 y2 y3 y4 y5 y6 y7 y8 y9 y10 y11 y12
      unfold vesperslaw18_VectorRuns.l0
      repeat' first
      | (with_reducible exact ih0 _ _ _ _ _ _ _ _ _ _ _ _ _)
      | (with_reducible exact ih1 _ _ _ _ _ _ _ _ _ _ _ _ _ _)
      | (with_reducible exact ih2 _ _ _ _ _ _ _ _ _ _ _ _ _ _ _ _)
      | (with_reducible exact ih3 _ _ _ _ _ _ _ _ _ _ _ _ _ _)
      | (with_reducible exact vespersref18_Looks.mono _ _ _ _ _ _)
      | (with_reducible exact vespersref18_Quiet.mono _ _ _ _ _)
      | (with_reducible exact vespersref18_Result.mono _ _ _)
      | (with_reducible exact vespersref18_Sent.mono _ _ _ _ _)
      | (with_reducible exact vespersref18_Step.mono _ _ _ _ _ _ _)
      | (with_reducible exact LeO.refl _)
      | (with_reducible exact LeO.none _)
      | (with_reducible refine LeO.ite ?_ ?_)
      | (with_reducible refine LeO.bind ?_ (fun _ => ?_))
      | exact ih0 _ _ _ _ _ _ _ _ _ _ _ _ _
      | exact ih1 _ _ _ _ _ _ _ _ _ _ _ _ _ _
      | exact ih2 _ _ _ _ _ _ _ _ _ _ _ _ _ _ _ _
      | exact ih3 _ _ _ _ _ _ _ _ _ _ _ _ _ _
      | exact vespersref18_Looks.mono _ _ _ _ _ _
      | exact vespersref18_Quiet.mono _ _ _ _ _
      | exact vespersref18_Result.mono _ _ _
      | exact vespersref18_Sent.mono _ _ _ _ _
      | exact vespersref18_Step.mono _ _ _ _ _ _ _
      | exact LeO.none _
      | refine LeO.ite ?_ ?_
      | refine LeO.bind ?_ (fun _ => ?_)
    · intro y0 y1 y2 y3 y4 y5 y6 y7 y8 y9 y10 y11 y12 y13
      unfold vesperslaw18_VectorRuns.j1
      repeat' first
      | (with_reducible exact ih0 _ _ _ _ _ _ _ _ _ _ _ _ _)
      | (with_reducible exact ih1 _ _ _ _ _ _ _ _ _ _ _ _ _ _)
      | (with_reducible exact ih2 _ _ _ _ _ _ _ _ _ _ _ _ _ _ _ _)
      | (with_reducible exact ih3 _ _ _ _ _ _ _ _ _ _ _ _ _ _)
      | (with_reducible exact vespersref18_Looks.mono _ _ _ _ _ _)
      | (with_reducible exact vespersref18_Quiet.mono _ _ _ _ _)
      | (with_reducible exact vespersref18_Result.mono _ _ _)
      | (with_reducible exact vespersref18_Sent.mono _ _ _ _ _)
      | (with_reducible exact vespersref18_Step.mono _ _ _ _ _ _ _)
      | (with_reducible exact LeO.refl _)
      | (with_reducible exact LeO.none _)
      | (with_reducible refine LeO.ite ?_ ?_)
      | (with_reducible refine LeO.bind ?_ (fun _ => ?_))
      | exact ih0 _ _ _ _ _ _ _ _ _ _ _ _ _
      | exact ih1 _ _ _ _ _ _ _ _ _ _ _ _ _ _
      | exact ih2 _ _ _ _ _ _ _ _ _ _ _ _ _ _ _ _
      | exact ih3 _ _ _ _ _ _ _ _ _ _ _ _ _ _
      | exact vespersref18_Looks.mono _ _ _ _ _ _
      | exact vespersref18_Quiet.mono _ _ _ _ _
      | exact vespersref18_Result.mono _ _ _
      | exact vespersref18_Sent.mono _ _ _ _ _
      | exact vespersref18_Step.mono _ _ _ _ _ _ _
      | exact LeO.none _
      | refine LeO.ite ?_ ?_
      | refine LeO.bind ?_ (fun _ => ?_)
    · intro y0 y1 y2 y3 y4 y5 y6 y7 y8 y9 y10 y11 y12 y13 y14 y15
      unfold vesperslaw18_VectorRuns.j2
      repeat' first
      | (with_reducible exact ih0 _ _ _ _ _ _ _ _ _ _ _ _ _)
      | (with_reducible exact ih1 _ _ _ _ _ _ _ _ _ _ _ _ _ _)
      | (with_reducible exact ih2 _ _ _ _ _ _ _ _ _ _ _ _ _ _ _ _)
      | (with_reducible exact ih3 _ _ _ _ _ _ _ _ _ _ _ _ _ _)
      | (with_reducible exact vespersref18_Looks.mono _ _ _ _ _ _)
      | (with_reducible exact vespersref18_Quiet.mono _ _ _ _ _)
      | (with_reducible exact vespersref18_Result.mono _ _ _)
      | (with_reducible exact vespersref18_Sent.mono _ _ _ _ _)
      | (with_reducible exact vespersref18_Step.mono _ _ _ _ _ _ _)
      | (with_reducible exact LeO.refl _)
      | (with_reducible exact LeO.none _)
      | (with_reducible refine LeO.ite ?_ ?_)
      | (with_reducible refine LeO.bind ?_ (fun _ => ?_))
      | exact ih0 _ _ _ _ _ _ _ _ _ _ _ _ _
      | exact ih1 _ _ _ _ _ _ _ _ _ _ _ _ _ _
      | exact ih2 _ _ _ _ _ _ _ _ _ _ _ _ _ _ _ _
      | exact ih3 _ _ _ _ _ _ _ _ _ _ _ _ _ _
      | exact vespersref18_Looks.mono _ _ _ _ _ _
      | exact vespersref18_Quiet.mono _ _ _ _ _
      | exact vespersref18_Result.mono _ _ _
      | exact vespersref18_Sent.mono _ _ _ _ _
      | exact vespersref18_Step.mono _ _ _ _ _ _ _
      | exact LeO.none _
      | refine LeO.ite ?_ ?_
      | refine LeO.bind ?_ (fun _ => ?_)
    · intro y0 y1 y2 y3 y4 y5 y6 y7 y8 y9 y10 y11 y12 y13
      unfold vesperslaw18_VectorRuns.j3
      repeat' first
      | (with_reducible exact ih0 _ _ _ _ _ _ _ _ _ _ _ _ _)
      | (with_reducible exact ih1 _ _ _ _ _ _ _ _ _ _ _ _ _ _)
      | (with_reducible exact ih2 _ _ _ _ _ _ _ _ _ _ _ _ _ _ _ _)
      | (with_reducible exact ih3 _ _ _ _ _ _ _ _ _ _ _ _ _ _)
      | (with_reducible exact vespersref18_Looks.mono _ _ _ _ _ _)
      | (with_reducible exact vespersref18_Quiet.mono _ _ _ _ _)
      | (with_reducible exact vespersref18_Result.mono _ _ _)
      | (with_reducible exact vespersref18_Sent.mono _ _ _ _ _)
      | (with_reducible exact vespersref18_Step.mono _ _ _ _ _ _ _)
      | (with_reducible exact LeO.refl _)
      | (with_reducible exact LeO.none _)
      | (with_reducible refine LeO.ite ?_ ?_)
      | (with_reducible refine LeO.bind ?_ (fun _ => ?_))
      | exact ih0 _ _ _ _ _ _ _ _ _ _ _ _ _
      | exact ih1 _ _ _ _ _ _ _ _ _ _ _ _ _ _
      | exact ih2 _ _ _ _ _ _ _ _ _ _ _ _ _ _ _ _
      | exact ih3 _ _ _ _ _ _ _ _ _ _ _ _ _ _
      | exact vespersref18_Looks.mono _ _ _ _ _ _
      | exact vespersref18_Quiet.mono _ _ _ _ _
      | exact vespersref18_Result.mono _ _ _
      | exact vespersref18_Sent.mono _ _ _ _ _
      | exact vespersref18_Step.mono _ _ _ _ _ _ _
      | exact LeO.none _
      | refine LeO.ite ?_ ?_
      | refine LeO.bind ?_ (fun _ => ?_)
theorem vesperslaw18_VectorRuns.mono : ∀ a0 a1 a2 a3 k, LeO (vesperslaw18_VectorRuns.f k a0 a1 a2 a3) (vesperslaw18_VectorRuns.f (k + 1) a0 a1 a2 a3) := by
  intro a0 a1 a2 a3 k
  obtain ⟨ih0, ih1, ih2, ih3⟩ := vesperslaw18_VectorRuns.mono_l k
  unfold vesperslaw18_VectorRuns.f
  repeat' first
      | (with_reducible exact ih0 _ _ _ _ _ _ _ _ _ _ _ _ _)
      | (with_reducible exact ih1 _ _ _ _ _ _ _ _ _ _ _ _ _ _)
      | (with_reducible exact ih2 _ _ _ _ _ _ _ _ _ _ _ _ _ _ _ _)
      | (with_reducible exact ih3 _ _ _ _ _ _ _ _ _ _ _ _ _ _)
      | (with_reducible exact vespersref18_Looks.mono _ _ _ _ _ _)
      | (with_reducible exact vespersref18_Quiet.mono _ _ _ _ _)
      | (with_reducible exact vespersref18_Result.mono _ _ _)
      | (with_reducible exact vespersref18_Sent.mono _ _ _ _ _)
      | (with_reducible exact vespersref18_Step.mono _ _ _ _ _ _ _)
      | (with_reducible exact LeO.refl _)
      | (with_reducible exact LeO.none _)
      | (with_reducible refine LeO.ite ?_ ?_)
      | (with_reducible refine LeO.bind ?_ (fun _ => ?_))
      | exact ih0 _ _ _ _ _ _ _ _ _ _ _ _ _
      | exact ih1 _ _ _ _ _ _ _ _ _ _ _ _ _ _
      | exact ih2 _ _ _ _ _ _ _ _ _ _ _ _ _ _ _ _
      | exact ih3 _ _ _ _ _ _ _ _ _ _ _ _ _ _
      | exact vespersref18_Looks.mono _ _ _ _ _ _
      | exact vespersref18_Quiet.mono _ _ _ _ _
      | exact vespersref18_Result.mono _ _ _
      | exact vespersref18_Sent.mono _ _ _ _ _
      | exact vespersref18_Step.mono _ _ _ _ _ _ _
      | exact LeO.none _
      | refine LeO.ite ?_ ?_
      | refine LeO.bind ?_ (fun _ => ?_)
def vesperslaw18_VectorRuns.T20 : Bool × List (List Nat × List Nat) := (true, [([], []), ([], []), ([], []), ([1, 2], [1, 2]), ([3], [3]), ([0, 4], [0, 4]), ([], []), ([], []), ([], []), ([7, 8], [7, 8]), ([9], [9]), ([6, 10, 5], [6, 10]), ([5, 11, 0, 1, 2, 3, 4, 5], [5]), ([11, 12, 0, 1, 2, 3, 4, 5, 6, 7, 8, 9, 10, 11, 12], [11])])
def vesperslaw18_VectorRuns.B20 : List Nat := [0, 0, 0, 6, 14, 31, 0, 0, 0, 384, 896, 2047, 4095, 8191]
theorem vesperslaw18_VectorRuns.tab20 : rtab .any (opsOf Try.f4 20) = vesperslaw18_VectorRuns.T20 := by kernel_rfl
theorem vesperslaw18_VectorRuns.bits20 : waitsOk vesperslaw18_VectorRuns.T20.2 vesperslaw18_VectorRuns.B20 = true := by kernel_rfl
set_option maxHeartbeats 8000000 in
set_option maxRecDepth 100000 in
theorem vesperslaw18_VectorRuns.calls (k : Nat) (a0 : Int) (a1 : Int) (A2 : Option Addr) (c2 : Nat) (l2 : List Int) (a3 : Int) (r : Bool) (w : World) (hr2 : Kd.C (Kd.int .u16) w A2 l2.length l2) (hc2 : l2.length ≤ c2) (h : vesperslaw18_VectorRuns.f k a0 a1 l2 a3 = some r) :
    Calls Try.prog 4 #[.int .i64 a0, .int .u16 a1, .slice A2 l2.length c2, .int .u64 a3] w fun e w' => e = .returned (.bool r) ∧ Below w.heap.size w w' := by
  have hu25 := Try.underlying25
  have HR2 := Aside0.mk hr2
  have HC2 := Aside0.mk hc2
  clear hr2 hc2
  have HB := Aside0.mk (Below.refl w.heap.size w)
  have H : (if (l2.length : Int) > 60 then (some true) else ((vector_Joined.f a0 a1).bind fun bt233 => ((vespersref18_Joined.f a0 a1).bind fun bt239 => (if bt233.2.2.2.2 = bt239.2.2.2.2 then (vesperslaw18_VectorRuns.l0 k a0 l2 a3 bt239.2.2.2.2 0 bt233.1 bt233.2.1 bt233.2.2.1 bt233.2.2.2.1 bt239.1 bt239.2.1 bt239.2.2.1 bt239.2.2.2.1) else (none))))) = some r := h
  clear h
  by_cases c5 : (l2.length : Int) > 60
  · rw [if_pos c5] at H
    have c5b0 : decide (60 < (l2.length : Int)) = true := decide_eq_true c5
    have c5b1 : decide (60 < l2.length) = true := decide_eq_true (by omega)
    clear c5
    obtain rfl := Option.some.inj H
    go_enter Try.func4, Try.ntmps4
    go_wp2
    go_ret
    exact ⟨by first | rfl | (simp [errW_none, errW_some] <;> rfl) | (simp [*, errW_none, errW_some] <;> rfl), by repeat (first | (with_reducible first | exact HB.out | apply below_alloc | apply pw_below_drewN | apply below_drew1) | exact HB.out)⟩
  · rw [if_neg c5] at H
    have c5b0 : decide (60 < (l2.length : Int)) = false := decide_eq_false c5
    have c5b1 : decide (60 < l2.length) = false := decide_eq_false (by omega)
    clear c5
    replace H := Option.bind_eq_some_iff.mp H
    obtain ⟨⟨t233, t234, t235, t236, t237⟩, A60, H⟩ := H
    replace H : ((vespersref18_Joined.f a0 a1).bind fun bt239 => (if t237 = bt239.2.2.2.2 then (vesperslaw18_VectorRuns.l0 k a0 l2 a3 bt239.2.2.2.2 0 t233 t234 t235 t236 bt239.1 bt239.2.1 bt239.2.2.1 bt239.2.2.2.1) else (none))) = some r := H
    have A6 := Aside0.mk A60
    clear A60
    replace H := Option.bind_eq_some_iff.mp H
    obtain ⟨⟨t239, t240, t241, t242, t243⟩, A70, H⟩ := H
    replace H : (if t237 = t243 then (vesperslaw18_VectorRuns.l0 k a0 l2 a3 t243 0 t233 t234 t235 t236 t239 t240 t241 t242) else (none)) = some r := H
    have A7 := Aside0.mk A70
    clear A70
    by_cases c8 : t237 = t243
    · rw [if_pos c8] at H
      have c8b0 : (t237 == t243) = true := beq_iff_eq.mpr c8
      have c8b1 : (t237 != t243) = false := bne_eq_false_iff_eq.mpr c8
      clear c8
      have H' := Aside0.mk H
      clear H
      go_enter Try.func4, Try.ntmps4
      go_wp2_with (first | ((with_reducible refine gate_callee (f := 20) rfl ?_); refine goesL_ (some 34) rfl rfl Try.func20 (by kernel_rfl) rfl #[.int .i64 a0, .int .u16 a1] rfl (by (try simp only [List.map_toArray, List.map_cons, List.map_nil]); first | done | rfl | (simp only [List.length_drop, List.length_take]; rfl)) ?_; (with_reducible refine (vector_Joined.calls a0 a1 t233 t234 t235 t236 t237 _ A6.out).mono ?_); rintro e w9 ⟨rfl, hb⟩; refine ⟨_, rfl, ?_⟩; have n0_ := Aside0.mk (below_step (by repeat (first | (with_reducible first | exact HB.out | apply below_alloc | apply pw_below_drewN | apply below_drew1) | exact HB.out)) hb); clear HB; have HB := n0_; clear n0_; (try clear hb); (try clear hb2); (try clear hk); (try clear hi)) | ((with_reducible refine gate_dst (N := 9) rfl ?_); refine box_event ?hg (N := 9) ?hd (cs := #[.int .i64 0, .int .u16 0, .int .i64 0, .int .i64 0]) (t := 25) ?hr ?_; (case hd => rfl); (case hg => rfl); (case hr => first | (go_simp; done) | (go_simp; rfl)); intro gb238 hg w10 hbox hb; have n0_ := Aside0.mk (below_step (by repeat (first | (with_reducible first | exact HB.out | apply below_alloc | apply pw_below_drewN | apply below_drew1) | exact HB.out)) hb); have n1_ := Aside0.mk (hbox); have n2_ := Aside0.mk ((by rw [hg]; exact (below_size (by repeat (first | (with_reducible first | exact HB.out | apply below_alloc | apply pw_below_drewN | apply below_drew1) | exact HB.out))) : w.heap.size ≤ gb238)); have n3_ := Aside0.mk ((by rw [hg]; exact (below_size (by repeat (first | (with_reducible first | exact HB.out | apply below_alloc | apply pw_below_drewN | apply below_drew1) | exact HB.out))) : w.heap.size ≤ gb238)); clear HB; have HB := n0_; have BK238 := n1_; have GW238 := n2_; have GE238 := n3_; clear n0_ n1_ n2_ n3_; clear hb hbox hg; have hcz11_0 : w10.cell? ⟨gb238, 0, none⟩ = some (.int .i64 0) := (blk_cell BK238.out 0).trans rfl; have hcz11_1 : w10.cell? ⟨gb238, 1, none⟩ = some (.int .u16 0) := (blk_cell BK238.out 1).trans rfl; have hcz11_2 : w10.cell? ⟨gb238, 2, none⟩ = some (.int .i64 0) := (blk_cell BK238.out 2).trans rfl; have hcz11_3 : w10.cell? ⟨gb238, 3, none⟩ = some (.int .i64 0) := (blk_cell BK238.out 3).trans rfl; have hfz11_0 := blk_frozen BK238.out 0; have hfz11_1 := blk_frozen BK238.out 1; have hfz11_2 := blk_frozen BK238.out 2; have hfz11_3 := blk_frozen BK238.out 3) | ((with_reducible refine gate_callee (f := 21) rfl ?_); refine goesL_ (some 40) rfl rfl Try.func21 (by kernel_rfl) rfl #[.int .i64 a0, .int .u16 a1] rfl (by (try simp only [List.map_toArray, List.map_cons, List.map_nil]); first | done | rfl | (simp only [List.length_drop, List.length_take]; rfl)) ?_; (with_reducible refine (vespersref18_Joined.calls a0 a1 t239 t240 t241 t242 t243 _ A7.out).mono ?_); rintro e w12 ⟨rfl, hb⟩; refine ⟨_, rfl, ?_⟩; have n0_ := Aside0.mk (blk_below (g := gb238) (o := .cells #[.int .i64 t233, .int .u16 t234, .int .i64 t235, .int .i64 t236] 25 (0, 0)) (by (with_reducible repeat (first | refine blk_drewN ?_ _ | refine blk_drew ?_ | refine blk_alloc ?_ _)); refine blk_put (cs := #[.int .i64 t233, .int .u16 t234, .int .i64 t235, .int .i64 0]) ?_ 3 _ rfl; (with_reducible repeat (first | refine blk_drewN ?_ _ | refine blk_drew ?_ | refine blk_alloc ?_ _)); refine blk_put (cs := #[.int .i64 t233, .int .u16 t234, .int .i64 0, .int .i64 0]) ?_ 2 _ rfl; (with_reducible repeat (first | refine blk_drewN ?_ _ | refine blk_drew ?_ | refine blk_alloc ?_ _)); refine blk_put (cs := #[.int .i64 t233, .int .u16 0, .int .i64 0, .int .i64 0]) ?_ 1 _ rfl; (with_reducible repeat (first | refine blk_drewN ?_ _ | refine blk_drew ?_ | refine blk_alloc ?_ _)); refine blk_put (cs := #[.int .i64 0, .int .u16 0, .int .i64 0, .int .i64 0]) ?_ 0 _ rfl; (with_reducible repeat (first | refine blk_drewN ?_ _ | refine blk_drew ?_ | refine blk_alloc ?_ _)); exact BK238.out) hb); have n1_ := Aside0.mk (below_step (by repeat (first | (with_reducible first | exact HB.out | apply below_alloc | apply pw_below_drewN | apply below_drew1 | refine below_set ?_ GE238.out) | exact HB.out)) hb); clear BK238; clear HB; have BK238 := n0_; have HB := n1_; clear n0_ n1_; (try clear hb); (try clear hb2); (try clear hk); (try clear hi)) | ((with_reducible refine gate_dst (N := 11) rfl ?_); refine box_event ?hg (N := 11) ?hd (cs := #[.int .i64 0, .int .u16 0, .int .i64 0, .int .i64 0]) (t := 25) ?hr ?_; (case hd => rfl); (case hg => rfl); (case hr => first | (go_simp; done) | (go_simp; rfl)); intro gb244 hg w13 hbox hb; have n0_ := Aside0.mk (blk_below (g := gb238) (o := .cells #[.int .i64 t233, .int .u16 t234, .int .i64 t235, .int .i64 t236] 25 (0, 0)) (by (with_reducible repeat (first | refine blk_drewN ?_ _ | refine blk_drew ?_ | refine blk_alloc ?_ _)); exact BK238.out) hb); have n1_ := Aside0.mk (below_step (by repeat (first | (with_reducible first | exact HB.out | apply below_alloc | apply pw_below_drewN | apply below_drew1 | refine below_set ?_ GE238.out) | exact HB.out)) hb); have n2_ := Aside0.mk (hbox); have n3_ := Aside0.mk ((by rw [hg]; exact (below_size (by repeat (first | (with_reducible first | exact HB.out | apply below_alloc | apply pw_below_drewN | apply below_drew1 | refine below_set ?_ GE238.out) | exact HB.out))) : w.heap.size ≤ gb244)); have n4_ := Aside0.mk ((by rw [hg]; exact (below_size (by repeat (first | (with_reducible first | exact HB.out | apply below_alloc | apply pw_below_drewN | apply below_drew1 | refine below_set ?_ GE238.out) | exact HB.out))) : w.heap.size ≤ gb244)); have n5_ := Aside0.mk ((by rw [hg]; exact Nat.ne_of_lt (blk_lt (g := gb238) (o := .cells #[.int .i64 t233, .int .u16 t234, .int .i64 t235, .int .i64 t236] 25 (0, 0)) (by (with_reducible repeat (first | refine blk_drewN ?_ _ | refine blk_drew ?_ | refine blk_alloc ?_ _)); exact BK238.out)) : gb238 ≠ gb244)); have n6_ := Aside0.mk ((by rw [hg]; exact Nat.ne_of_gt (blk_lt (g := gb238) (o := .cells #[.int .i64 t233, .int .u16 t234, .int .i64 t235, .int .i64 t236] 25 (0, 0)) (by (with_reducible repeat (first | refine blk_drewN ?_ _ | refine blk_drew ?_ | refine blk_alloc ?_ _)); exact BK238.out)) : gb244 ≠ gb238)); clear BK238; clear HB; have BK238 := n0_; have HB := n1_; have BK244 := n2_; have GW244 := n3_; have GE244 := n4_; have NB238_244 := n5_; have NB244_238 := n6_; clear n0_ n1_ n2_ n3_ n4_ n5_ n6_; clear hb hbox hg; have hnb14 := NB244_238.out; have hnc14 := NB238_244.out; have hcz15_0 : w13.cell? ⟨gb244, 0, none⟩ = some (.int .i64 0) := (blk_cell BK244.out 0).trans rfl; have hcz15_1 : w13.cell? ⟨gb244, 1, none⟩ = some (.int .u16 0) := (blk_cell BK244.out 1).trans rfl; have hcz15_2 : w13.cell? ⟨gb244, 2, none⟩ = some (.int .i64 0) := (blk_cell BK244.out 2).trans rfl; have hcz15_3 : w13.cell? ⟨gb244, 3, none⟩ = some (.int .i64 0) := (blk_cell BK244.out 3).trans rfl; have hfz15_0 := blk_frozen BK244.out 0; have hfz15_1 := blk_frozen BK244.out 1; have hfz15_2 := blk_frozen BK244.out 2; have hfz15_3 := blk_frozen BK244.out 3))
      go_loopg [13] k (fun kq v13 w' => ∃ (x13_1 : Int) (x239000_1 : Int) (x239001_1 : Int) (x239002_1 : Int) (x239003_1 : Int) (x245000_1 : Int) (x245001_1 : Int) (x245002_1 : Int) (x245003_1 : Int), v13 = .int .i64 x13_1 ∧ Aside0 (vesperslaw18_VectorRuns.l0 kq a0 l2 a3 t243 x13_1 x239000_1 x239001_1 x239002_1 x239003_1 x245000_1 x245001_1 x245002_1 x245003_1 = some r) ∧ Aside0 (kq ≤ k) ∧ Aside0 (w'.heap[gb238]? = some (.cells #[.int .i64 x239000_1, .int .u16 x239001_1, .int .i64 x239002_1, .int .i64 x239003_1] 25 (0, 0))) ∧ Aside0 (w'.heap[gb244]? = some (.cells #[.int .i64 x245000_1, .int .u16 x245001_1, .int .i64 x245002_1, .int .i64 x245003_1] 25 (0, 0))) ∧ Aside0 (Below w.heap.size w w'))
      case atStart => exact ⟨(0), (t233), (t234), (t235), (t236), (t239), (t240), (t241), (t242), (by first | rfl | (simp; done) | (simp [*]; done)), H', ⟨Nat.le_refl _⟩, ⟨by (with_reducible repeat (first | refine blk_drewN ?_ _ | refine blk_drew ?_ | refine blk_alloc ?_ _)); refine blk_far ?_ NB238_244.out _; (with_reducible repeat (first | refine blk_drewN ?_ _ | refine blk_drew ?_ | refine blk_alloc ?_ _)); refine blk_far ?_ NB238_244.out _; (with_reducible repeat (first | refine blk_drewN ?_ _ | refine blk_drew ?_ | refine blk_alloc ?_ _)); refine blk_far ?_ NB238_244.out _; (with_reducible repeat (first | refine blk_drewN ?_ _ | refine blk_drew ?_ | refine blk_alloc ?_ _)); refine blk_far ?_ NB238_244.out _; (with_reducible repeat (first | refine blk_drewN ?_ _ | refine blk_drew ?_ | refine blk_alloc ?_ _)); exact BK238.out⟩, ⟨by (with_reducible repeat (first | refine blk_drewN ?_ _ | refine blk_drew ?_ | refine blk_alloc ?_ _)); refine blk_put (cs := #[.int .i64 t239, .int .u16 t240, .int .i64 t241, .int .i64 0]) ?_ 3 _ rfl; (with_reducible repeat (first | refine blk_drewN ?_ _ | refine blk_drew ?_ | refine blk_alloc ?_ _)); refine blk_put (cs := #[.int .i64 t239, .int .u16 t240, .int .i64 0, .int .i64 0]) ?_ 2 _ rfl; (with_reducible repeat (first | refine blk_drewN ?_ _ | refine blk_drew ?_ | refine blk_alloc ?_ _)); refine blk_put (cs := #[.int .i64 t239, .int .u16 0, .int .i64 0, .int .i64 0]) ?_ 1 _ rfl; (with_reducible repeat (first | refine blk_drewN ?_ _ | refine blk_drew ?_ | refine blk_alloc ?_ _)); refine blk_put (cs := #[.int .i64 0, .int .u16 0, .int .i64 0, .int .i64 0]) ?_ 0 _ rfl; (with_reducible repeat (first | refine blk_drewN ?_ _ | refine blk_drew ?_ | refine blk_alloc ?_ _)); exact BK244.out⟩, ⟨by repeat (first | (with_reducible first | exact HB.out | apply below_alloc | apply pw_below_drewN | apply below_drew1 | refine below_set ?_ GE238.out | refine below_set ?_ GE244.out) | exact HB.out)⟩⟩
      case round =>
        clear H'
        try clear c1
        try clear c2
        try clear p2
        try clear c4
        try clear c5
        try clear c5b0
        try clear c5b1
        try clear c8
        try clear c8b0
        try clear c8b1
        try clear c14
        try clear hcz11_0
        try clear hcz11_1
        try clear hcz11_2
        try clear hcz11_3
        try clear hcz15_0
        try clear hcz15_1
        try clear hcz15_2
        try clear hcz15_3
        try clear hfz11_0
        try clear hfz11_1
        try clear hfz11_2
        try clear hfz11_3
        try clear hfz15_0
        try clear hfz15_1
        try clear hfz15_2
        try clear hfz15_3
        obtain ⟨x13_1, x239000_1, x239001_1, x239002_1, x239003_1, x245000_1, x245001_1, x245002_1, x245003_1, rfl, HA, HK1, BK238, BK244, HB⟩ := hrel
        cases gk with
        | zero => exact absurd HA.out (by simp [vesperslaw18_VectorRuns.l0])
        | succ k1 =>
          have H := HA.out
          clear HA
          simp only [vesperslaw18_VectorRuns.l0] at H
          have HC16 := Aside0.mk H
          clear H
          go_upto_region 8 with (fail)
          go_cut [53] (fun v53 wc => ∃ (kq : Nat) (x53_15 : Bool), v53 = .bool x53_15 ∧ Aside0 (vesperslaw18_VectorRuns.j1 kq a0 l2 a3 t243 x13_1 x53_15 x239000_1 x239001_1 x239002_1 x239003_1 x245000_1 x245001_1 x245002_1 x245003_1 = some r) ∧ Aside0 (kq ≤ k1) ∧ Aside0 (wc.heap[gb238]? = some (.cells #[.int .i64 x239000_1, .int .u16 x239001_1, .int .i64 x239002_1, .int .i64 x239003_1] 25 (0, 0))) ∧ Aside0 (wc.heap[gb244]? = some (.cells #[.int .i64 x245000_1, .int .u16 x245001_1, .int .i64 x245002_1, .int .i64 x245003_1] 25 (0, 0))) ∧ Aside0 (Below w.heap.size w wc))
          case first =>
            have H := HC16.out
            clear HC16
            by_cases c17 : x13_1 < (l2.length : Int)
            · rw [if_pos c17] at H
              have c17b0 : decide (x13_1 < (l2.length : Int)) = true := decide_eq_true c17
              clear c17
              (first | rw [c17b0] | (simp only [i64_w, i32_w]; rw [c17b0]) | skip)
              have H' := Aside0.mk H
              clear H
              go_wp2
              go_meet
              case rel => exact ⟨_, ((t243 == 0)), (by first | rfl | (simp; done) | (simp [*]; done)), H', ⟨by have := HK1.out; first | omega | exact Nat.le_refl _⟩, ⟨by (with_reducible repeat (first | refine blk_drewN ?_ _ | refine blk_drew ?_ | refine blk_alloc ?_ _)); exact BK238.out⟩, ⟨by (with_reducible repeat (first | refine blk_drewN ?_ _ | refine blk_drew ?_ | refine blk_alloc ?_ _)); exact BK244.out⟩, ⟨by repeat (first | (with_reducible first | exact HB.out | apply below_alloc | apply pw_below_drewN | apply below_drew1 | refine below_set ?_ GE238.out | refine below_set ?_ GE244.out) | exact HB.out)⟩⟩
            · rw [if_neg c17] at H
              have c17b0 : decide (x13_1 < (l2.length : Int)) = false := decide_eq_false c17
              clear c17
              (first | rw [c17b0] | (simp only [i64_w, i32_w]; rw [c17b0]) | skip)
              have H' := Aside0.mk H
              clear H
              go_wp2
              go_meet
              case rel => exact ⟨_, (false), (by first | rfl | (simp; done) | (simp [*]; done)), H', ⟨by have := HK1.out; first | omega | exact Nat.le_refl _⟩, ⟨by (with_reducible repeat (first | refine blk_drewN ?_ _ | refine blk_drew ?_ | refine blk_alloc ?_ _)); exact BK238.out⟩, ⟨by (with_reducible repeat (first | refine blk_drewN ?_ _ | refine blk_drew ?_ | refine blk_alloc ?_ _)); exact BK244.out⟩, ⟨by repeat (first | (with_reducible first | exact HB.out | apply below_alloc | apply pw_below_drewN | apply below_drew1 | refine below_set ?_ GE238.out | refine below_set ?_ GE244.out) | exact HB.out)⟩⟩
          case rest =>
            clear HC16
            try clear c1
            try clear c2
            try clear p2
            try clear c4
            try clear c5
            try clear c5b0
            try clear c5b1
            try clear c8
            try clear c8b0
            try clear c8b1
            try clear c14
            try clear c17
            try clear c17b0
            try clear hcz11_0
            try clear hcz11_1
            try clear hcz11_2
            try clear hcz11_3
            try clear hcz15_0
            try clear hcz15_1
            try clear hcz15_2
            try clear hcz15_3
            try clear hfz11_0
            try clear hfz11_1
            try clear hfz11_2
            try clear hfz11_3
            try clear hfz15_0
            try clear hfz15_1
            try clear hfz15_2
            try clear hfz15_3
            try clear p2
            obtain ⟨kq, x53_15, rfl, HA, HJ15, BK238, BK244, HB⟩ := hcut
            cases kq with
            | zero => exact absurd HA.out (by simp [vesperslaw18_VectorRuns.j1])
            | succ kj15 =>
              have H := HA.out
              clear HA
              simp only [vesperslaw18_VectorRuns.j1] at H
              by_cases c18 : x53_15 = true
              · subst c18
                have H1 : (if 0 ≤ (IntKind.u64.wrap (x13_1)) then (if (Int.tmod x13_1 5) = a0 then (if (Go.bits .and .u64 (shr .u64 a3 (IntKind.u64.wrap (x13_1))) 1) = 1 then ((vector_Quiet.f x239000_1 x239001_1 x239002_1 x239003_1).bind fun bt245 => ((vespersref18_Quiet.f kj15 x245000_1 x245001_1 x245002_1 x245003_1).bind fun bt250 => (if (!(bt245.1 == bt250.1) || (!(bt245.2.1 == bt250.2.1) || (!(bt245.2.2.1 == bt250.2.2.1) || (!(bt245.2.2.2.1 == bt250.2.2.2.1))))) = true then (none) else (vesperslaw18_VectorRuns.l0 kj15 a0 l2 a3 t243 (wrap64 (x13_1 + 1)) bt245.1 bt245.2.1 bt245.2.2.1 bt245.2.2.2.1 bt250.1 bt250.2.1 bt250.2.2.1 bt250.2.2.2.1)))) else ((vector_Sent.f x239000_1 x239001_1 x239002_1 x239003_1).bind fun bt255 => ((vespersref18_Sent.f kj15 x245000_1 x245001_1 x245002_1 x245003_1).bind fun bt260 => (if (!(bt255.1 == bt260.1) || (!(bt255.2.1 == bt260.2.1) || (!(bt255.2.2.1 == bt260.2.2.1) || (!(bt255.2.2.2.1 == bt260.2.2.2.1))))) = true then (none) else (vesperslaw18_VectorRuns.l0 kj15 a0 l2 a3 t243 (wrap64 (x13_1 + 1)) bt255.1 bt255.2.1 bt255.2.2.1 bt255.2.2.2.1 bt260.1 bt260.2.1 bt260.2.2.1 bt260.2.2.2.1))))) else ((vector_Looks.f x239000_1 x239001_1 x239002_1 x239003_1 (Int.tmod x13_1 5)).bind fun bt265 => ((vespersref18_Looks.f kj15 x245000_1 x245001_1 x245002_1 x245003_1 (Int.tmod x13_1 5)).bind fun bt269 => (if 0 ≤ x13_1 then (if x13_1 < (l2.length : Int) then ((vector_Result.f bt265.1 (rd l2 x13_1)).bind fun t274 => ((vespersref18_Result.f kj15 bt269.1 (rd l2 x13_1)).bind fun t276 => (if (Go.bits .and .u64 (shr .u64 a3 (IntKind.u64.wrap (x13_1))) 1) = 1 then (vesperslaw18_VectorRuns.j2 kj15 a0 l2 a3 t243 x13_1 (Int.tmod x13_1 5) 0 0 x239000_1 x239001_1 x239002_1 x239003_1 x245000_1 x245001_1 x245002_1 x245003_1) else (vesperslaw18_VectorRuns.j2 kj15 a0 l2 a3 t243 x13_1 (Int.tmod x13_1 5) t274 t276 x239000_1 x239001_1 x239002_1 x239003_1 x245000_1 x245001_1 x245002_1 x245003_1)))) else (none)) else (none))))) else (none)) = some r := by rw [if_pos rfl] at H; exact H
                clear H
                have H := H1
                clear H1
                obtain ⟨ji19, hji19⟩ : ∃ j_ : Int, (IntKind.u64.wrap (x13_1)) = j_ := ⟨_, rfl⟩
                replace H : (if 0 ≤ (ji19) then (if (Int.tmod x13_1 5) = a0 then (if (Go.bits .and .u64 (shr .u64 a3 (ji19)) 1) = 1 then ((vector_Quiet.f x239000_1 x239001_1 x239002_1 x239003_1).bind fun bt245 => ((vespersref18_Quiet.f kj15 x245000_1 x245001_1 x245002_1 x245003_1).bind fun bt250 => (if (!(bt245.1 == bt250.1) || (!(bt245.2.1 == bt250.2.1) || (!(bt245.2.2.1 == bt250.2.2.1) || (!(bt245.2.2.2.1 == bt250.2.2.2.1))))) = true then (none) else (vesperslaw18_VectorRuns.l0 kj15 a0 l2 a3 t243 (wrap64 (x13_1 + 1)) bt245.1 bt245.2.1 bt245.2.2.1 bt245.2.2.2.1 bt250.1 bt250.2.1 bt250.2.2.1 bt250.2.2.2.1)))) else ((vector_Sent.f x239000_1 x239001_1 x239002_1 x239003_1).bind fun bt255 => ((vespersref18_Sent.f kj15 x245000_1 x245001_1 x245002_1 x245003_1).bind fun bt260 => (if (!(bt255.1 == bt260.1) || (!(bt255.2.1 == bt260.2.1) || (!(bt255.2.2.1 == bt260.2.2.1) || (!(bt255.2.2.2.1 == bt260.2.2.2.1))))) = true then (none) else (vesperslaw18_VectorRuns.l0 kj15 a0 l2 a3 t243 (wrap64 (x13_1 + 1)) bt255.1 bt255.2.1 bt255.2.2.1 bt255.2.2.2.1 bt260.1 bt260.2.1 bt260.2.2.1 bt260.2.2.2.1))))) else ((vector_Looks.f x239000_1 x239001_1 x239002_1 x239003_1 (Int.tmod x13_1 5)).bind fun bt265 => ((vespersref18_Looks.f kj15 x245000_1 x245001_1 x245002_1 x245003_1 (Int.tmod x13_1 5)).bind fun bt269 => (if 0 ≤ x13_1 then (if x13_1 < (l2.length : Int) then ((vector_Result.f bt265.1 (rd l2 x13_1)).bind fun t274 => ((vespersref18_Result.f kj15 bt269.1 (rd l2 x13_1)).bind fun t276 => (if (Go.bits .and .u64 (shr .u64 a3 (ji19)) 1) = 1 then (vesperslaw18_VectorRuns.j2 kj15 a0 l2 a3 t243 x13_1 (Int.tmod x13_1 5) 0 0 x239000_1 x239001_1 x239002_1 x239003_1 x245000_1 x245001_1 x245002_1 x245003_1) else (vesperslaw18_VectorRuns.j2 kj15 a0 l2 a3 t243 x13_1 (Int.tmod x13_1 5) t274 t276 x239000_1 x239001_1 x239002_1 x239003_1 x245000_1 x245001_1 x245002_1 x245003_1)))) else (none)) else (none))))) else (none)) = some r := by first | (rw [hji19] at H; exact H) | (simp only [hji19] at H ⊢; exact H)
                by_cases c20 : 0 ≤ (ji19)
                · rw [if_pos c20] at H
                  have c20b0 := eq_true c20
                  have c20b1 : decide (0 ≤ (ji19)) = true := decide_eq_true c20
                  clear c20
                  obtain ⟨ji21, hji21⟩ : ∃ j_ : Int, (shr .u64 a3 (ji19)) = j_ := ⟨_, rfl⟩
                  replace H : (if (Int.tmod x13_1 5) = a0 then (if (Go.bits .and .u64 (ji21) 1) = 1 then ((vector_Quiet.f x239000_1 x239001_1 x239002_1 x239003_1).bind fun bt245 => ((vespersref18_Quiet.f kj15 x245000_1 x245001_1 x245002_1 x245003_1).bind fun bt250 => (if (!(bt245.1 == bt250.1) || (!(bt245.2.1 == bt250.2.1) || (!(bt245.2.2.1 == bt250.2.2.1) || (!(bt245.2.2.2.1 == bt250.2.2.2.1))))) = true then (none) else (vesperslaw18_VectorRuns.l0 kj15 a0 l2 a3 t243 (wrap64 (x13_1 + 1)) bt245.1 bt245.2.1 bt245.2.2.1 bt245.2.2.2.1 bt250.1 bt250.2.1 bt250.2.2.1 bt250.2.2.2.1)))) else ((vector_Sent.f x239000_1 x239001_1 x239002_1 x239003_1).bind fun bt255 => ((vespersref18_Sent.f kj15 x245000_1 x245001_1 x245002_1 x245003_1).bind fun bt260 => (if (!(bt255.1 == bt260.1) || (!(bt255.2.1 == bt260.2.1) || (!(bt255.2.2.1 == bt260.2.2.1) || (!(bt255.2.2.2.1 == bt260.2.2.2.1))))) = true then (none) else (vesperslaw18_VectorRuns.l0 kj15 a0 l2 a3 t243 (wrap64 (x13_1 + 1)) bt255.1 bt255.2.1 bt255.2.2.1 bt255.2.2.2.1 bt260.1 bt260.2.1 bt260.2.2.1 bt260.2.2.2.1))))) else ((vector_Looks.f x239000_1 x239001_1 x239002_1 x239003_1 (Int.tmod x13_1 5)).bind fun bt265 => ((vespersref18_Looks.f kj15 x245000_1 x245001_1 x245002_1 x245003_1 (Int.tmod x13_1 5)).bind fun bt269 => (if 0 ≤ x13_1 then (if x13_1 < (l2.length : Int) then ((vector_Result.f bt265.1 (rd l2 x13_1)).bind fun t274 => ((vespersref18_Result.f kj15 bt269.1 (rd l2 x13_1)).bind fun t276 => (if (Go.bits .and .u64 (ji21) 1) = 1 then (vesperslaw18_VectorRuns.j2 kj15 a0 l2 a3 t243 x13_1 (Int.tmod x13_1 5) 0 0 x239000_1 x239001_1 x239002_1 x239003_1 x245000_1 x245001_1 x245002_1 x245003_1) else (vesperslaw18_VectorRuns.j2 kj15 a0 l2 a3 t243 x13_1 (Int.tmod x13_1 5) t274 t276 x239000_1 x239001_1 x239002_1 x239003_1 x245000_1 x245001_1 x245002_1 x245003_1)))) else (none)) else (none))))) = some r := by first | (rw [hji21] at H; exact H) | (simp only [hji21] at H ⊢; exact H)
                  have hji21_ : (a3 / 2 ^ min (ji19).toNat 64) = ji21 := hji21
                  have hji21z : (ji19) ≤ 64 → (a3 / 2 ^ (ji19).toNat) = ji21 := shr_small hji21
                  by_cases c22 : (Int.tmod x13_1 5) = a0
                  · rw [if_pos c22] at H
                    have c22b0 : ((Int.tmod x13_1 5) == a0) = true := beq_iff_eq.mpr c22
                    have c22b1 : ((Int.tmod x13_1 5) != a0) = false := bne_eq_false_iff_eq.mpr c22
                    clear c22
                    by_cases c23 : (Go.bits .and .u64 (ji21) 1) = 1
                    · rw [if_pos c23] at H
                      have c23b0 : ((Go.bits .and .u64 (ji21) 1) == 1) = true := beq_iff_eq.mpr c23
                      have c23b1 : ((Go.bits .and .u64 (ji21) 1) != 1) = false := bne_eq_false_iff_eq.mpr c23
                      clear c23
                      replace H := Option.bind_eq_some_iff.mp H
                      obtain ⟨⟨t245, t246, t247, t248, t249⟩, A240, H⟩ := H
                      replace H : ((vespersref18_Quiet.f kj15 x245000_1 x245001_1 x245002_1 x245003_1).bind fun bt250 => (if (!(t245 == bt250.1) || (!(t246 == bt250.2.1) || (!(t247 == bt250.2.2.1) || (!(t248 == bt250.2.2.2.1))))) = true then (none) else (vesperslaw18_VectorRuns.l0 kj15 a0 l2 a3 t243 (wrap64 (x13_1 + 1)) t245 t246 t247 t248 bt250.1 bt250.2.1 bt250.2.2.1 bt250.2.2.2.1))) = some r := H
                      have A24 := Aside0.mk A240
                      clear A240
                      replace H := Option.bind_eq_some_iff.mp H
                      obtain ⟨⟨t250, t251, t252, t253, t254⟩, A250, H⟩ := H
                      replace H : (if (!(t245 == t250) || (!(t246 == t251) || (!(t247 == t252) || (!(t248 == t253))))) = true then (none) else (vesperslaw18_VectorRuns.l0 kj15 a0 l2 a3 t243 (wrap64 (x13_1 + 1)) t245 t246 t247 t248 t250 t251 t252 t253)) = some r := H
                      have A25 := Aside0.mk A250
                      clear A250
                      by_cases c26 : (!(t245 == t250) || (!(t246 == t251) || (!(t247 == t252) || (!(t248 == t253))))) = true
                      · rw [if_pos c26] at H
                        exact absurd H (by simp)
                      · rw [if_neg c26] at H
                        have c26b0 : (!(t245 == t250) || (!(t246 == t251) || (!(t247 == t252) || (!(t248 == t253))))) = false := by simpa using c26
                        clear c26
                        have H' := Aside0.mk H
                        clear H
                        have hnb27 := NB238_244.out
                        have hnc27 := NB244_238.out
                        have hcz28_0 : wc.cell? ⟨gb238, 0, none⟩ = some (.int .i64 x239000_1) := (blk_cell BK238.out 0).trans rfl
                        have hcz28_1 : wc.cell? ⟨gb238, 1, none⟩ = some (.int .u16 x239001_1) := (blk_cell BK238.out 1).trans rfl
                        have hcz28_2 : wc.cell? ⟨gb238, 2, none⟩ = some (.int .i64 x239002_1) := (blk_cell BK238.out 2).trans rfl
                        have hcz28_3 : wc.cell? ⟨gb238, 3, none⟩ = some (.int .i64 x239003_1) := (blk_cell BK238.out 3).trans rfl
                        have hfz28_0 := blk_frozen BK238.out 0
                        have hfz28_1 := blk_frozen BK238.out 1
                        have hfz28_2 := blk_frozen BK238.out 2
                        have hfz28_3 := blk_frozen BK238.out 3
                        go_wp2_with (first | ((with_reducible refine gate_callee (f := 18) rfl ?_); refine goesL_ (some 70) rfl rfl Try.func18 (by kernel_rfl) rfl #[.agg #[.int .i64 x239000_1, .int .u16 x239001_1, .int .i64 x239002_1, .int .i64 x239003_1]] rfl (by (try simp only [List.map_toArray, List.map_cons, List.map_nil]); first | done | rfl | (simp only [List.length_drop, List.length_take]; rfl)) ?_; (with_reducible refine (vector_Quiet.calls x239000_1 x239001_1 x239002_1 x239003_1 t245 t246 t247 t248 t249 _ A24.out).mono ?_); rintro e w29 ⟨rfl, hb⟩; refine ⟨_, rfl, ?_⟩; have n0_ := Aside0.mk (blk_below (g := gb238) (o := .cells #[.int .i64 x239000_1, .int .u16 x239001_1, .int .i64 x239002_1, .int .i64 x239003_1] 25 (0, 0)) (by (with_reducible repeat (first | refine blk_drewN ?_ _ | refine blk_drew ?_ | refine blk_alloc ?_ _)); exact BK238.out) hb); have n1_ := Aside0.mk (blk_below (g := gb244) (o := .cells #[.int .i64 x245000_1, .int .u16 x245001_1, .int .i64 x245002_1, .int .i64 x245003_1] 25 (0, 0)) (by (with_reducible repeat (first | refine blk_drewN ?_ _ | refine blk_drew ?_ | refine blk_alloc ?_ _)); exact BK244.out) hb); have n2_ := Aside0.mk (below_step (by repeat (first | (with_reducible first | exact HB.out | apply below_alloc | apply pw_below_drewN | apply below_drew1 | refine below_set ?_ GE238.out | refine below_set ?_ GE244.out) | exact HB.out)) hb); clear BK238; clear BK244; clear HB; have BK238 := n0_; have BK244 := n1_; have HB := n2_; clear n0_ n1_ n2_; (try clear hb); (try clear hb2); (try clear hk); (try clear hi); have hcz30_0 : w29.cell? ⟨gb238, 0, none⟩ = some (.int .i64 x239000_1) := (blk_cell BK238.out 0).trans rfl; have hcz30_1 : w29.cell? ⟨gb238, 1, none⟩ = some (.int .u16 x239001_1) := (blk_cell BK238.out 1).trans rfl; have hcz30_2 : w29.cell? ⟨gb238, 2, none⟩ = some (.int .i64 x239002_1) := (blk_cell BK238.out 2).trans rfl; have hcz30_3 : w29.cell? ⟨gb238, 3, none⟩ = some (.int .i64 x239003_1) := (blk_cell BK238.out 3).trans rfl; have hfz30_0 := blk_frozen BK238.out 0; have hfz30_1 := blk_frozen BK238.out 1; have hfz30_2 := blk_frozen BK238.out 2; have hfz30_3 := blk_frozen BK238.out 3; have hcz31_0 : w29.cell? ⟨gb244, 0, none⟩ = some (.int .i64 x245000_1) := (blk_cell BK244.out 0).trans rfl; have hcz31_1 : w29.cell? ⟨gb244, 1, none⟩ = some (.int .u16 x245001_1) := (blk_cell BK244.out 1).trans rfl; have hcz31_2 : w29.cell? ⟨gb244, 2, none⟩ = some (.int .i64 x245002_1) := (blk_cell BK244.out 2).trans rfl; have hcz31_3 : w29.cell? ⟨gb244, 3, none⟩ = some (.int .i64 x245003_1) := (blk_cell BK244.out 3).trans rfl; have hfz31_0 := blk_frozen BK244.out 0; have hfz31_1 := blk_frozen BK244.out 1; have hfz31_2 := blk_frozen BK244.out 2; have hfz31_3 := blk_frozen BK244.out 3) | ((with_reducible refine gate_callee (f := 19) rfl ?_); refine goesL_ (some 75) rfl rfl Try.func19 (by kernel_rfl) rfl #[.agg #[.int .i64 x245000_1, .int .u16 x245001_1, .int .i64 x245002_1, .int .i64 x245003_1]] rfl (by (try simp only [List.map_toArray, List.map_cons, List.map_nil]); first | done | rfl | (simp only [List.length_drop, List.length_take]; rfl)) ?_; (with_reducible refine (vespersref18_Quiet.calls kj15 x245000_1 x245001_1 x245002_1 x245003_1 t250 t251 t252 t253 t254 _ A25.out).mono ?_); rintro e w32 ⟨rfl, hb⟩; refine ⟨_, rfl, ?_⟩; have n0_ := Aside0.mk (blk_below (g := gb238) (o := .cells #[.int .i64 t245, .int .u16 t246, .int .i64 t247, .int .i64 t248] 25 (0, 0)) (by (with_reducible repeat (first | refine blk_drewN ?_ _ | refine blk_drew ?_ | refine blk_alloc ?_ _)); refine blk_put (cs := #[.int .i64 t245, .int .u16 t246, .int .i64 t247, .int .i64 x239003_1]) ?_ 3 _ rfl; (with_reducible repeat (first | refine blk_drewN ?_ _ | refine blk_drew ?_ | refine blk_alloc ?_ _)); refine blk_put (cs := #[.int .i64 t245, .int .u16 t246, .int .i64 x239002_1, .int .i64 x239003_1]) ?_ 2 _ rfl; (with_reducible repeat (first | refine blk_drewN ?_ _ | refine blk_drew ?_ | refine blk_alloc ?_ _)); refine blk_put (cs := #[.int .i64 t245, .int .u16 x239001_1, .int .i64 x239002_1, .int .i64 x239003_1]) ?_ 1 _ rfl; (with_reducible repeat (first | refine blk_drewN ?_ _ | refine blk_drew ?_ | refine blk_alloc ?_ _)); refine blk_put (cs := #[.int .i64 x239000_1, .int .u16 x239001_1, .int .i64 x239002_1, .int .i64 x239003_1]) ?_ 0 _ rfl; (with_reducible repeat (first | refine blk_drewN ?_ _ | refine blk_drew ?_ | refine blk_alloc ?_ _)); exact BK238.out) hb); have n1_ := Aside0.mk (blk_below (g := gb244) (o := .cells #[.int .i64 x245000_1, .int .u16 x245001_1, .int .i64 x245002_1, .int .i64 x245003_1] 25 (0, 0)) (by (with_reducible repeat (first | refine blk_drewN ?_ _ | refine blk_drew ?_ | refine blk_alloc ?_ _)); refine blk_far ?_ NB244_238.out _; (with_reducible repeat (first | refine blk_drewN ?_ _ | refine blk_drew ?_ | refine blk_alloc ?_ _)); refine blk_far ?_ NB244_238.out _; (with_reducible repeat (first | refine blk_drewN ?_ _ | refine blk_drew ?_ | refine blk_alloc ?_ _)); refine blk_far ?_ NB244_238.out _; (with_reducible repeat (first | refine blk_drewN ?_ _ | refine blk_drew ?_ | refine blk_alloc ?_ _)); refine blk_far ?_ NB244_238.out _; (with_reducible repeat (first | refine blk_drewN ?_ _ | refine blk_drew ?_ | refine blk_alloc ?_ _)); exact BK244.out) hb); have n2_ := Aside0.mk (below_step (by repeat (first | (with_reducible first | exact HB.out | apply below_alloc | apply pw_below_drewN | apply below_drew1 | refine below_set ?_ GE238.out | refine below_set ?_ GE244.out) | exact HB.out)) hb); clear BK238; clear BK244; clear HB; have BK238 := n0_; have BK244 := n1_; have HB := n2_; clear n0_ n1_ n2_; (try clear hb); (try clear hb2); (try clear hk); (try clear hi); have hcz33_0 : w32.cell? ⟨gb244, 0, none⟩ = some (.int .i64 x245000_1) := (blk_cell BK244.out 0).trans rfl; have hcz33_1 : w32.cell? ⟨gb244, 1, none⟩ = some (.int .u16 x245001_1) := (blk_cell BK244.out 1).trans rfl; have hcz33_2 : w32.cell? ⟨gb244, 2, none⟩ = some (.int .i64 x245002_1) := (blk_cell BK244.out 2).trans rfl; have hcz33_3 : w32.cell? ⟨gb244, 3, none⟩ = some (.int .i64 x245003_1) := (blk_cell BK244.out 3).trans rfl; have hfz33_0 := blk_frozen BK244.out 0; have hfz33_1 := blk_frozen BK244.out 1; have hfz33_2 := blk_frozen BK244.out 2; have hfz33_3 := blk_frozen BK244.out 3; have hcz34_0 : w32.cell? ⟨gb238, 0, none⟩ = some (.int .i64 t245) := (blk_cell BK238.out 0).trans rfl; have hcz34_1 : w32.cell? ⟨gb238, 1, none⟩ = some (.int .u16 t246) := (blk_cell BK238.out 1).trans rfl; have hcz34_2 : w32.cell? ⟨gb238, 2, none⟩ = some (.int .i64 t247) := (blk_cell BK238.out 2).trans rfl; have hcz34_3 : w32.cell? ⟨gb238, 3, none⟩ = some (.int .i64 t248) := (blk_cell BK238.out 3).trans rfl; have hfz34_0 := blk_frozen BK238.out 0; have hfz34_1 := blk_frozen BK238.out 1; have hfz34_2 := blk_frozen BK238.out 2; have hfz34_3 := blk_frozen BK238.out 3))
                        go_roundg kj15
                        case measure => have := HK1.out; have := HJ15.out; omega
                        case rel => exact ⟨(wrap64 (x13_1 + 1)), (t245), (t246), (t247), (t248), (t250), (t251), (t252), (t253), (by first | rfl | (simp; done) | (simp [*]; done)), H', ⟨by have := HK1.out; have := HJ15.out; omega⟩, ⟨by (with_reducible repeat (first | refine blk_drewN ?_ _ | refine blk_drew ?_ | refine blk_alloc ?_ _)); refine blk_far ?_ NB238_244.out _; (with_reducible repeat (first | refine blk_drewN ?_ _ | refine blk_drew ?_ | refine blk_alloc ?_ _)); refine blk_far ?_ NB238_244.out _; (with_reducible repeat (first | refine blk_drewN ?_ _ | refine blk_drew ?_ | refine blk_alloc ?_ _)); refine blk_far ?_ NB238_244.out _; (with_reducible repeat (first | refine blk_drewN ?_ _ | refine blk_drew ?_ | refine blk_alloc ?_ _)); refine blk_far ?_ NB238_244.out _; (with_reducible repeat (first | refine blk_drewN ?_ _ | refine blk_drew ?_ | refine blk_alloc ?_ _)); exact BK238.out⟩, ⟨by (with_reducible repeat (first | refine blk_drewN ?_ _ | refine blk_drew ?_ | refine blk_alloc ?_ _)); refine blk_put (cs := #[.int .i64 t250, .int .u16 t251, .int .i64 t252, .int .i64 x245003_1]) ?_ 3 _ rfl; (with_reducible repeat (first | refine blk_drewN ?_ _ | refine blk_drew ?_ | refine blk_alloc ?_ _)); refine blk_put (cs := #[.int .i64 t250, .int .u16 t251, .int .i64 x245002_1, .int .i64 x245003_1]) ?_ 2 _ rfl; (with_reducible repeat (first | refine blk_drewN ?_ _ | refine blk_drew ?_ | refine blk_alloc ?_ _)); refine blk_put (cs := #[.int .i64 t250, .int .u16 x245001_1, .int .i64 x245002_1, .int .i64 x245003_1]) ?_ 1 _ rfl; (with_reducible repeat (first | refine blk_drewN ?_ _ | refine blk_drew ?_ | refine blk_alloc ?_ _)); refine blk_put (cs := #[.int .i64 x245000_1, .int .u16 x245001_1, .int .i64 x245002_1, .int .i64 x245003_1]) ?_ 0 _ rfl; (with_reducible repeat (first | refine blk_drewN ?_ _ | refine blk_drew ?_ | refine blk_alloc ?_ _)); exact BK244.out⟩, ⟨by repeat (first | (with_reducible first | exact HB.out | apply below_alloc | apply pw_below_drewN | apply below_drew1 | refine below_set ?_ GE238.out | refine below_set ?_ GE244.out) | exact HB.out)⟩⟩
                    · rw [if_neg c23] at H
                      have c23b0 : ((Go.bits .and .u64 (ji21) 1) == 1) = false := beq_eq_false_iff_ne.mpr c23
                      have c23b1 : ((Go.bits .and .u64 (ji21) 1) != 1) = true := bne_iff_ne.mpr c23
                      replace H := Option.bind_eq_some_iff.mp H
                      obtain ⟨⟨t255, t256, t257, t258, t259⟩, A350, H⟩ := H
                      replace H : ((vespersref18_Sent.f kj15 x245000_1 x245001_1 x245002_1 x245003_1).bind fun bt260 => (if (!(t255 == bt260.1) || (!(t256 == bt260.2.1) || (!(t257 == bt260.2.2.1) || (!(t258 == bt260.2.2.2.1))))) = true then (none) else (vesperslaw18_VectorRuns.l0 kj15 a0 l2 a3 t243 (wrap64 (x13_1 + 1)) t255 t256 t257 t258 bt260.1 bt260.2.1 bt260.2.2.1 bt260.2.2.2.1))) = some r := H
                      have A35 := Aside0.mk A350
                      clear A350
                      replace H := Option.bind_eq_some_iff.mp H
                      obtain ⟨⟨t260, t261, t262, t263, t264⟩, A360, H⟩ := H
                      replace H : (if (!(t255 == t260) || (!(t256 == t261) || (!(t257 == t262) || (!(t258 == t263))))) = true then (none) else (vesperslaw18_VectorRuns.l0 kj15 a0 l2 a3 t243 (wrap64 (x13_1 + 1)) t255 t256 t257 t258 t260 t261 t262 t263)) = some r := H
                      have A36 := Aside0.mk A360
                      clear A360
                      by_cases c37 : (!(t255 == t260) || (!(t256 == t261) || (!(t257 == t262) || (!(t258 == t263))))) = true
                      · rw [if_pos c37] at H
                        exact absurd H (by simp)
                      · rw [if_neg c37] at H
                        have c37b0 : (!(t255 == t260) || (!(t256 == t261) || (!(t257 == t262) || (!(t258 == t263))))) = false := by simpa using c37
                        clear c37
                        have H' := Aside0.mk H
                        clear H
                        have hnb38 := NB238_244.out
                        have hnc38 := NB244_238.out
                        have hcz39_0 : wc.cell? ⟨gb238, 0, none⟩ = some (.int .i64 x239000_1) := (blk_cell BK238.out 0).trans rfl
                        have hcz39_1 : wc.cell? ⟨gb238, 1, none⟩ = some (.int .u16 x239001_1) := (blk_cell BK238.out 1).trans rfl
                        have hcz39_2 : wc.cell? ⟨gb238, 2, none⟩ = some (.int .i64 x239002_1) := (blk_cell BK238.out 2).trans rfl
                        have hcz39_3 : wc.cell? ⟨gb238, 3, none⟩ = some (.int .i64 x239003_1) := (blk_cell BK238.out 3).trans rfl
                        have hfz39_0 := blk_frozen BK238.out 0
                        have hfz39_1 := blk_frozen BK238.out 1
                        have hfz39_2 := blk_frozen BK238.out 2
                        have hfz39_3 := blk_frozen BK238.out 3
                        go_wp2_with (first | ((with_reducible refine gate_callee (f := 16) rfl ?_); refine goesL_ (some 80) rfl rfl Try.func16 (by kernel_rfl) rfl #[.agg #[.int .i64 x239000_1, .int .u16 x239001_1, .int .i64 x239002_1, .int .i64 x239003_1]] rfl (by (try simp only [List.map_toArray, List.map_cons, List.map_nil]); first | done | rfl | (simp only [List.length_drop, List.length_take]; rfl)) ?_; (with_reducible refine (vector_Sent.calls x239000_1 x239001_1 x239002_1 x239003_1 t255 t256 t257 t258 t259 _ A35.out).mono ?_); rintro e w40 ⟨rfl, hb⟩; refine ⟨_, rfl, ?_⟩; have n0_ := Aside0.mk (blk_below (g := gb238) (o := .cells #[.int .i64 x239000_1, .int .u16 x239001_1, .int .i64 x239002_1, .int .i64 x239003_1] 25 (0, 0)) (by (with_reducible repeat (first | refine blk_drewN ?_ _ | refine blk_drew ?_ | refine blk_alloc ?_ _)); exact BK238.out) hb); have n1_ := Aside0.mk (blk_below (g := gb244) (o := .cells #[.int .i64 x245000_1, .int .u16 x245001_1, .int .i64 x245002_1, .int .i64 x245003_1] 25 (0, 0)) (by (with_reducible repeat (first | refine blk_drewN ?_ _ | refine blk_drew ?_ | refine blk_alloc ?_ _)); exact BK244.out) hb); have n2_ := Aside0.mk (below_step (by repeat (first | (with_reducible first | exact HB.out | apply below_alloc | apply pw_below_drewN | apply below_drew1 | refine below_set ?_ GE238.out | refine below_set ?_ GE244.out) | exact HB.out)) hb); clear BK238; clear BK244; clear HB; have BK238 := n0_; have BK244 := n1_; have HB := n2_; clear n0_ n1_ n2_; (try clear hb); (try clear hb2); (try clear hk); (try clear hi); have hcz41_0 : w40.cell? ⟨gb238, 0, none⟩ = some (.int .i64 x239000_1) := (blk_cell BK238.out 0).trans rfl; have hcz41_1 : w40.cell? ⟨gb238, 1, none⟩ = some (.int .u16 x239001_1) := (blk_cell BK238.out 1).trans rfl; have hcz41_2 : w40.cell? ⟨gb238, 2, none⟩ = some (.int .i64 x239002_1) := (blk_cell BK238.out 2).trans rfl; have hcz41_3 : w40.cell? ⟨gb238, 3, none⟩ = some (.int .i64 x239003_1) := (blk_cell BK238.out 3).trans rfl; have hfz41_0 := blk_frozen BK238.out 0; have hfz41_1 := blk_frozen BK238.out 1; have hfz41_2 := blk_frozen BK238.out 2; have hfz41_3 := blk_frozen BK238.out 3; have hcz42_0 : w40.cell? ⟨gb244, 0, none⟩ = some (.int .i64 x245000_1) := (blk_cell BK244.out 0).trans rfl; have hcz42_1 : w40.cell? ⟨gb244, 1, none⟩ = some (.int .u16 x245001_1) := (blk_cell BK244.out 1).trans rfl; have hcz42_2 : w40.cell? ⟨gb244, 2, none⟩ = some (.int .i64 x245002_1) := (blk_cell BK244.out 2).trans rfl; have hcz42_3 : w40.cell? ⟨gb244, 3, none⟩ = some (.int .i64 x245003_1) := (blk_cell BK244.out 3).trans rfl; have hfz42_0 := blk_frozen BK244.out 0; have hfz42_1 := blk_frozen BK244.out 1; have hfz42_2 := blk_frozen BK244.out 2; have hfz42_3 := blk_frozen BK244.out 3) | ((with_reducible refine gate_callee (f := 17) rfl ?_); refine goesL_ (some 85) rfl rfl Try.func17 (by kernel_rfl) rfl #[.agg #[.int .i64 x245000_1, .int .u16 x245001_1, .int .i64 x245002_1, .int .i64 x245003_1]] rfl (by (try simp only [List.map_toArray, List.map_cons, List.map_nil]); first | done | rfl | (simp only [List.length_drop, List.length_take]; rfl)) ?_; (with_reducible refine (vespersref18_Sent.calls kj15 x245000_1 x245001_1 x245002_1 x245003_1 t260 t261 t262 t263 t264 _ A36.out).mono ?_); rintro e w43 ⟨rfl, hb⟩; refine ⟨_, rfl, ?_⟩; have n0_ := Aside0.mk (blk_below (g := gb238) (o := .cells #[.int .i64 t255, .int .u16 t256, .int .i64 t257, .int .i64 t258] 25 (0, 0)) (by (with_reducible repeat (first | refine blk_drewN ?_ _ | refine blk_drew ?_ | refine blk_alloc ?_ _)); refine blk_put (cs := #[.int .i64 t255, .int .u16 t256, .int .i64 t257, .int .i64 x239003_1]) ?_ 3 _ rfl; (with_reducible repeat (first | refine blk_drewN ?_ _ | refine blk_drew ?_ | refine blk_alloc ?_ _)); refine blk_put (cs := #[.int .i64 t255, .int .u16 t256, .int .i64 x239002_1, .int .i64 x239003_1]) ?_ 2 _ rfl; (with_reducible repeat (first | refine blk_drewN ?_ _ | refine blk_drew ?_ | refine blk_alloc ?_ _)); refine blk_put (cs := #[.int .i64 t255, .int .u16 x239001_1, .int .i64 x239002_1, .int .i64 x239003_1]) ?_ 1 _ rfl; (with_reducible repeat (first | refine blk_drewN ?_ _ | refine blk_drew ?_ | refine blk_alloc ?_ _)); refine blk_put (cs := #[.int .i64 x239000_1, .int .u16 x239001_1, .int .i64 x239002_1, .int .i64 x239003_1]) ?_ 0 _ rfl; (with_reducible repeat (first | refine blk_drewN ?_ _ | refine blk_drew ?_ | refine blk_alloc ?_ _)); exact BK238.out) hb); have n1_ := Aside0.mk (blk_below (g := gb244) (o := .cells #[.int .i64 x245000_1, .int .u16 x245001_1, .int .i64 x245002_1, .int .i64 x245003_1] 25 (0, 0)) (by (with_reducible repeat (first | refine blk_drewN ?_ _ | refine blk_drew ?_ | refine blk_alloc ?_ _)); refine blk_far ?_ NB244_238.out _; (with_reducible repeat (first | refine blk_drewN ?_ _ | refine blk_drew ?_ | refine blk_alloc ?_ _)); refine blk_far ?_ NB244_238.out _; (with_reducible repeat (first | refine blk_drewN ?_ _ | refine blk_drew ?_ | refine blk_alloc ?_ _)); refine blk_far ?_ NB244_238.out _; (with_reducible repeat (first | refine blk_drewN ?_ _ | refine blk_drew ?_ | refine blk_alloc ?_ _)); refine blk_far ?_ NB244_238.out _; (with_reducible repeat (first | refine blk_drewN ?_ _ | refine blk_drew ?_ | refine blk_alloc ?_ _)); exact BK244.out) hb); have n2_ := Aside0.mk (below_step (by repeat (first | (with_reducible first | exact HB.out | apply below_alloc | apply pw_below_drewN | apply below_drew1 | refine below_set ?_ GE238.out | refine below_set ?_ GE244.out) | exact HB.out)) hb); clear BK238; clear BK244; clear HB; have BK238 := n0_; have BK244 := n1_; have HB := n2_; clear n0_ n1_ n2_; (try clear hb); (try clear hb2); (try clear hk); (try clear hi); have hcz44_0 : w43.cell? ⟨gb244, 0, none⟩ = some (.int .i64 x245000_1) := (blk_cell BK244.out 0).trans rfl; have hcz44_1 : w43.cell? ⟨gb244, 1, none⟩ = some (.int .u16 x245001_1) := (blk_cell BK244.out 1).trans rfl; have hcz44_2 : w43.cell? ⟨gb244, 2, none⟩ = some (.int .i64 x245002_1) := (blk_cell BK244.out 2).trans rfl; have hcz44_3 : w43.cell? ⟨gb244, 3, none⟩ = some (.int .i64 x245003_1) := (blk_cell BK244.out 3).trans rfl; have hfz44_0 := blk_frozen BK244.out 0; have hfz44_1 := blk_frozen BK244.out 1; have hfz44_2 := blk_frozen BK244.out 2; have hfz44_3 := blk_frozen BK244.out 3; have hcz45_0 : w43.cell? ⟨gb238, 0, none⟩ = some (.int .i64 t255) := (blk_cell BK238.out 0).trans rfl; have hcz45_1 : w43.cell? ⟨gb238, 1, none⟩ = some (.int .u16 t256) := (blk_cell BK238.out 1).trans rfl; have hcz45_2 : w43.cell? ⟨gb238, 2, none⟩ = some (.int .i64 t257) := (blk_cell BK238.out 2).trans rfl; have hcz45_3 : w43.cell? ⟨gb238, 3, none⟩ = some (.int .i64 t258) := (blk_cell BK238.out 3).trans rfl; have hfz45_0 := blk_frozen BK238.out 0; have hfz45_1 := blk_frozen BK238.out 1; have hfz45_2 := blk_frozen BK238.out 2; have hfz45_3 := blk_frozen BK238.out 3))
                        go_roundg kj15
                        case measure => have := HK1.out; have := HJ15.out; omega
                        case rel => exact ⟨(wrap64 (x13_1 + 1)), (t255), (t256), (t257), (t258), (t260), (t261), (t262), (t263), (by first | rfl | (simp; done) | (simp [*]; done)), H', ⟨by have := HK1.out; have := HJ15.out; omega⟩, ⟨by (with_reducible repeat (first | refine blk_drewN ?_ _ | refine blk_drew ?_ | refine blk_alloc ?_ _)); refine blk_far ?_ NB238_244.out _; (with_reducible repeat (first | refine blk_drewN ?_ _ | refine blk_drew ?_ | refine blk_alloc ?_ _)); refine blk_far ?_ NB238_244.out _; (with_reducible repeat (first | refine blk_drewN ?_ _ | refine blk_drew ?_ | refine blk_alloc ?_ _)); refine blk_far ?_ NB238_244.out _; (with_reducible repeat (first | refine blk_drewN ?_ _ | refine blk_drew ?_ | refine blk_alloc ?_ _)); refine blk_far ?_ NB238_244.out _; (with_reducible repeat (first | refine blk_drewN ?_ _ | refine blk_drew ?_ | refine blk_alloc ?_ _)); exact BK238.out⟩, ⟨by (with_reducible repeat (first | refine blk_drewN ?_ _ | refine blk_drew ?_ | refine blk_alloc ?_ _)); refine blk_put (cs := #[.int .i64 t260, .int .u16 t261, .int .i64 t262, .int .i64 x245003_1]) ?_ 3 _ rfl; (with_reducible repeat (first | refine blk_drewN ?_ _ | refine blk_drew ?_ | refine blk_alloc ?_ _)); refine blk_put (cs := #[.int .i64 t260, .int .u16 t261, .int .i64 x245002_1, .int .i64 x245003_1]) ?_ 2 _ rfl; (with_reducible repeat (first | refine blk_drewN ?_ _ | refine blk_drew ?_ | refine blk_alloc ?_ _)); refine blk_put (cs := #[.int .i64 t260, .int .u16 x245001_1, .int .i64 x245002_1, .int .i64 x245003_1]) ?_ 1 _ rfl; (with_reducible repeat (first | refine blk_drewN ?_ _ | refine blk_drew ?_ | refine blk_alloc ?_ _)); refine blk_put (cs := #[.int .i64 x245000_1, .int .u16 x245001_1, .int .i64 x245002_1, .int .i64 x245003_1]) ?_ 0 _ rfl; (with_reducible repeat (first | refine blk_drewN ?_ _ | refine blk_drew ?_ | refine blk_alloc ?_ _)); exact BK244.out⟩, ⟨by repeat (first | (with_reducible first | exact HB.out | apply below_alloc | apply pw_below_drewN | apply below_drew1 | refine below_set ?_ GE238.out | refine below_set ?_ GE244.out) | exact HB.out)⟩⟩
                  · rw [if_neg c22] at H
                    have c22b0 : ((Int.tmod x13_1 5) == a0) = false := beq_eq_false_iff_ne.mpr c22
                    have c22b1 : ((Int.tmod x13_1 5) != a0) = true := bne_iff_ne.mpr c22
                    replace H := Option.bind_eq_some_iff.mp H
                    obtain ⟨⟨t265, t268⟩, A460, H⟩ := H
                    replace H : ((vespersref18_Looks.f kj15 x245000_1 x245001_1 x245002_1 x245003_1 (Int.tmod x13_1 5)).bind fun bt269 => (if 0 ≤ x13_1 then (if x13_1 < (l2.length : Int) then ((vector_Result.f t265 (rd l2 x13_1)).bind fun t274 => ((vespersref18_Result.f kj15 bt269.1 (rd l2 x13_1)).bind fun t276 => (if (Go.bits .and .u64 (ji21) 1) = 1 then (vesperslaw18_VectorRuns.j2 kj15 a0 l2 a3 t243 x13_1 (Int.tmod x13_1 5) 0 0 x239000_1 x239001_1 x239002_1 x239003_1 x245000_1 x245001_1 x245002_1 x245003_1) else (vesperslaw18_VectorRuns.j2 kj15 a0 l2 a3 t243 x13_1 (Int.tmod x13_1 5) t274 t276 x239000_1 x239001_1 x239002_1 x239003_1 x245000_1 x245001_1 x245002_1 x245003_1)))) else (none)) else (none))) = some r := H
                    have A46 := Aside0.mk A460
                    clear A460
                    replace H := Option.bind_eq_some_iff.mp H
                    obtain ⟨⟨t269, t272⟩, A470, H⟩ := H
                    replace H : (if 0 ≤ x13_1 then (if x13_1 < (l2.length : Int) then ((vector_Result.f t265 (rd l2 x13_1)).bind fun t274 => ((vespersref18_Result.f kj15 t269 (rd l2 x13_1)).bind fun t276 => (if (Go.bits .and .u64 (ji21) 1) = 1 then (vesperslaw18_VectorRuns.j2 kj15 a0 l2 a3 t243 x13_1 (Int.tmod x13_1 5) 0 0 x239000_1 x239001_1 x239002_1 x239003_1 x245000_1 x245001_1 x245002_1 x245003_1) else (vesperslaw18_VectorRuns.j2 kj15 a0 l2 a3 t243 x13_1 (Int.tmod x13_1 5) t274 t276 x239000_1 x239001_1 x239002_1 x239003_1 x245000_1 x245001_1 x245002_1 x245003_1)))) else (none)) else (none)) = some r := H
                    have A47 := Aside0.mk A470
                    clear A470
                    by_cases c48 : 0 ≤ x13_1
                    · rw [if_pos c48] at H
                      have c48b0 : decide (0 ≤ x13_1) = true := decide_eq_true c48
                      clear c48
                      by_cases c49 : x13_1 < (l2.length : Int)
                      · rw [if_pos c49] at H
                        have c49b0 : decide (x13_1 < (l2.length : Int)) = true := decide_eq_true c49
                        clear c49
                        replace H := Option.bind_eq_some_iff.mp H
                        obtain ⟨t274, A500, H⟩ := H
                        replace H : ((vespersref18_Result.f kj15 t269 (rd l2 x13_1)).bind fun t276 => (if (Go.bits .and .u64 (ji21) 1) = 1 then (vesperslaw18_VectorRuns.j2 kj15 a0 l2 a3 t243 x13_1 (Int.tmod x13_1 5) 0 0 x239000_1 x239001_1 x239002_1 x239003_1 x245000_1 x245001_1 x245002_1 x245003_1) else (vesperslaw18_VectorRuns.j2 kj15 a0 l2 a3 t243 x13_1 (Int.tmod x13_1 5) t274 t276 x239000_1 x239001_1 x239002_1 x239003_1 x245000_1 x245001_1 x245002_1 x245003_1))) = some r := H
                        have A50 := Aside0.mk A500
                        clear A500
                        replace H := Option.bind_eq_some_iff.mp H
                        obtain ⟨t276, A510, H⟩ := H
                        replace H : (if (Go.bits .and .u64 (ji21) 1) = 1 then (vesperslaw18_VectorRuns.j2 kj15 a0 l2 a3 t243 x13_1 (Int.tmod x13_1 5) 0 0 x239000_1 x239001_1 x239002_1 x239003_1 x245000_1 x245001_1 x245002_1 x245003_1) else (vesperslaw18_VectorRuns.j2 kj15 a0 l2 a3 t243 x13_1 (Int.tmod x13_1 5) t274 t276 x239000_1 x239001_1 x239002_1 x239003_1 x245000_1 x245001_1 x245002_1 x245003_1)) = some r := H
                        have A51 := Aside0.mk A510
                        clear A510
                        have HC52 := Aside0.mk H
                        clear H
                        have hnb53 := NB238_244.out
                        have hnc53 := NB244_238.out
                        have hcz54_0 : wc.cell? ⟨gb238, 0, none⟩ = some (.int .i64 x239000_1) := (blk_cell BK238.out 0).trans rfl
                        have hcz54_1 : wc.cell? ⟨gb238, 1, none⟩ = some (.int .u16 x239001_1) := (blk_cell BK238.out 1).trans rfl
                        have hcz54_2 : wc.cell? ⟨gb238, 2, none⟩ = some (.int .i64 x239002_1) := (blk_cell BK238.out 2).trans rfl
                        have hcz54_3 : wc.cell? ⟨gb238, 3, none⟩ = some (.int .i64 x239003_1) := (blk_cell BK238.out 3).trans rfl
                        have hfz54_0 := blk_frozen BK238.out 0
                        have hfz54_1 := blk_frozen BK238.out 1
                        have hfz54_2 := blk_frozen BK238.out 2
                        have hfz54_3 := blk_frozen BK238.out 3
                        try go_wp2_with (first | ((with_reducible refine gate_callee (f := 8) rfl ?_); refine goesL_ (some 91) rfl rfl Try.func8 (by kernel_rfl) rfl #[.agg #[.int .i64 x239000_1, .int .u16 x239001_1, .int .i64 x239002_1, .int .i64 x239003_1], .int .i64 (Int.tmod x13_1 5)] rfl (by (try simp only [List.map_toArray, List.map_cons, List.map_nil]); first | done | rfl | (simp only [List.length_drop, List.length_take]; rfl)) ?_; (with_reducible refine (vector_Looks.calls x239000_1 x239001_1 x239002_1 x239003_1 (Int.tmod x13_1 5) t265 t268 _ A46.out).mono ?_); rintro e w55 ⟨v266, rfl, ho0, hb⟩; refine ⟨_, rfl, ?_⟩; have n0_ := Aside0.mk (Kd.R_lower ho0 (below_size (by repeat (first | (with_reducible first | exact HB.out | apply below_alloc | apply pw_below_drewN | apply below_drew1 | refine below_set ?_ GE238.out | refine below_set ?_ GE244.out) | exact HB.out)))); have n1_ := Aside0.mk (blk_below (g := gb238) (o := .cells #[.int .i64 x239000_1, .int .u16 x239001_1, .int .i64 x239002_1, .int .i64 x239003_1] 25 (0, 0)) (by (with_reducible repeat (first | refine blk_drewN ?_ _ | refine blk_drew ?_ | refine blk_alloc ?_ _)); exact BK238.out) hb); have n2_ := Aside0.mk (blk_below (g := gb244) (o := .cells #[.int .i64 x245000_1, .int .u16 x245001_1, .int .i64 x245002_1, .int .i64 x245003_1] 25 (0, 0)) (by (with_reducible repeat (first | refine blk_drewN ?_ _ | refine blk_drew ?_ | refine blk_alloc ?_ _)); exact BK244.out) hb); have n3_ := Aside0.mk (below_step (by repeat (first | (with_reducible first | exact HB.out | apply below_alloc | apply pw_below_drewN | apply below_drew1 | refine below_set ?_ GE238.out | refine below_set ?_ GE244.out) | exact HB.out)) hb); clear BK238; clear BK244; clear HB; have HO267 := n0_; have BK238 := n1_; have BK244 := n2_; have HB := n3_; clear n0_ n1_ n2_ n3_; (try clear hb); (try clear hb2); (try clear hk); (try clear hi); (try clear ho0); have hcz56_0 : w55.cell? ⟨gb244, 0, none⟩ = some (.int .i64 x245000_1) := (blk_cell BK244.out 0).trans rfl; have hcz56_1 : w55.cell? ⟨gb244, 1, none⟩ = some (.int .u16 x245001_1) := (blk_cell BK244.out 1).trans rfl; have hcz56_2 : w55.cell? ⟨gb244, 2, none⟩ = some (.int .i64 x245002_1) := (blk_cell BK244.out 2).trans rfl; have hcz56_3 : w55.cell? ⟨gb244, 3, none⟩ = some (.int .i64 x245003_1) := (blk_cell BK244.out 3).trans rfl; have hfz56_0 := blk_frozen BK244.out 0; have hfz56_1 := blk_frozen BK244.out 1; have hfz56_2 := blk_frozen BK244.out 2; have hfz56_3 := blk_frozen BK244.out 3) | ((with_reducible refine gate_callee (f := 9) rfl ?_); refine goesL_ (some 97) rfl rfl Try.func9 (by kernel_rfl) rfl #[.agg #[.int .i64 x245000_1, .int .u16 x245001_1, .int .i64 x245002_1, .int .i64 x245003_1], .int .i64 (Int.tmod x13_1 5)] rfl (by (try simp only [List.map_toArray, List.map_cons, List.map_nil]); first | done | rfl | (simp only [List.length_drop, List.length_take]; rfl)) ?_; (with_reducible refine (vespersref18_Looks.calls kj15 x245000_1 x245001_1 x245002_1 x245003_1 (Int.tmod x13_1 5) t269 t272 _ A47.out).mono ?_); rintro e w57 ⟨v270, rfl, ho0, hb⟩; refine ⟨_, rfl, ?_⟩; have n0_ := Aside0.mk (Kd.R_elder' (by (with_reducible repeat (first | apply Kd.R_alloc | apply Kd.R_drewN | apply Kd.R_drew)); exact HO267.out) (Kd.R_base ho0) hb); have n1_ := Aside0.mk (Kd.R_lower (Kd.R_new' ho0 (Kd.R_lt (by (with_reducible repeat (first | apply Kd.R_alloc | apply Kd.R_drewN | apply Kd.R_drew)); exact HO267.out))) (below_size (by repeat (first | (with_reducible first | exact HB.out | apply below_alloc | apply pw_below_drewN | apply below_drew1 | refine below_set ?_ GE238.out | refine below_set ?_ GE244.out) | exact HB.out)))); have n2_ := Aside0.mk (blk_below (g := gb238) (o := .cells #[.int .i64 x239000_1, .int .u16 x239001_1, .int .i64 x239002_1, .int .i64 x239003_1] 25 (0, 0)) (by (with_reducible repeat (first | refine blk_drewN ?_ _ | refine blk_drew ?_ | refine blk_alloc ?_ _)); exact BK238.out) hb); have n3_ := Aside0.mk (blk_below (g := gb244) (o := .cells #[.int .i64 x245000_1, .int .u16 x245001_1, .int .i64 x245002_1, .int .i64 x245003_1] 25 (0, 0)) (by (with_reducible repeat (first | refine blk_drewN ?_ _ | refine blk_drew ?_ | refine blk_alloc ?_ _)); exact BK244.out) hb); have n4_ := Aside0.mk (below_step (by repeat (first | (with_reducible first | exact HB.out | apply below_alloc | apply pw_below_drewN | apply below_drew1 | refine below_set ?_ GE238.out | refine below_set ?_ GE244.out) | exact HB.out)) hb); clear HO267; clear BK238; clear BK244; clear HB; have HO267 := n0_; have HO271 := n1_; have BK238 := n2_; have BK244 := n3_; have HB := n4_; clear n0_ n1_ n2_ n3_ n4_; (try clear hb); (try clear hb2); (try clear hk); (try clear hi); (try clear ho0)))
                        have n0_ := Aside0.mk (Kd.R_drew HO267.out)
                        have n1_ := Aside0.mk (Kd.R_drew HO271.out)
                        have n2_ := Aside0.mk (blk_drew BK238.out)
                        have n3_ := Aside0.mk (blk_drew BK244.out)
                        have n4_ := Aside0.mk (below_drew1 HB.out)
                        clear HO267
                        clear HO271
                        clear BK238
                        clear BK244
                        clear HB
                        have HO267 := n0_
                        have HO271 := n1_
                        have BK238 := n2_
                        have BK244 := n3_
                        have HB := n4_
                        clear n0_ n1_ n2_ n3_ n4_
                        have p273 : 0 ≤ (x13_1 : Int) := of_decide_eq_true (by first | (with_reducible assumption) | assumption)
                        have q273 : x13_1 < (l2.length : Int) := of_decide_eq_true (by first | (with_reducible assumption) | assumption)
                        obtain ⟨ad273, e273, hx273_0⟩ := Kd.at_int HR2.out x13_1 p273 q273
                        have hw273_0 := hx273_0
                        cases e273
                        replace hx273_0 := (HB.out.cell (World.block_lt_of_cell? w _ hx273_0)).trans hx273_0
                        replace p273 := eq_true p273
                        replace q273 := eq_true q273
                        have p275 : 0 ≤ (x13_1 : Int) := of_decide_eq_true (by first | (with_reducible assumption) | assumption)
                        have q275 : x13_1 < (l2.length : Int) := of_decide_eq_true (by first | (with_reducible assumption) | assumption)
                        obtain ⟨ad275, e275, hx275_0⟩ := Kd.at_int HR2.out x13_1 p275 q275
                        have hw275_0 := hx275_0
                        obtain rfl : ad273 = ad275 := (by injection e275)
                        replace hx275_0 := (HB.out.cell (World.block_lt_of_cell? w _ hx275_0)).trans hx275_0
                        replace p275 := eq_true p275
                        replace q275 := eq_true q275
                        obtain ⟨Ao59, co59, eo59⟩ := Kd.R_slice HO267.out
                        (first | subst eo59 | (injection eo59 with f1_ f2_ f3_; have f4_ := f1_.symm; have f5_ := f3_.symm; clear f1_ f2_ f3_; subst f4_; subst f5_))
                        refine start_ (n := 14) (S := fun w' => w'.cell? (ad273.add (x13_1).toNat) = some (.int .u16 (rd l2 x13_1)) ∧ w'.cell? (ad273.add (x13_1).toNat) = some (.int .u16 (rd l2 x13_1))) (ds := []) #[false, false, false, false, false, false, false, false, false, false, false, false, false, false] (by kernel_rfl) rfl rfl ⟨((HB.out.cell (World.block_lt_of_cell? w _ hw273_0)).trans hw273_0), ((HB.out.cell (World.block_lt_of_cell? w _ hw275_0)).trans hw275_0)⟩ (fun hHeld => ?_); refine with_tabW vesperslaw18_VectorRuns.tab20 vesperslaw18_VectorRuns.bits20 (fun HT_ HW_ => ?_)
                        generalize w57.drew = w58 at HO267 HO271 BK238 BK244 HB hx273_0 hx275_0 hHeld ⊢
                        refine pure_ (i := 0) (N := some 100) (v := ?_) (a' := ?_) #[true, false, false, false, false, false, false, false, false, false, false, false, false, false] rfl rfl (any_of HT_.out (by kernel_rfl)) (fun _ _ _ h => h) (Or.inl ⟨by rfl, ?_⟩) ?_ ?_
                        rotate_left
                        · intro w'
                          go_simp
                          with_reducible rfl
                        rotate_left
                        · simp only [Act.put, List.setIfInBounds_toArray, List.set_cons_zero, List.set_cons_succ, i64_w, i32_w]
                          rfl
                        refine pure_ (i := 1) (N := some 101) (v := ?_) (a' := ?_) #[true, true, false, false, false, false, false, false, false, false, false, false, false, false] rfl rfl (any_of HT_.out (by kernel_rfl)) (fun _ _ _ h => h) (Or.inl ⟨by rfl, ?_⟩) ?_ ?_
                        rotate_left
                        · intro w'
                          go_simp
                          with_reducible rfl
                        rotate_left
                        · simp only [Act.put, List.setIfInBounds_toArray, List.set_cons_zero, List.set_cons_succ, i64_w, i32_w]
                          rfl
                        refine pure_ (i := 2) (N := some 102) (v := ?_) (a' := ?_) #[true, true, true, false, false, false, false, false, false, false, false, false, false, false] rfl rfl (any_of HT_.out (by kernel_rfl)) (fun _ _ _ h => h) (Or.inl ⟨by rfl, ?_⟩) ?_ ?_
                        rotate_left
                        · intro w'
                          go_simp
                          with_reducible rfl
                        rotate_left
                        · simp only [Act.put, List.setIfInBounds_toArray, List.set_cons_zero, List.set_cons_succ, i64_w, i32_w]
                          rfl
                        refine pure_ (i := 3) (N := some 103) (v := ?_) (a' := ?_) #[true, true, true, true, false, false, false, false, false, false, false, false, false, false] rfl rfl (any_of HT_.out (by kernel_rfl)) (fun _ _ _ h => h) (Or.inl ⟨by rfl, ?_⟩) ?_ ?_
                        rotate_left
                        · intro w'
                          go_simp
                          with_reducible rfl
                        rotate_left
                        · simp only [Act.put, List.setIfInBounds_toArray, List.set_cons_zero, List.set_cons_succ, i64_w, i32_w]
                          rfl
                        refine pure_ (i := 6) (N := some 106) (v := ?_) (a' := ?_) #[true, true, true, true, false, false, true, false, false, false, false, false, false, false] rfl rfl (any_of HT_.out (by kernel_rfl)) (fun _ _ _ h => h) (Or.inl ⟨by rfl, ?_⟩) ?_ ?_
                        rotate_left
                        · intro w'
                          go_simp
                          with_reducible rfl
                        rotate_left
                        · simp only [Act.put, List.setIfInBounds_toArray, List.set_cons_zero, List.set_cons_succ, i64_w, i32_w]
                          rfl
                        refine pure_ (i := 7) (N := some 107) (v := ?_) (a' := ?_) #[true, true, true, true, false, false, true, true, false, false, false, false, false, false] rfl rfl (any_of HT_.out (by kernel_rfl)) (fun _ _ _ h => h) (Or.inl ⟨by rfl, ?_⟩) ?_ ?_
                        rotate_left
                        · intro w'
                          go_simp
                          with_reducible rfl
                        rotate_left
                        · simp only [Act.put, List.setIfInBounds_toArray, List.set_cons_zero, List.set_cons_succ, i64_w, i32_w]
                          rfl
                        refine pure_ (i := 8) (N := some 108) (v := ?_) (a' := ?_) #[true, true, true, true, false, false, true, true, true, false, false, false, false, false] rfl rfl (any_of HT_.out (by kernel_rfl)) (fun _ _ _ h => h) (Or.inl ⟨by rfl, ?_⟩) ?_ ?_
                        rotate_left
                        · intro w'
                          go_simp
                          with_reducible rfl
                        rotate_left
                        · simp only [Act.put, List.setIfInBounds_toArray, List.set_cons_zero, List.set_cons_succ, i64_w, i32_w]
                          rfl
                        refine pure_ (i := 9) (N := some 109) (v := ?_) (a' := ?_) #[true, true, true, true, false, false, true, true, true, true, false, false, false, false] rfl rfl (any_of HT_.out (by kernel_rfl)) (fun _ _ _ h => h) (Or.inl ⟨by rfl, ?_⟩) ?_ ?_
                        rotate_left
                        · intro w'
                          go_simp
                          with_reducible rfl
                        rotate_left
                        · simp only [Act.put, List.setIfInBounds_toArray, List.set_cons_zero, List.set_cons_succ, i64_w, i32_w]
                          rfl
                        refine take_ (i := 4) (N := some 104) (v := ?_) (a' := ?_) #[true, true, true, true, true, false, true, true, true, true, false, false, false, false] rfl rfl (take_ofW HT_.out HW_.out (by kernel_rfl)) (fun _ _ _ h => h) (Or.inl ⟨by rfl, ?_⟩) hHeld ?_ ?_
                        rotate_left
                        · rintro w' ⟨s0, s1⟩
                          go_simp
                          with_reducible rfl
                        rotate_left
                        · simp only [Act.put, List.setIfInBounds_toArray, List.set_cons_zero, List.set_cons_succ, i64_w, i32_w]
                          rfl
                        refine take_ (i := 10) (N := some 110) (v := ?_) (a' := ?_) #[true, true, true, true, true, false, true, true, true, true, true, false, false, false] rfl rfl (take_ofW HT_.out HW_.out (by kernel_rfl)) (fun _ _ _ h => h) (Or.inl ⟨by rfl, ?_⟩) hHeld ?_ ?_
                        rotate_left
                        · rintro w' ⟨s0, s1⟩
                          go_simp
                          with_reducible rfl
                        rotate_left
                        · simp only [Act.put, List.setIfInBounds_toArray, List.set_cons_zero, List.set_cons_succ, i64_w, i32_w]
                          rfl
                        refine one_ (i := 5) (N := some 105) #[true, true, true, true, true, true, true, true, true, true, true, false, false, false] rfl rfl (one_of HT_.out (by kernel_rfl)) (by decide) (fun K hK => ?_)
                        refine goes_ Try.func12 (by kernel_rfl) rfl #[.slice Ao59 t265.length co59, .int .u16 (rd l2 x13_1)] (by rfl) rfl rfl (by (try simp only [List.map_toArray, List.map_cons, List.map_nil]); first | done | rfl | (simp only [List.length_drop, List.length_take]; rfl)) ?_
                        with_reducible refine (vector_Result.calls _ _ t265 (rd l2 x13_1) t274 _ ?side1 ?side2 A50.out).mono ?_
                        (case side1 => repeat (first | exact (Kd.R_reads' HO267.out).2.2 | (with_reducible refine Kd.C_alloc ?_ _) | (with_reducible refine Kd.C_drewN ?_ _) | (with_reducible refine Kd.C_drew ?_)))
                        (case side2 => exact (Kd.R_reads' HO267.out).2.1)
                        rintro e w60 ⟨rfl, hb⟩
                        refine ⟨_, rfl, ?_⟩
                        have n0_ := Aside0.mk (Kd.R_below (by (with_reducible repeat (first | apply Kd.R_alloc | apply Kd.R_drewN | apply Kd.R_drew)); exact HO267.out) hb)
                        have n1_ := Aside0.mk (Kd.R_below (by (with_reducible repeat (first | apply Kd.R_alloc | apply Kd.R_drewN | apply Kd.R_drew)); exact HO271.out) hb)
                        have n2_ := Aside0.mk (blk_below (g := gb238) (o := .cells #[.int .i64 x239000_1, .int .u16 x239001_1, .int .i64 x239002_1, .int .i64 x239003_1] 25 (0, 0)) (by (with_reducible repeat (first | refine blk_drewN ?_ _ | refine blk_drew ?_ | refine blk_alloc ?_ _)); exact BK238.out) hb)
                        have n3_ := Aside0.mk (blk_below (g := gb244) (o := .cells #[.int .i64 x245000_1, .int .u16 x245001_1, .int .i64 x245002_1, .int .i64 x245003_1] 25 (0, 0)) (by (with_reducible repeat (first | refine blk_drewN ?_ _ | refine blk_drew ?_ | refine blk_alloc ?_ _)); exact BK244.out) hb)
                        have n4_ := Aside0.mk (below_step (by repeat (first | (with_reducible first | exact HB.out | apply below_alloc | apply pw_below_drewN | apply below_drew1 | refine below_set ?_ GE238.out | refine below_set ?_ GE244.out) | exact HB.out)) hb)
                        clear HO267
                        clear HO271
                        clear BK238
                        clear BK244
                        clear HB
                        have HO267 := n0_
                        have HO271 := n1_
                        have BK238 := n2_
                        have BK244 := n3_
                        have HB := n4_
                        clear n0_ n1_ n2_ n3_ n4_
                        (try clear hb)
                        (try clear hb2)
                        (try clear hk)
                        (try clear hi)
                        obtain ⟨Ao61, co61, eo61⟩ := Kd.R_slice HO271.out
                        (first | subst eo61 | (injection eo61 with f1_ f2_ f3_; have f4_ := f1_.symm; have f5_ := f3_.symm; clear f1_ f2_ f3_; subst f4_; subst f5_))
                        refine hK.out _ _ ⟨((HB.out.cell (World.block_lt_of_cell? w _ hw273_0)).trans hw273_0), ((HB.out.cell (World.block_lt_of_cell? w _ hw275_0)).trans hw275_0)⟩ (fun hHeld => ?_)
                        clear hK K
                        refine norm_ (a' := ?_) ?_ ?_
                        rotate_left
                        · show Act.put _ (some 105) _ = _
                          simp only [Act.put, List.setIfInBounds_toArray, List.set_cons_zero, List.set_cons_succ, i64_w, i32_w]
                          rfl
                        refine one_ (i := 11) (N := some 111) #[true, true, true, true, true, true, true, true, true, true, true, true, false, false] rfl rfl (one_of HT_.out (by kernel_rfl)) (by decide) (fun K hK => ?_)
                        refine goes_ Try.func13 (by kernel_rfl) rfl #[.slice Ao61 t269.length co61, .int .u16 (rd l2 x13_1)] (by rfl) rfl rfl (by (try simp only [List.map_toArray, List.map_cons, List.map_nil]); first | done | rfl | (simp only [List.length_drop, List.length_take]; rfl)) ?_
                        with_reducible refine (vespersref18_Result.calls kj15 _ _ t269 (rd l2 x13_1) t276 _ ?side1 ?side2 A51.out).mono ?_
                        (case side1 => repeat (first | exact (Kd.R_reads' HO271.out).2.2 | (with_reducible refine Kd.C_alloc ?_ _) | (with_reducible refine Kd.C_drewN ?_ _) | (with_reducible refine Kd.C_drew ?_)))
                        (case side2 => exact (Kd.R_reads' HO271.out).2.1)
                        rintro e w' ⟨rfl, ⟨nd, rfl⟩⟩
                        refine ⟨_, rfl, ?_⟩
                        refine hK.out _ _ ⟨((HB.out.cell (World.block_lt_of_cell? w _ hw273_0)).trans hw273_0), ((HB.out.cell (World.block_lt_of_cell? w _ hw275_0)).trans hw275_0)⟩ (fun hHeld => ?_)
                        clear hK K
                        refine norm_ (a' := ?_) ?_ ?_
                        rotate_left
                        · show Act.put _ (some 111) _ = _
                          simp only [Act.put, List.setIfInBounds_toArray, List.set_cons_zero, List.set_cons_succ, i64_w, i32_w]
                          rfl
                        refine pure_ (i := 12) (N := some 20) (v := ?_) (a' := ?_) #[true, true, true, true, true, true, true, true, true, true, true, true, true, false] rfl rfl (any_of HT_.out (by kernel_rfl)) (fun _ _ _ h => h) (Or.inl ⟨by rfl, ?_⟩) ?_ ?_
                        rotate_left
                        · intro w'
                          go_simp
                          with_reducible rfl
                        rotate_left
                        · simp only [Act.put, List.setIfInBounds_toArray, List.set_cons_zero, List.set_cons_succ, i64_w, i32_w]
                          rfl
                        refine pure_ (i := 13) (N := some 21) (v := ?_) (a' := ?_) #[true, true, true, true, true, true, true, true, true, true, true, true, true, true] rfl rfl (any_of HT_.out (by kernel_rfl)) (fun _ _ _ h => h) (Or.inl ⟨by rfl, ?_⟩) ?_ ?_
                        rotate_left
                        · intro w'
                          go_simp
                          with_reducible rfl
                        rotate_left
                        · simp only [Act.put, List.setIfInBounds_toArray, List.set_cons_zero, List.set_cons_succ, i64_w, i32_w]
                          rfl
                        refine done_ (done_of HT_.out (by kernel_rfl)) ?_
                        go_upto_if 112 with (fail)
                        go_cut [15, 20, 21] (fun v15_ v20 v21 wc => ∃ (kq : Nat) (x20_51 : Int) (x21_51 : Int), v20 = .int .i64 x20_51 ∧ v21 = .int .i64 x21_51 ∧ Aside0 (vesperslaw18_VectorRuns.j2 kq a0 l2 a3 t243 x13_1 (Int.tmod x13_1 5) x20_51 x21_51 x239000_1 x239001_1 x239002_1 x239003_1 x245000_1 x245001_1 x245002_1 x245003_1 = some r) ∧ Aside0 (kq ≤ kj15) ∧ Aside0 (wc.heap[gb238]? = some (.cells #[.int .i64 x239000_1, .int .u16 x239001_1, .int .i64 x239002_1, .int .i64 x239003_1] 25 (0, 0))) ∧ Aside0 (wc.heap[gb244]? = some (.cells #[.int .i64 x245000_1, .int .u16 x245001_1, .int .i64 x245002_1, .int .i64 x245003_1] 25 (0, 0))) ∧ Aside0 (Below w.heap.size w wc))
                        case first =>
                          have H := HC52.out
                          clear HC52
                          by_cases c62 : (Go.bits .and .u64 (ji21) 1) = 1
                          · rw [if_pos c62] at H
                            have c62b0 : ((Go.bits .and .u64 (ji21) 1) == 1) = true := beq_iff_eq.mpr c62
                            have c62b1 : ((Go.bits .and .u64 (ji21) 1) != 1) = false := bne_eq_false_iff_eq.mpr c62
                            clear c62
                            (first | rw [c62b0] | (simp only [i64_w, i32_w]; rw [c62b0]) | skip)
                            have H' := Aside0.mk H
                            clear H
                            go_wp2
                            go_meet
                            case rel => exact ⟨_, (0), (0), (by first | rfl | (simp; done) | (simp [*]; done)), (by first | rfl | (simp; done) | (simp [*]; done)), H', ⟨by have := HK1.out; have := HJ15.out; first | omega | exact Nat.le_refl _⟩, ⟨by (with_reducible repeat (first | refine blk_drewN ?_ _ | refine blk_drew ?_ | refine blk_alloc ?_ _)); exact BK238.out⟩, ⟨by (with_reducible repeat (first | refine blk_drewN ?_ _ | refine blk_drew ?_ | refine blk_alloc ?_ _)); exact BK244.out⟩, ⟨by repeat (first | (with_reducible first | exact HB.out | apply below_alloc | apply pw_below_drewN | apply below_drew1 | refine below_set ?_ GE238.out | refine below_set ?_ GE244.out) | exact HB.out)⟩⟩
                          · rw [if_neg c62] at H
                            have c62b0 : ((Go.bits .and .u64 (ji21) 1) == 1) = false := beq_eq_false_iff_ne.mpr c62
                            have c62b1 : ((Go.bits .and .u64 (ji21) 1) != 1) = true := bne_iff_ne.mpr c62
                            (first | rw [c62b0] | (simp only [i64_w, i32_w]; rw [c62b0]) | skip)
                            have H' := Aside0.mk H
                            clear H
                            go_wp2
                            go_meet
                            case rel => exact ⟨_, (t274), (t276), (by first | rfl | (simp; done) | (simp [*]; done)), (by first | rfl | (simp; done) | (simp [*]; done)), H', ⟨by have := HK1.out; have := HJ15.out; first | omega | exact Nat.le_refl _⟩, ⟨by (with_reducible repeat (first | refine blk_drewN ?_ _ | refine blk_drew ?_ | refine blk_alloc ?_ _)); exact BK238.out⟩, ⟨by (with_reducible repeat (first | refine blk_drewN ?_ _ | refine blk_drew ?_ | refine blk_alloc ?_ _)); exact BK244.out⟩, ⟨by repeat (first | (with_reducible first | exact HB.out | apply below_alloc | apply pw_below_drewN | apply below_drew1 | refine below_set ?_ GE238.out | refine below_set ?_ GE244.out) | exact HB.out)⟩⟩
                        case rest =>
                          clear HC52
                          try clear c1
                          try clear c2
                          try clear p2
                          try clear q2
                          try clear hx2
                          try clear c3
                          try clear c4
                          try clear c5
                          try clear c5b0
                          try clear c5b1
                          try clear c6
                          try clear p6
                          try clear c8
                          try clear c8b0
                          try clear c8b1
                          try clear c9
                          try clear c12
                          try clear c13
                          try clear c14
                          try clear c16
                          try clear c17
                          try clear c17b0
                          try clear c18
                          try clear c19
                          try clear c20
                          try clear c20b0
                          try clear c20b1
                          try clear c21
                          try clear c22
                          try clear c22b0
                          try clear c22b1
                          try clear c23
                          try clear c23b0
                          try clear c23b1
                          try clear c26
                          try clear c26b0
                          try clear c27
                          try clear p27
                          try clear q27
                          try clear hx27
                          try clear c37
                          try clear c37b0
                          try clear c38
                          try clear c48
                          try clear c48b0
                          try clear c49
                          try clear c49b0
                          try clear c53
                          try clear c62
                          try clear c62b0
                          try clear c62b1
                          try clear hcz11_0
                          try clear hcz11_1
                          try clear hcz11_2
                          try clear hcz11_3
                          try clear hcz15_0
                          try clear hcz15_1
                          try clear hcz15_2
                          try clear hcz15_3
                          try clear hcz28_0
                          try clear hcz28_1
                          try clear hcz28_2
                          try clear hcz28_3
                          try clear hcz30_0
                          try clear hcz30_1
                          try clear hcz30_2
                          try clear hcz30_3
                          try clear hcz31_0
                          try clear hcz31_1
                          try clear hcz31_2
                          try clear hcz31_3
                          try clear hcz33_0
                          try clear hcz33_1
                          try clear hcz33_2
                          try clear hcz33_3
                          try clear hcz34_0
                          try clear hcz34_1
                          try clear hcz34_2
                          try clear hcz34_3
                          try clear hcz39_0
                          try clear hcz39_1
                          try clear hcz39_2
                          try clear hcz39_3
                          try clear hcz41_0
                          try clear hcz41_1
                          try clear hcz41_2
                          try clear hcz41_3
                          try clear hcz42_0
                          try clear hcz42_1
                          try clear hcz42_2
                          try clear hcz42_3
                          try clear hcz44_0
                          try clear hcz44_1
                          try clear hcz44_2
                          try clear hcz44_3
                          try clear hcz45_0
                          try clear hcz45_1
                          try clear hcz45_2
                          try clear hcz45_3
                          try clear hcz54_0
                          try clear hcz54_1
                          try clear hcz54_2
                          try clear hcz54_3
                          try clear hcz56_0
                          try clear hcz56_1
                          try clear hcz56_2
                          try clear hcz56_3
                          try clear hfz11_0
                          try clear hfz11_1
                          try clear hfz11_2
                          try clear hfz11_3
                          try clear hfz15_0
                          try clear hfz15_1
                          try clear hfz15_2
                          try clear hfz15_3
                          try clear hfz28_0
                          try clear hfz28_1
                          try clear hfz28_2
                          try clear hfz28_3
                          try clear hfz30_0
                          try clear hfz30_1
                          try clear hfz30_2
                          try clear hfz30_3
                          try clear hfz31_0
                          try clear hfz31_1
                          try clear hfz31_2
                          try clear hfz31_3
                          try clear hfz33_0
                          try clear hfz33_1
                          try clear hfz33_2
                          try clear hfz33_3
                          try clear hfz34_0
                          try clear hfz34_1
                          try clear hfz34_2
                          try clear hfz34_3
                          try clear hfz39_0
                          try clear hfz39_1
                          try clear hfz39_2
                          try clear hfz39_3
                          try clear hfz41_0
                          try clear hfz41_1
                          try clear hfz41_2
                          try clear hfz41_3
                          try clear hfz42_0
                          try clear hfz42_1
                          try clear hfz42_2
                          try clear hfz42_3
                          try clear hfz44_0
                          try clear hfz44_1
                          try clear hfz44_2
                          try clear hfz44_3
                          try clear hfz45_0
                          try clear hfz45_1
                          try clear hfz45_2
                          try clear hfz45_3
                          try clear hfz54_0
                          try clear hfz54_1
                          try clear hfz54_2
                          try clear hfz54_3
                          try clear hfz56_0
                          try clear hfz56_1
                          try clear hfz56_2
                          try clear hfz56_3
                          try clear hx273_0
                          try clear hx275_0
                          try clear p2
                          try clear p273
                          try clear p275
                          try clear q273
                          try clear q275
                          obtain ⟨kq, x20_51, x21_51, rfl, rfl, HA, HJ51, BK238, BK244, HB⟩ := hcut
                          cases kq with
                          | zero => exact absurd HA.out (by simp [vesperslaw18_VectorRuns.j2])
                          | succ kj51 =>
                            have H := HA.out
                            clear HA
                            simp only [vesperslaw18_VectorRuns.j2] at H
                            replace H := Option.bind_eq_some_iff.mp H
                            obtain ⟨⟨t277, t278, t279, t280, t281, t282⟩, A630, H⟩ := H
                            replace H : ((vespersref18_Step.f kj51 x245000_1 x245001_1 x245002_1 x245003_1 (Int.tmod x13_1 5) x21_51).bind fun bt284 => (if t281 = bt284.2.2.2.2.1 then (vesperslaw18_VectorRuns.j3 kj51 a0 l2 a3 t243 x13_1 (t282 != bt284.2.2.2.2.2) t277 t278 t279 t280 bt284.1 bt284.2.1 bt284.2.2.1 bt284.2.2.2.1) else (vesperslaw18_VectorRuns.j3 kj51 a0 l2 a3 t243 x13_1 true t277 t278 t279 t280 bt284.1 bt284.2.1 bt284.2.2.1 bt284.2.2.2.1))) = some r := H
                            have A63 := Aside0.mk A630
                            clear A630
                            replace H := Option.bind_eq_some_iff.mp H
                            obtain ⟨⟨t284, t285, t286, t287, t288, t289⟩, A640, H⟩ := H
                            replace H : (if t281 = t288 then (vesperslaw18_VectorRuns.j3 kj51 a0 l2 a3 t243 x13_1 (t282 != t289) t277 t278 t279 t280 t284 t285 t286 t287) else (vesperslaw18_VectorRuns.j3 kj51 a0 l2 a3 t243 x13_1 true t277 t278 t279 t280 t284 t285 t286 t287)) = some r := H
                            have A64 := Aside0.mk A640
                            clear A640
                            have HC65 := Aside0.mk H
                            clear H
                            have hnb66 := NB238_244.out
                            have hnc66 := NB244_238.out
                            have hcz67_0 : wc.cell? ⟨gb238, 0, none⟩ = some (.int .i64 x239000_1) := (blk_cell BK238.out 0).trans rfl
                            have hcz67_1 : wc.cell? ⟨gb238, 1, none⟩ = some (.int .u16 x239001_1) := (blk_cell BK238.out 1).trans rfl
                            have hcz67_2 : wc.cell? ⟨gb238, 2, none⟩ = some (.int .i64 x239002_1) := (blk_cell BK238.out 2).trans rfl
                            have hcz67_3 : wc.cell? ⟨gb238, 3, none⟩ = some (.int .i64 x239003_1) := (blk_cell BK238.out 3).trans rfl
                            have hfz67_0 := blk_frozen BK238.out 0
                            have hfz67_1 := blk_frozen BK238.out 1
                            have hfz67_2 := blk_frozen BK238.out 2
                            have hfz67_3 := blk_frozen BK238.out 3
                            go_upto_region 25 with (first | ((with_reducible refine gate_callee (f := 14) rfl ?_); refine goesL_ (some 117) rfl rfl Try.func14 (by kernel_rfl) rfl #[.agg #[.int .i64 x239000_1, .int .u16 x239001_1, .int .i64 x239002_1, .int .i64 x239003_1], .int .i64 (Int.tmod x13_1 5), .int .i64 x20_51] rfl (by (try simp only [List.map_toArray, List.map_cons, List.map_nil]); first | done | rfl | (simp only [List.length_drop, List.length_take]; rfl)) ?_; (with_reducible refine (vector_Step.calls x239000_1 x239001_1 x239002_1 x239003_1 (Int.tmod x13_1 5) x20_51 t277 t278 t279 t280 t281 t282 _ A63.out).mono ?_); rintro e w68 ⟨rfl, hb⟩; refine ⟨_, rfl, ?_⟩; have n0_ := Aside0.mk (blk_below (g := gb238) (o := .cells #[.int .i64 x239000_1, .int .u16 x239001_1, .int .i64 x239002_1, .int .i64 x239003_1] 25 (0, 0)) (by (with_reducible repeat (first | refine blk_drewN ?_ _ | refine blk_drew ?_ | refine blk_alloc ?_ _)); exact BK238.out) hb); have n1_ := Aside0.mk (blk_below (g := gb244) (o := .cells #[.int .i64 x245000_1, .int .u16 x245001_1, .int .i64 x245002_1, .int .i64 x245003_1] 25 (0, 0)) (by (with_reducible repeat (first | refine blk_drewN ?_ _ | refine blk_drew ?_ | refine blk_alloc ?_ _)); exact BK244.out) hb); have n2_ := Aside0.mk (below_step (by repeat (first | (with_reducible first | exact HB.out | apply below_alloc | apply pw_below_drewN | apply below_drew1 | refine below_set ?_ GE238.out | refine below_set ?_ GE244.out) | exact HB.out)) hb); clear BK238; clear BK244; clear HB; have BK238 := n0_; have BK244 := n1_; have HB := n2_; clear n0_ n1_ n2_; (try clear hb); (try clear hb2); (try clear hk); (try clear hi)) | ((with_reducible refine gate_dst (N := 22) rfl ?_); refine box_event ?hg (N := 22) ?hd (cs := #[.int .i64 0, .int .u16 0, .int .i64 0, .int .i64 0]) (t := 25) ?hr ?_; (case hd => rfl); (case hg => rfl); (case hr => first | (go_simp; done) | (go_simp; rfl)); intro gb283 hg w69 hbox hb; have n0_ := Aside0.mk (blk_below (g := gb238) (o := .cells #[.int .i64 x239000_1, .int .u16 x239001_1, .int .i64 x239002_1, .int .i64 x239003_1] 25 (0, 0)) (by (with_reducible repeat (first | refine blk_drewN ?_ _ | refine blk_drew ?_ | refine blk_alloc ?_ _)); exact BK238.out) hb); have n1_ := Aside0.mk (blk_below (g := gb244) (o := .cells #[.int .i64 x245000_1, .int .u16 x245001_1, .int .i64 x245002_1, .int .i64 x245003_1] 25 (0, 0)) (by (with_reducible repeat (first | refine blk_drewN ?_ _ | refine blk_drew ?_ | refine blk_alloc ?_ _)); exact BK244.out) hb); have n2_ := Aside0.mk (below_step (by repeat (first | (with_reducible first | exact HB.out | apply below_alloc | apply pw_below_drewN | apply below_drew1 | refine below_set ?_ GE238.out | refine below_set ?_ GE244.out) | exact HB.out)) hb); have n3_ := Aside0.mk (hbox); have n4_ := Aside0.mk ((by rw [hg]; exact (below_size (by repeat (first | (with_reducible first | exact HB.out | apply below_alloc | apply pw_below_drewN | apply below_drew1 | refine below_set ?_ GE238.out | refine below_set ?_ GE244.out) | exact HB.out))) : w.heap.size ≤ gb283)); have n5_ := Aside0.mk ((by rw [hg]; exact (below_size (by repeat (first | (with_reducible first | exact HB.out | apply below_alloc | apply pw_below_drewN | apply below_drew1 | refine below_set ?_ GE238.out | refine below_set ?_ GE244.out) | exact HB.out))) : w.heap.size ≤ gb283)); have n6_ := Aside0.mk ((by rw [hg]; exact Nat.ne_of_lt (blk_lt (g := gb238) (o := .cells #[.int .i64 x239000_1, .int .u16 x239001_1, .int .i64 x239002_1, .int .i64 x239003_1] 25 (0, 0)) (by (with_reducible repeat (first | refine blk_drewN ?_ _ | refine blk_drew ?_ | refine blk_alloc ?_ _)); exact BK238.out)) : gb238 ≠ gb283)); have n7_ := Aside0.mk ((by rw [hg]; exact Nat.ne_of_gt (blk_lt (g := gb238) (o := .cells #[.int .i64 x239000_1, .int .u16 x239001_1, .int .i64 x239002_1, .int .i64 x239003_1] 25 (0, 0)) (by (with_reducible repeat (first | refine blk_drewN ?_ _ | refine blk_drew ?_ | refine blk_alloc ?_ _)); exact BK238.out)) : gb283 ≠ gb238)); have n8_ := Aside0.mk ((by rw [hg]; exact Nat.ne_of_lt (blk_lt (g := gb244) (o := .cells #[.int .i64 x245000_1, .int .u16 x245001_1, .int .i64 x245002_1, .int .i64 x245003_1] 25 (0, 0)) (by (with_reducible repeat (first | refine blk_drewN ?_ _ | refine blk_drew ?_ | refine blk_alloc ?_ _)); exact BK244.out)) : gb244 ≠ gb283)); have n9_ := Aside0.mk ((by rw [hg]; exact Nat.ne_of_gt (blk_lt (g := gb244) (o := .cells #[.int .i64 x245000_1, .int .u16 x245001_1, .int .i64 x245002_1, .int .i64 x245003_1] 25 (0, 0)) (by (with_reducible repeat (first | refine blk_drewN ?_ _ | refine blk_drew ?_ | refine blk_alloc ?_ _)); exact BK244.out)) : gb283 ≠ gb244)); clear BK238; clear BK244; clear HB; have BK238 := n0_; have BK244 := n1_; have HB := n2_; have BK283 := n3_; have GW283 := n4_; have GE283 := n5_; have NB238_283 := n6_; have NB283_238 := n7_; have NB244_283 := n8_; have NB283_244 := n9_; clear n0_ n1_ n2_ n3_ n4_ n5_ n6_ n7_ n8_ n9_; clear hb hbox hg; have hnb70 := NB283_238.out; have hnc70 := NB238_283.out; have hnb71 := NB283_244.out; have hnc71 := NB244_283.out; have hcz72_0 : w69.cell? ⟨gb283, 0, none⟩ = some (.int .i64 0) := (blk_cell BK283.out 0).trans rfl; have hcz72_1 : w69.cell? ⟨gb283, 1, none⟩ = some (.int .u16 0) := (blk_cell BK283.out 1).trans rfl; have hcz72_2 : w69.cell? ⟨gb283, 2, none⟩ = some (.int .i64 0) := (blk_cell BK283.out 2).trans rfl; have hcz72_3 : w69.cell? ⟨gb283, 3, none⟩ = some (.int .i64 0) := (blk_cell BK283.out 3).trans rfl; have hfz72_0 := blk_frozen BK283.out 0; have hfz72_1 := blk_frozen BK283.out 1; have hfz72_2 := blk_frozen BK283.out 2; have hfz72_3 := blk_frozen BK283.out 3; have hcz73_0 : w69.cell? ⟨gb244, 0, none⟩ = some (.int .i64 x245000_1) := (blk_cell BK244.out 0).trans rfl; have hcz73_1 : w69.cell? ⟨gb244, 1, none⟩ = some (.int .u16 x245001_1) := (blk_cell BK244.out 1).trans rfl; have hcz73_2 : w69.cell? ⟨gb244, 2, none⟩ = some (.int .i64 x245002_1) := (blk_cell BK244.out 2).trans rfl; have hcz73_3 : w69.cell? ⟨gb244, 3, none⟩ = some (.int .i64 x245003_1) := (blk_cell BK244.out 3).trans rfl; have hfz73_0 := blk_frozen BK244.out 0; have hfz73_1 := blk_frozen BK244.out 1; have hfz73_2 := blk_frozen BK244.out 2; have hfz73_3 := blk_frozen BK244.out 3) | ((with_reducible refine gate_callee (f := 15) rfl ?_); refine goesL_ (some 125) rfl rfl Try.func15 (by kernel_rfl) rfl #[.agg #[.int .i64 x245000_1, .int .u16 x245001_1, .int .i64 x245002_1, .int .i64 x245003_1], .int .i64 (Int.tmod x13_1 5), .int .i64 x21_51] rfl (by (try simp only [List.map_toArray, List.map_cons, List.map_nil]); first | done | rfl | (simp only [List.length_drop, List.length_take]; rfl)) ?_; (with_reducible refine (vespersref18_Step.calls kj51 x245000_1 x245001_1 x245002_1 x245003_1 (Int.tmod x13_1 5) x21_51 t284 t285 t286 t287 t288 t289 _ A64.out).mono ?_); rintro e w74 ⟨rfl, hb⟩; refine ⟨_, rfl, ?_⟩; have n0_ := Aside0.mk (blk_below (g := gb238) (o := .cells #[.int .i64 x239000_1, .int .u16 x239001_1, .int .i64 x239002_1, .int .i64 x239003_1] 25 (0, 0)) (by (with_reducible repeat (first | refine blk_drewN ?_ _ | refine blk_drew ?_ | refine blk_alloc ?_ _)); refine blk_far ?_ NB238_283.out _; (with_reducible repeat (first | refine blk_drewN ?_ _ | refine blk_drew ?_ | refine blk_alloc ?_ _)); refine blk_far ?_ NB238_283.out _; (with_reducible repeat (first | refine blk_drewN ?_ _ | refine blk_drew ?_ | refine blk_alloc ?_ _)); refine blk_far ?_ NB238_283.out _; (with_reducible repeat (first | refine blk_drewN ?_ _ | refine blk_drew ?_ | refine blk_alloc ?_ _)); refine blk_far ?_ NB238_283.out _; (with_reducible repeat (first | refine blk_drewN ?_ _ | refine blk_drew ?_ | refine blk_alloc ?_ _)); exact BK238.out) hb); have n1_ := Aside0.mk (blk_below (g := gb244) (o := .cells #[.int .i64 x245000_1, .int .u16 x245001_1, .int .i64 x245002_1, .int .i64 x245003_1] 25 (0, 0)) (by (with_reducible repeat (first | refine blk_drewN ?_ _ | refine blk_drew ?_ | refine blk_alloc ?_ _)); refine blk_far ?_ NB244_283.out _; (with_reducible repeat (first | refine blk_drewN ?_ _ | refine blk_drew ?_ | refine blk_alloc ?_ _)); refine blk_far ?_ NB244_283.out _; (with_reducible repeat (first | refine blk_drewN ?_ _ | refine blk_drew ?_ | refine blk_alloc ?_ _)); refine blk_far ?_ NB244_283.out _; (with_reducible repeat (first | refine blk_drewN ?_ _ | refine blk_drew ?_ | refine blk_alloc ?_ _)); refine blk_far ?_ NB244_283.out _; (with_reducible repeat (first | refine blk_drewN ?_ _ | refine blk_drew ?_ | refine blk_alloc ?_ _)); exact BK244.out) hb); have n2_ := Aside0.mk (blk_below (g := gb283) (o := .cells #[.int .i64 t277, .int .u16 t278, .int .i64 t279, .int .i64 t280] 25 (0, 0)) (by (with_reducible repeat (first | refine blk_drewN ?_ _ | refine blk_drew ?_ | refine blk_alloc ?_ _)); refine blk_put (cs := #[.int .i64 t277, .int .u16 t278, .int .i64 t279, .int .i64 0]) ?_ 3 _ rfl; (with_reducible repeat (first | refine blk_drewN ?_ _ | refine blk_drew ?_ | refine blk_alloc ?_ _)); refine blk_put (cs := #[.int .i64 t277, .int .u16 t278, .int .i64 0, .int .i64 0]) ?_ 2 _ rfl; (with_reducible repeat (first | refine blk_drewN ?_ _ | refine blk_drew ?_ | refine blk_alloc ?_ _)); refine blk_put (cs := #[.int .i64 t277, .int .u16 0, .int .i64 0, .int .i64 0]) ?_ 1 _ rfl; (with_reducible repeat (first | refine blk_drewN ?_ _ | refine blk_drew ?_ | refine blk_alloc ?_ _)); refine blk_put (cs := #[.int .i64 0, .int .u16 0, .int .i64 0, .int .i64 0]) ?_ 0 _ rfl; (with_reducible repeat (first | refine blk_drewN ?_ _ | refine blk_drew ?_ | refine blk_alloc ?_ _)); exact BK283.out) hb); have n3_ := Aside0.mk (below_step (by repeat (first | (with_reducible first | exact HB.out | apply below_alloc | apply pw_below_drewN | apply below_drew1 | refine below_set ?_ GE238.out | refine below_set ?_ GE244.out | refine below_set ?_ GE283.out) | exact HB.out)) hb); clear BK238; clear BK244; clear BK283; clear HB; have BK238 := n0_; have BK244 := n1_; have BK283 := n2_; have HB := n3_; clear n0_ n1_ n2_ n3_; (try clear hb); (try clear hb2); (try clear hk); (try clear hi)) | ((with_reducible refine gate_dst (N := 25) rfl ?_); refine box_event ?hg (N := 25) ?hd (cs := #[.int .i64 0, .int .u16 0, .int .i64 0, .int .i64 0]) (t := 25) ?hr ?_; (case hd => rfl); (case hg => rfl); (case hr => first | (go_simp; done) | (go_simp; rfl)); intro gb290 hg w75 hbox hb; have n0_ := Aside0.mk (blk_below (g := gb238) (o := .cells #[.int .i64 x239000_1, .int .u16 x239001_1, .int .i64 x239002_1, .int .i64 x239003_1] 25 (0, 0)) (by (with_reducible repeat (first | refine blk_drewN ?_ _ | refine blk_drew ?_ | refine blk_alloc ?_ _)); exact BK238.out) hb); have n1_ := Aside0.mk (blk_below (g := gb244) (o := .cells #[.int .i64 x245000_1, .int .u16 x245001_1, .int .i64 x245002_1, .int .i64 x245003_1] 25 (0, 0)) (by (with_reducible repeat (first | refine blk_drewN ?_ _ | refine blk_drew ?_ | refine blk_alloc ?_ _)); exact BK244.out) hb); have n2_ := Aside0.mk (blk_below (g := gb283) (o := .cells #[.int .i64 t277, .int .u16 t278, .int .i64 t279, .int .i64 t280] 25 (0, 0)) (by (with_reducible repeat (first | refine blk_drewN ?_ _ | refine blk_drew ?_ | refine blk_alloc ?_ _)); exact BK283.out) hb); have n3_ := Aside0.mk (below_step (by repeat (first | (with_reducible first | exact HB.out | apply below_alloc | apply pw_below_drewN | apply below_drew1 | refine below_set ?_ GE238.out | refine below_set ?_ GE244.out | refine below_set ?_ GE283.out) | exact HB.out)) hb); have n4_ := Aside0.mk (hbox); have n5_ := Aside0.mk ((by rw [hg]; exact (below_size (by repeat (first | (with_reducible first | exact HB.out | apply below_alloc | apply pw_below_drewN | apply below_drew1 | refine below_set ?_ GE238.out | refine below_set ?_ GE244.out | refine below_set ?_ GE283.out) | exact HB.out))) : w.heap.size ≤ gb290)); have n6_ := Aside0.mk ((by rw [hg]; exact (below_size (by repeat (first | (with_reducible first | exact HB.out | apply below_alloc | apply pw_below_drewN | apply below_drew1 | refine below_set ?_ GE238.out | refine below_set ?_ GE244.out | refine below_set ?_ GE283.out) | exact HB.out))) : w.heap.size ≤ gb290)); have n7_ := Aside0.mk ((by rw [hg]; exact Nat.ne_of_lt (blk_lt (g := gb238) (o := .cells #[.int .i64 x239000_1, .int .u16 x239001_1, .int .i64 x239002_1, .int .i64 x239003_1] 25 (0, 0)) (by (with_reducible repeat (first | refine blk_drewN ?_ _ | refine blk_drew ?_ | refine blk_alloc ?_ _)); exact BK238.out)) : gb238 ≠ gb290)); have n8_ := Aside0.mk ((by rw [hg]; exact Nat.ne_of_gt (blk_lt (g := gb238) (o := .cells #[.int .i64 x239000_1, .int .u16 x239001_1, .int .i64 x239002_1, .int .i64 x239003_1] 25 (0, 0)) (by (with_reducible repeat (first | refine blk_drewN ?_ _ | refine blk_drew ?_ | refine blk_alloc ?_ _)); exact BK238.out)) : gb290 ≠ gb238)); have n9_ := Aside0.mk ((by rw [hg]; exact Nat.ne_of_lt (blk_lt (g := gb244) (o := .cells #[.int .i64 x245000_1, .int .u16 x245001_1, .int .i64 x245002_1, .int .i64 x245003_1] 25 (0, 0)) (by (with_reducible repeat (first | refine blk_drewN ?_ _ | refine blk_drew ?_ | refine blk_alloc ?_ _)); exact BK244.out)) : gb244 ≠ gb290)); have n10_ := Aside0.mk ((by rw [hg]; exact Nat.ne_of_gt (blk_lt (g := gb244) (o := .cells #[.int .i64 x245000_1, .int .u16 x245001_1, .int .i64 x245002_1, .int .i64 x245003_1] 25 (0, 0)) (by (with_reducible repeat (first | refine blk_drewN ?_ _ | refine blk_drew ?_ | refine blk_alloc ?_ _)); exact BK244.out)) : gb290 ≠ gb244)); have n11_ := Aside0.mk ((by rw [hg]; exact Nat.ne_of_lt (blk_lt (g := gb283) (o := .cells #[.int .i64 t277, .int .u16 t278, .int .i64 t279, .int .i64 t280] 25 (0, 0)) (by (with_reducible repeat (first | refine blk_drewN ?_ _ | refine blk_drew ?_ | refine blk_alloc ?_ _)); exact BK283.out)) : gb283 ≠ gb290)); have n12_ := Aside0.mk ((by rw [hg]; exact Nat.ne_of_gt (blk_lt (g := gb283) (o := .cells #[.int .i64 t277, .int .u16 t278, .int .i64 t279, .int .i64 t280] 25 (0, 0)) (by (with_reducible repeat (first | refine blk_drewN ?_ _ | refine blk_drew ?_ | refine blk_alloc ?_ _)); exact BK283.out)) : gb290 ≠ gb283)); clear BK238; clear BK244; clear BK283; clear HB; have BK238 := n0_; have BK244 := n1_; have BK283 := n2_; have HB := n3_; have BK290 := n4_; have GW290 := n5_; have GE290 := n6_; have NB238_290 := n7_; have NB290_238 := n8_; have NB244_290 := n9_; have NB290_244 := n10_; have NB283_290 := n11_; have NB290_283 := n12_; clear n0_ n1_ n2_ n3_ n4_ n5_ n6_ n7_ n8_ n9_ n10_ n11_ n12_; clear hb hbox hg; have hnb76 := NB290_238.out; have hnc76 := NB238_290.out; have hnb77 := NB290_244.out; have hnc77 := NB244_290.out; have hnb78 := NB290_283.out; have hnc78 := NB283_290.out; have hcz79_0 : w75.cell? ⟨gb290, 0, none⟩ = some (.int .i64 0) := (blk_cell BK290.out 0).trans rfl; have hcz79_1 : w75.cell? ⟨gb290, 1, none⟩ = some (.int .u16 0) := (blk_cell BK290.out 1).trans rfl; have hcz79_2 : w75.cell? ⟨gb290, 2, none⟩ = some (.int .i64 0) := (blk_cell BK290.out 2).trans rfl; have hcz79_3 : w75.cell? ⟨gb290, 3, none⟩ = some (.int .i64 0) := (blk_cell BK290.out 3).trans rfl; have hfz79_0 := blk_frozen BK290.out 0; have hfz79_1 := blk_frozen BK290.out 1; have hfz79_2 := blk_frozen BK290.out 2; have hfz79_3 := blk_frozen BK290.out 3))
                            (try simp only [Act.put, List.setIfInBounds_toArray, List.set_cons_zero, List.set_cons_succ])
                            go_cut [136] (fun v136 wc => ∃ (kq : Nat) (x136_64 : Bool), v136 = .bool x136_64 ∧ Aside0 (vesperslaw18_VectorRuns.j3 kq a0 l2 a3 t243 x13_1 x136_64 t277 t278 t279 t280 t284 t285 t286 t287 = some r) ∧ Aside0 (kq ≤ kj51) ∧ Aside0 (wc.heap[gb238]? = some (.cells #[.int .i64 x239000_1, .int .u16 x239001_1, .int .i64 x239002_1, .int .i64 x239003_1] 25 (0, 0))) ∧ Aside0 (wc.heap[gb244]? = some (.cells #[.int .i64 x245000_1, .int .u16 x245001_1, .int .i64 x245002_1, .int .i64 x245003_1] 25 (0, 0))) ∧ Aside0 (wc.heap[gb283]? = some (.cells #[.int .i64 t277, .int .u16 t278, .int .i64 t279, .int .i64 t280] 25 (0, 0))) ∧ Aside0 (wc.heap[gb290]? = some (.cells #[.int .i64 t284, .int .u16 t285, .int .i64 t286, .int .i64 t287] 25 (0, 0))) ∧ Aside0 (Below w.heap.size w wc))
                            case first =>
                              have H := HC65.out
                              clear HC65
                              by_cases c80 : t281 = t288
                              · rw [if_pos c80] at H
                                have c80b0 : (t281 == t288) = true := beq_iff_eq.mpr c80
                                have c80b1 : (t281 != t288) = false := bne_eq_false_iff_eq.mpr c80
                                clear c80
                                (first | rw [c80b0] | (simp only [i64_w, i32_w]; rw [c80b0]) | skip)
                                have H' := Aside0.mk H
                                clear H
                                go_wp2
                                go_meet
                                case rel => exact ⟨_, ((t282 != t289)), (by first | rfl | (simp; done) | (simp [*]; done)), H', ⟨by have := HK1.out; have := HJ15.out; have := HJ51.out; first | omega | exact Nat.le_refl _⟩, ⟨by (with_reducible repeat (first | refine blk_drewN ?_ _ | refine blk_drew ?_ | refine blk_alloc ?_ _)); refine blk_far ?_ NB238_290.out _; (with_reducible repeat (first | refine blk_drewN ?_ _ | refine blk_drew ?_ | refine blk_alloc ?_ _)); refine blk_far ?_ NB238_290.out _; (with_reducible repeat (first | refine blk_drewN ?_ _ | refine blk_drew ?_ | refine blk_alloc ?_ _)); refine blk_far ?_ NB238_290.out _; (with_reducible repeat (first | refine blk_drewN ?_ _ | refine blk_drew ?_ | refine blk_alloc ?_ _)); refine blk_far ?_ NB238_290.out _; (with_reducible repeat (first | refine blk_drewN ?_ _ | refine blk_drew ?_ | refine blk_alloc ?_ _)); exact BK238.out⟩, ⟨by (with_reducible repeat (first | refine blk_drewN ?_ _ | refine blk_drew ?_ | refine blk_alloc ?_ _)); refine blk_far ?_ NB244_290.out _; (with_reducible repeat (first | refine blk_drewN ?_ _ | refine blk_drew ?_ | refine blk_alloc ?_ _)); refine blk_far ?_ NB244_290.out _; (with_reducible repeat (first | refine blk_drewN ?_ _ | refine blk_drew ?_ | refine blk_alloc ?_ _)); refine blk_far ?_ NB244_290.out _; (with_reducible repeat (first | refine blk_drewN ?_ _ | refine blk_drew ?_ | refine blk_alloc ?_ _)); refine blk_far ?_ NB244_290.out _; (with_reducible repeat (first | refine blk_drewN ?_ _ | refine blk_drew ?_ | refine blk_alloc ?_ _)); exact BK244.out⟩, ⟨by (with_reducible repeat (first | refine blk_drewN ?_ _ | refine blk_drew ?_ | refine blk_alloc ?_ _)); refine blk_far ?_ NB283_290.out _; (with_reducible repeat (first | refine blk_drewN ?_ _ | refine blk_drew ?_ | refine blk_alloc ?_ _)); refine blk_far ?_ NB283_290.out _; (with_reducible repeat (first | refine blk_drewN ?_ _ | refine blk_drew ?_ | refine blk_alloc ?_ _)); refine blk_far ?_ NB283_290.out _; (with_reducible repeat (first | refine blk_drewN ?_ _ | refine blk_drew ?_ | refine blk_alloc ?_ _)); refine blk_far ?_ NB283_290.out _; (with_reducible repeat (first | refine blk_drewN ?_ _ | refine blk_drew ?_ | refine blk_alloc ?_ _)); exact BK283.out⟩, ⟨by (with_reducible repeat (first | refine blk_drewN ?_ _ | refine blk_drew ?_ | refine blk_alloc ?_ _)); refine blk_put (cs := #[.int .i64 t284, .int .u16 t285, .int .i64 t286, .int .i64 0]) ?_ 3 _ rfl; (with_reducible repeat (first | refine blk_drewN ?_ _ | refine blk_drew ?_ | refine blk_alloc ?_ _)); refine blk_put (cs := #[.int .i64 t284, .int .u16 t285, .int .i64 0, .int .i64 0]) ?_ 2 _ rfl; (with_reducible repeat (first | refine blk_drewN ?_ _ | refine blk_drew ?_ | refine blk_alloc ?_ _)); refine blk_put (cs := #[.int .i64 t284, .int .u16 0, .int .i64 0, .int .i64 0]) ?_ 1 _ rfl; (with_reducible repeat (first | refine blk_drewN ?_ _ | refine blk_drew ?_ | refine blk_alloc ?_ _)); refine blk_put (cs := #[.int .i64 0, .int .u16 0, .int .i64 0, .int .i64 0]) ?_ 0 _ rfl; (with_reducible repeat (first | refine blk_drewN ?_ _ | refine blk_drew ?_ | refine blk_alloc ?_ _)); exact BK290.out⟩, ⟨by repeat (first | (with_reducible first | exact HB.out | apply below_alloc | apply pw_below_drewN | apply below_drew1 | refine below_set ?_ GE238.out | refine below_set ?_ GE244.out | refine below_set ?_ GE283.out | refine below_set ?_ GE290.out) | exact HB.out)⟩⟩
                              · rw [if_neg c80] at H
                                have c80b0 : (t281 == t288) = false := beq_eq_false_iff_ne.mpr c80
                                have c80b1 : (t281 != t288) = true := bne_iff_ne.mpr c80
                                (first | rw [c80b0] | (simp only [i64_w, i32_w]; rw [c80b0]) | skip)
                                have H' := Aside0.mk H
                                clear H
                                go_wp2
                                go_meet
                                case rel => exact ⟨_, (true), (by first | rfl | (simp; done) | (simp [*]; done)), H', ⟨by have := HK1.out; have := HJ15.out; have := HJ51.out; first | omega | exact Nat.le_refl _⟩, ⟨by (with_reducible repeat (first | refine blk_drewN ?_ _ | refine blk_drew ?_ | refine blk_alloc ?_ _)); refine blk_far ?_ NB238_290.out _; (with_reducible repeat (first | refine blk_drewN ?_ _ | refine blk_drew ?_ | refine blk_alloc ?_ _)); refine blk_far ?_ NB238_290.out _; (with_reducible repeat (first | refine blk_drewN ?_ _ | refine blk_drew ?_ | refine blk_alloc ?_ _)); refine blk_far ?_ NB238_290.out _; (with_reducible repeat (first | refine blk_drewN ?_ _ | refine blk_drew ?_ | refine blk_alloc ?_ _)); refine blk_far ?_ NB238_290.out _; (with_reducible repeat (first | refine blk_drewN ?_ _ | refine blk_drew ?_ | refine blk_alloc ?_ _)); exact BK238.out⟩, ⟨by (with_reducible repeat (first | refine blk_drewN ?_ _ | refine blk_drew ?_ | refine blk_alloc ?_ _)); refine blk_far ?_ NB244_290.out _; (with_reducible repeat (first | refine blk_drewN ?_ _ | refine blk_drew ?_ | refine blk_alloc ?_ _)); refine blk_far ?_ NB244_290.out _; (with_reducible repeat (first | refine blk_drewN ?_ _ | refine blk_drew ?_ | refine blk_alloc ?_ _)); refine blk_far ?_ NB244_290.out _; (with_reducible repeat (first | refine blk_drewN ?_ _ | refine blk_drew ?_ | refine blk_alloc ?_ _)); refine blk_far ?_ NB244_290.out _; (with_reducible repeat (first | refine blk_drewN ?_ _ | refine blk_drew ?_ | refine blk_alloc ?_ _)); exact BK244.out⟩, ⟨by (with_reducible repeat (first | refine blk_drewN ?_ _ | refine blk_drew ?_ | refine blk_alloc ?_ _)); refine blk_far ?_ NB283_290.out _; (with_reducible repeat (first | refine blk_drewN ?_ _ | refine blk_drew ?_ | refine blk_alloc ?_ _)); refine blk_far ?_ NB283_290.out _; (with_reducible repeat (first | refine blk_drewN ?_ _ | refine blk_drew ?_ | refine blk_alloc ?_ _)); refine blk_far ?_ NB283_290.out _; (with_reducible repeat (first | refine blk_drewN ?_ _ | refine blk_drew ?_ | refine blk_alloc ?_ _)); refine blk_far ?_ NB283_290.out _; (with_reducible repeat (first | refine blk_drewN ?_ _ | refine blk_drew ?_ | refine blk_alloc ?_ _)); exact BK283.out⟩, ⟨by (with_reducible repeat (first | refine blk_drewN ?_ _ | refine blk_drew ?_ | refine blk_alloc ?_ _)); refine blk_put (cs := #[.int .i64 t284, .int .u16 t285, .int .i64 t286, .int .i64 0]) ?_ 3 _ rfl; (with_reducible repeat (first | refine blk_drewN ?_ _ | refine blk_drew ?_ | refine blk_alloc ?_ _)); refine blk_put (cs := #[.int .i64 t284, .int .u16 t285, .int .i64 0, .int .i64 0]) ?_ 2 _ rfl; (with_reducible repeat (first | refine blk_drewN ?_ _ | refine blk_drew ?_ | refine blk_alloc ?_ _)); refine blk_put (cs := #[.int .i64 t284, .int .u16 0, .int .i64 0, .int .i64 0]) ?_ 1 _ rfl; (with_reducible repeat (first | refine blk_drewN ?_ _ | refine blk_drew ?_ | refine blk_alloc ?_ _)); refine blk_put (cs := #[.int .i64 0, .int .u16 0, .int .i64 0, .int .i64 0]) ?_ 0 _ rfl; (with_reducible repeat (first | refine blk_drewN ?_ _ | refine blk_drew ?_ | refine blk_alloc ?_ _)); exact BK290.out⟩, ⟨by repeat (first | (with_reducible first | exact HB.out | apply below_alloc | apply pw_below_drewN | apply below_drew1 | refine below_set ?_ GE238.out | refine below_set ?_ GE244.out | refine below_set ?_ GE283.out | refine below_set ?_ GE290.out) | exact HB.out)⟩⟩
                            case rest =>
                              clear HC65
                              try clear c1
                              try clear c2
                              try clear p2
                              try clear q2
                              try clear hx2
                              try clear c3
                              try clear c4
                              try clear c5
                              try clear c5b0
                              try clear c5b1
                              try clear c6
                              try clear p6
                              try clear c7
                              try clear c8
                              try clear c8b0
                              try clear c8b1
                              try clear c9
                              try clear c12
                              try clear c13
                              try clear c14
                              try clear c15
                              try clear c16
                              try clear c17
                              try clear c17b0
                              try clear c18
                              try clear c19
                              try clear c20
                              try clear c20b0
                              try clear c20b1
                              try clear c21
                              try clear c22
                              try clear c22b0
                              try clear c22b1
                              try clear c23
                              try clear c23b0
                              try clear c23b1
                              try clear c26
                              try clear c26b0
                              try clear c27
                              try clear p27
                              try clear q27
                              try clear hx27
                              try clear c37
                              try clear c37b0
                              try clear c38
                              try clear c48
                              try clear c48b0
                              try clear c49
                              try clear c49b0
                              try clear c53
                              try clear c62
                              try clear c62b0
                              try clear c62b1
                              try clear p64
                              try clear c66
                              try clear c70
                              try clear c71
                              try clear c76
                              try clear c77
                              try clear c78
                              try clear c80
                              try clear c80b0
                              try clear c80b1
                              try clear hcz11_0
                              try clear hcz11_1
                              try clear hcz11_2
                              try clear hcz11_3
                              try clear hcz15_0
                              try clear hcz15_1
                              try clear hcz15_2
                              try clear hcz15_3
                              try clear hcz28_0
                              try clear hcz28_1
                              try clear hcz28_2
                              try clear hcz28_3
                              try clear hcz30_0
                              try clear hcz30_1
                              try clear hcz30_2
                              try clear hcz30_3
                              try clear hcz31_0
                              try clear hcz31_1
                              try clear hcz31_2
                              try clear hcz31_3
                              try clear hcz33_0
                              try clear hcz33_1
                              try clear hcz33_2
                              try clear hcz33_3
                              try clear hcz34_0
                              try clear hcz34_1
                              try clear hcz34_2
                              try clear hcz34_3
                              try clear hcz39_0
                              try clear hcz39_1
                              try clear hcz39_2
                              try clear hcz39_3
                              try clear hcz41_0
                              try clear hcz41_1
                              try clear hcz41_2
                              try clear hcz41_3
                              try clear hcz42_0
                              try clear hcz42_1
                              try clear hcz42_2
                              try clear hcz42_3
                              try clear hcz44_0
                              try clear hcz44_1
                              try clear hcz44_2
                              try clear hcz44_3
                              try clear hcz45_0
                              try clear hcz45_1
                              try clear hcz45_2
                              try clear hcz45_3
                              try clear hcz54_0
                              try clear hcz54_1
                              try clear hcz54_2
                              try clear hcz54_3
                              try clear hcz56_0
                              try clear hcz56_1
                              try clear hcz56_2
                              try clear hcz56_3
                              try clear hcz67_0
                              try clear hcz67_1
                              try clear hcz67_2
                              try clear hcz67_3
                              try clear hcz72_0
                              try clear hcz72_1
                              try clear hcz72_2
                              try clear hcz72_3
                              try clear hcz73_0
                              try clear hcz73_1
                              try clear hcz73_2
                              try clear hcz73_3
                              try clear hcz79_0
                              try clear hcz79_1
                              try clear hcz79_2
                              try clear hcz79_3
                              try clear hfz11_0
                              try clear hfz11_1
                              try clear hfz11_2
                              try clear hfz11_3
                              try clear hfz15_0
                              try clear hfz15_1
                              try clear hfz15_2
                              try clear hfz15_3
                              try clear hfz28_0
                              try clear hfz28_1
                              try clear hfz28_2
                              try clear hfz28_3
                              try clear hfz30_0
                              try clear hfz30_1
                              try clear hfz30_2
                              try clear hfz30_3
                              try clear hfz31_0
                              try clear hfz31_1
                              try clear hfz31_2
                              try clear hfz31_3
                              try clear hfz33_0
                              try clear hfz33_1
                              try clear hfz33_2
                              try clear hfz33_3
                              try clear hfz34_0
                              try clear hfz34_1
                              try clear hfz34_2
                              try clear hfz34_3
                              try clear hfz39_0
                              try clear hfz39_1
                              try clear hfz39_2
                              try clear hfz39_3
                              try clear hfz41_0
                              try clear hfz41_1
                              try clear hfz41_2
                              try clear hfz41_3
                              try clear hfz42_0
                              try clear hfz42_1
                              try clear hfz42_2
                              try clear hfz42_3
                              try clear hfz44_0
                              try clear hfz44_1
                              try clear hfz44_2
                              try clear hfz44_3
                              try clear hfz45_0
                              try clear hfz45_1
                              try clear hfz45_2
                              try clear hfz45_3
                              try clear hfz54_0
                              try clear hfz54_1
                              try clear hfz54_2
                              try clear hfz54_3
                              try clear hfz56_0
                              try clear hfz56_1
                              try clear hfz56_2
                              try clear hfz56_3
                              try clear hfz67_0
                              try clear hfz67_1
                              try clear hfz67_2
                              try clear hfz67_3
                              try clear hfz72_0
                              try clear hfz72_1
                              try clear hfz72_2
                              try clear hfz72_3
                              try clear hfz73_0
                              try clear hfz73_1
                              try clear hfz73_2
                              try clear hfz73_3
                              try clear hfz79_0
                              try clear hfz79_1
                              try clear hfz79_2
                              try clear hfz79_3
                              try clear hx273_0
                              try clear hx275_0
                              try clear p2
                              try clear p27
                              try clear p273
                              try clear p275
                              try clear p6
                              try clear q2
                              try clear q27
                              try clear q273
                              try clear q275
                              obtain ⟨kq, x136_64, rfl, HA, HJ64, BK238, BK244, BK283, BK290, HB⟩ := hcut
                              cases kq with
                              | zero => exact absurd HA.out (by simp [vesperslaw18_VectorRuns.j3])
                              | succ kj64 =>
                                have H := HA.out
                                clear HA
                                simp only [vesperslaw18_VectorRuns.j3] at H
                                by_cases c81 : x136_64 = true
                                · subst c81
                                  have H1 : (none) = some r := by rw [if_pos rfl] at H; exact H
                                  clear H
                                  have H := H1
                                  clear H1
                                  exact absurd H (by simp)
                                · replace c81 := Bool.eq_false_iff.mpr c81
                                  subst c81
                                  have H1 : (if (!(t277 == t284) || (!(t278 == t285) || (!(t279 == t286) || (!(t280 == t287))))) = true then (none) else (vesperslaw18_VectorRuns.l0 kj64 a0 l2 a3 t243 (wrap64 (x13_1 + 1)) t277 t278 t279 t280 t284 t285 t286 t287)) = some r := by rw [if_neg (show ¬ (false = true) by decide)] at H; exact H
                                  clear H
                                  have H := H1
                                  clear H1
                                  by_cases c82 : (!(t277 == t284) || (!(t278 == t285) || (!(t279 == t286) || (!(t280 == t287))))) = true
                                  · rw [if_pos c82] at H
                                    exact absurd H (by simp)
                                  · rw [if_neg c82] at H
                                    have c82b0 : (!(t277 == t284) || (!(t278 == t285) || (!(t279 == t286) || (!(t280 == t287))))) = false := by simpa using c82
                                    clear c82
                                    have H' := Aside0.mk H
                                    clear H
                                    try go_wp2
                                    have n0_ := Aside0.mk (blk_drew BK238.out)
                                    have n1_ := Aside0.mk (blk_drew BK244.out)
                                    have n2_ := Aside0.mk (blk_drew BK283.out)
                                    have n3_ := Aside0.mk (blk_drew BK290.out)
                                    have n4_ := Aside0.mk (below_drew1 HB.out)
                                    clear BK238
                                    clear BK244
                                    clear BK283
                                    clear BK290
                                    clear HB
                                    have BK238 := n0_
                                    have BK244 := n1_
                                    have BK283 := n2_
                                    have BK290 := n3_
                                    have HB := n4_
                                    clear n0_ n1_ n2_ n3_ n4_
                                    refine start_ (n := 4) (S := fun w' => w'.cell? ⟨gb283, 0, none⟩ = some (.int .i64 t277) ∧ w'.cell? ⟨gb283, 1, none⟩ = some (.int .u16 t278) ∧ w'.cell? ⟨gb283, 2, none⟩ = some (.int .i64 t279) ∧ w'.cell? ⟨gb283, 3, none⟩ = some (.int .i64 t280) ∧ w'.cell? ⟨gb290, 0, none⟩ = some (.int .i64 t284) ∧ w'.cell? ⟨gb290, 1, none⟩ = some (.int .u16 t285) ∧ w'.cell? ⟨gb290, 2, none⟩ = some (.int .i64 t286) ∧ w'.cell? ⟨gb290, 3, none⟩ = some (.int .i64 t287)) (ds := []) #[false, false, false, false] (by kernel_rfl) rfl rfl ⟨(blk_cell BK283.out 0).trans rfl, (blk_cell BK283.out 1).trans rfl, (blk_cell BK283.out 2).trans rfl, (blk_cell BK283.out 3).trans rfl, (blk_cell BK290.out 0).trans rfl, (blk_cell BK290.out 1).trans rfl, (blk_cell BK290.out 2).trans rfl, (blk_cell BK290.out 3).trans rfl⟩ (fun hHeld => ?_)
                                    generalize wc.drew = w83 at BK238 BK244 BK283 BK290 HB hHeld ⊢
                                    refine take_ (i := 0) (N := some 137) (v := ?_) (a' := ?_) #[true, false, false, false] rfl rfl (by kernel_rfl) (fun _ _ _ h => h) (Or.inl ⟨by rfl, ?_⟩) hHeld ?_ ?_
                                    rotate_left
                                    · rintro w' ⟨s0, s1, s2, s3, s4, s5, s6, s7⟩
                                      go_simp
                                      with_reducible rfl
                                    rotate_left
                                    · simp only [Act.put, List.setIfInBounds_toArray, List.set_cons_zero, List.set_cons_succ, i64_w, i32_w]
                                      rfl
                                    refine take_ (i := 1) (N := some 138) (v := ?_) (a' := ?_) #[true, true, false, false] rfl rfl (by kernel_rfl) (fun _ _ _ h => h) (Or.inl ⟨by rfl, ?_⟩) hHeld ?_ ?_
                                    rotate_left
                                    · rintro w' ⟨s0, s1, s2, s3, s4, s5, s6, s7⟩
                                      go_simp
                                      with_reducible rfl
                                    rotate_left
                                    · simp only [Act.put, List.setIfInBounds_toArray, List.set_cons_zero, List.set_cons_succ, i64_w, i32_w]
                                      rfl
                                    refine one_ (i := 2) (N := none) #[true, true, true, false] rfl rfl (by kernel_rfl) (by decide) (fun K hK => ?_)
                                    have hs84 : w83.cell? ⟨gb238, 0, none⟩ = some (.int .i64 x239000_1) := (blk_cell BK238.out 0).trans rfl
                                    have hfs84 := blk_frozen BK238.out 0
                                    have hns84_1 := NB244_238.out
                                    have hns84_2 := NB283_238.out
                                    have hns84_3 := NB290_238.out
                                    have hms84_1 := NB238_244.out
                                    have hms84_2 := NB238_283.out
                                    have hms84_3 := NB238_290.out
                                    have hs85 : w83.cell? ⟨gb238, 1, none⟩ = some (.int .u16 x239001_1) := (blk_cell BK238.out 1).trans rfl
                                    have hfs85 := blk_frozen BK238.out 1
                                    have hns85_1 := NB244_238.out
                                    have hns85_2 := NB283_238.out
                                    have hns85_3 := NB290_238.out
                                    have hms85_1 := NB238_244.out
                                    have hms85_2 := NB238_283.out
                                    have hms85_3 := NB238_290.out
                                    have hs86 : w83.cell? ⟨gb238, 2, none⟩ = some (.int .i64 x239002_1) := (blk_cell BK238.out 2).trans rfl
                                    have hfs86 := blk_frozen BK238.out 2
                                    have hns86_1 := NB244_238.out
                                    have hns86_2 := NB283_238.out
                                    have hns86_3 := NB290_238.out
                                    have hms86_1 := NB238_244.out
                                    have hms86_2 := NB238_283.out
                                    have hms86_3 := NB238_290.out
                                    have hs87 : w83.cell? ⟨gb238, 3, none⟩ = some (.int .i64 x239003_1) := (blk_cell BK238.out 3).trans rfl
                                    have hfs87 := blk_frozen BK238.out 3
                                    have hns87_1 := NB244_238.out
                                    have hns87_2 := NB283_238.out
                                    have hns87_3 := NB290_238.out
                                    have hms87_1 := NB238_244.out
                                    have hms87_2 := NB238_283.out
                                    have hms87_3 := NB238_290.out
                                    refine skip_ (w1 := ?_) (by rfl) rfl ?_ ?_
                                    rotate_left
                                    · go_simp
                                      rfl
                                    refine hK.out _ _ ⟨((cell_far (p := ⟨gb238, _, none⟩) NB283_238.out _).trans (((cell_far (p := ⟨gb238, _, none⟩) NB283_238.out _).trans (((cell_far (p := ⟨gb238, _, none⟩) NB283_238.out _).trans (((cell_far (p := ⟨gb238, _, none⟩) NB283_238.out _).trans (hHeld.1)))))))), ((cell_far (p := ⟨gb238, _, none⟩) NB283_238.out _).trans (((cell_far (p := ⟨gb238, _, none⟩) NB283_238.out _).trans (((cell_far (p := ⟨gb238, _, none⟩) NB283_238.out _).trans (((cell_far (p := ⟨gb238, _, none⟩) NB283_238.out _).trans (hHeld.2.1)))))))), ((cell_far (p := ⟨gb238, _, none⟩) NB283_238.out _).trans (((cell_far (p := ⟨gb238, _, none⟩) NB283_238.out _).trans (((cell_far (p := ⟨gb238, _, none⟩) NB283_238.out _).trans (((cell_far (p := ⟨gb238, _, none⟩) NB283_238.out _).trans (hHeld.2.2.1)))))))), ((cell_far (p := ⟨gb238, _, none⟩) NB283_238.out _).trans (((cell_far (p := ⟨gb238, _, none⟩) NB283_238.out _).trans (((cell_far (p := ⟨gb238, _, none⟩) NB283_238.out _).trans (((cell_far (p := ⟨gb238, _, none⟩) NB283_238.out _).trans (hHeld.2.2.2.1)))))))), ((cell_far (p := ⟨gb238, _, none⟩) NB290_238.out _).trans (((cell_far (p := ⟨gb238, _, none⟩) NB290_238.out _).trans (((cell_far (p := ⟨gb238, _, none⟩) NB290_238.out _).trans (((cell_far (p := ⟨gb238, _, none⟩) NB290_238.out _).trans (hHeld.2.2.2.2.1)))))))), ((cell_far (p := ⟨gb238, _, none⟩) NB290_238.out _).trans (((cell_far (p := ⟨gb238, _, none⟩) NB290_238.out _).trans (((cell_far (p := ⟨gb238, _, none⟩) NB290_238.out _).trans (((cell_far (p := ⟨gb238, _, none⟩) NB290_238.out _).trans (hHeld.2.2.2.2.2.1)))))))), ((cell_far (p := ⟨gb238, _, none⟩) NB290_238.out _).trans (((cell_far (p := ⟨gb238, _, none⟩) NB290_238.out _).trans (((cell_far (p := ⟨gb238, _, none⟩) NB290_238.out _).trans (((cell_far (p := ⟨gb238, _, none⟩) NB290_238.out _).trans (hHeld.2.2.2.2.2.2.1)))))))), ((cell_far (p := ⟨gb238, _, none⟩) NB290_238.out _).trans (((cell_far (p := ⟨gb238, _, none⟩) NB290_238.out _).trans (((cell_far (p := ⟨gb238, _, none⟩) NB290_238.out _).trans (((cell_far (p := ⟨gb238, _, none⟩) NB290_238.out _).trans (hHeld.2.2.2.2.2.2.2))))))))⟩ (fun hHeld => ?_)
                                    clear hK K
                                    refine one_ (i := 3) (N := none) #[true, true, true, true] rfl rfl (by kernel_rfl) (by decide) (fun K hK => ?_)
                                    have hs88 : w83.cell? ⟨gb244, 0, none⟩ = some (.int .i64 x245000_1) := (blk_cell BK244.out 0).trans rfl
                                    have hfs88 := blk_frozen BK244.out 0
                                    have hns88_0 := NB238_244.out
                                    have hns88_2 := NB283_244.out
                                    have hns88_3 := NB290_244.out
                                    have hms88_0 := NB244_238.out
                                    have hms88_2 := NB244_283.out
                                    have hms88_3 := NB244_290.out
                                    have hs89 : w83.cell? ⟨gb244, 1, none⟩ = some (.int .u16 x245001_1) := (blk_cell BK244.out 1).trans rfl
                                    have hfs89 := blk_frozen BK244.out 1
                                    have hns89_0 := NB238_244.out
                                    have hns89_2 := NB283_244.out
                                    have hns89_3 := NB290_244.out
                                    have hms89_0 := NB244_238.out
                                    have hms89_2 := NB244_283.out
                                    have hms89_3 := NB244_290.out
                                    have hs90 : w83.cell? ⟨gb244, 2, none⟩ = some (.int .i64 x245002_1) := (blk_cell BK244.out 2).trans rfl
                                    have hfs90 := blk_frozen BK244.out 2
                                    have hns90_0 := NB238_244.out
                                    have hns90_2 := NB283_244.out
                                    have hns90_3 := NB290_244.out
                                    have hms90_0 := NB244_238.out
                                    have hms90_2 := NB244_283.out
                                    have hms90_3 := NB244_290.out
                                    have hs91 : w83.cell? ⟨gb244, 3, none⟩ = some (.int .i64 x245003_1) := (blk_cell BK244.out 3).trans rfl
                                    have hfs91 := blk_frozen BK244.out 3
                                    have hns91_0 := NB238_244.out
                                    have hns91_2 := NB283_244.out
                                    have hns91_3 := NB290_244.out
                                    have hms91_0 := NB244_238.out
                                    have hms91_2 := NB244_283.out
                                    have hms91_3 := NB244_290.out
                                    refine skip_ (w1 := ?_) (by rfl) rfl ?_ ?_
                                    rotate_left
                                    · go_simp
                                      rfl
                                    refine hK.out _ _ ⟨((cell_far (p := ⟨gb244, _, none⟩) NB283_244.out _).trans (((cell_far (p := ⟨gb244, _, none⟩) NB283_244.out _).trans (((cell_far (p := ⟨gb244, _, none⟩) NB283_244.out _).trans (((cell_far (p := ⟨gb244, _, none⟩) NB283_244.out _).trans (hHeld.1)))))))), ((cell_far (p := ⟨gb244, _, none⟩) NB283_244.out _).trans (((cell_far (p := ⟨gb244, _, none⟩) NB283_244.out _).trans (((cell_far (p := ⟨gb244, _, none⟩) NB283_244.out _).trans (((cell_far (p := ⟨gb244, _, none⟩) NB283_244.out _).trans (hHeld.2.1)))))))), ((cell_far (p := ⟨gb244, _, none⟩) NB283_244.out _).trans (((cell_far (p := ⟨gb244, _, none⟩) NB283_244.out _).trans (((cell_far (p := ⟨gb244, _, none⟩) NB283_244.out _).trans (((cell_far (p := ⟨gb244, _, none⟩) NB283_244.out _).trans (hHeld.2.2.1)))))))), ((cell_far (p := ⟨gb244, _, none⟩) NB283_244.out _).trans (((cell_far (p := ⟨gb244, _, none⟩) NB283_244.out _).trans (((cell_far (p := ⟨gb244, _, none⟩) NB283_244.out _).trans (((cell_far (p := ⟨gb244, _, none⟩) NB283_244.out _).trans (hHeld.2.2.2.1)))))))), ((cell_far (p := ⟨gb244, _, none⟩) NB290_244.out _).trans (((cell_far (p := ⟨gb244, _, none⟩) NB290_244.out _).trans (((cell_far (p := ⟨gb244, _, none⟩) NB290_244.out _).trans (((cell_far (p := ⟨gb244, _, none⟩) NB290_244.out _).trans (hHeld.2.2.2.2.1)))))))), ((cell_far (p := ⟨gb244, _, none⟩) NB290_244.out _).trans (((cell_far (p := ⟨gb244, _, none⟩) NB290_244.out _).trans (((cell_far (p := ⟨gb244, _, none⟩) NB290_244.out _).trans (((cell_far (p := ⟨gb244, _, none⟩) NB290_244.out _).trans (hHeld.2.2.2.2.2.1)))))))), ((cell_far (p := ⟨gb244, _, none⟩) NB290_244.out _).trans (((cell_far (p := ⟨gb244, _, none⟩) NB290_244.out _).trans (((cell_far (p := ⟨gb244, _, none⟩) NB290_244.out _).trans (((cell_far (p := ⟨gb244, _, none⟩) NB290_244.out _).trans (hHeld.2.2.2.2.2.2.1)))))))), ((cell_far (p := ⟨gb244, _, none⟩) NB290_244.out _).trans (((cell_far (p := ⟨gb244, _, none⟩) NB290_244.out _).trans (((cell_far (p := ⟨gb244, _, none⟩) NB290_244.out _).trans (((cell_far (p := ⟨gb244, _, none⟩) NB290_244.out _).trans (hHeld.2.2.2.2.2.2.2))))))))⟩ (fun hHeld => ?_)
                                    clear hK K
                                    refine done_ (by kernel_rfl) ?_
                                    have hnb92 := NB238_244.out
                                    have hnc92 := NB244_238.out
                                    have hnb93 := NB238_283.out
                                    have hnc93 := NB283_238.out
                                    have hnb94 := NB238_290.out
                                    have hnc94 := NB290_238.out
                                    have hcz95_0 : w83.cell? ⟨gb238, 0, none⟩ = some (.int .i64 x239000_1) := (blk_cell BK238.out 0).trans rfl
                                    have hcz95_1 : w83.cell? ⟨gb238, 1, none⟩ = some (.int .u16 x239001_1) := (blk_cell BK238.out 1).trans rfl
                                    have hcz95_2 : w83.cell? ⟨gb238, 2, none⟩ = some (.int .i64 x239002_1) := (blk_cell BK238.out 2).trans rfl
                                    have hcz95_3 : w83.cell? ⟨gb238, 3, none⟩ = some (.int .i64 x239003_1) := (blk_cell BK238.out 3).trans rfl
                                    have hfz95_0 := blk_frozen BK238.out 0
                                    have hfz95_1 := blk_frozen BK238.out 1
                                    have hfz95_2 := blk_frozen BK238.out 2
                                    have hfz95_3 := blk_frozen BK238.out 3
                                    have hnb96 := NB244_283.out
                                    have hnc96 := NB283_244.out
                                    have hnb97 := NB244_290.out
                                    have hnc97 := NB290_244.out
                                    have hcz98_0 : w83.cell? ⟨gb244, 0, none⟩ = some (.int .i64 x245000_1) := (blk_cell BK244.out 0).trans rfl
                                    have hcz98_1 : w83.cell? ⟨gb244, 1, none⟩ = some (.int .u16 x245001_1) := (blk_cell BK244.out 1).trans rfl
                                    have hcz98_2 : w83.cell? ⟨gb244, 2, none⟩ = some (.int .i64 x245002_1) := (blk_cell BK244.out 2).trans rfl
                                    have hcz98_3 : w83.cell? ⟨gb244, 3, none⟩ = some (.int .i64 x245003_1) := (blk_cell BK244.out 3).trans rfl
                                    have hfz98_0 := blk_frozen BK244.out 0
                                    have hfz98_1 := blk_frozen BK244.out 1
                                    have hfz98_2 := blk_frozen BK244.out 2
                                    have hfz98_3 := blk_frozen BK244.out 3
                                    try go_wp2
                                    go_roundg kj64
                                    case measure => have := HK1.out; have := HJ15.out; have := HJ51.out; have := HJ64.out; omega
                                    case rel => exact ⟨(wrap64 (x13_1 + 1)), (t277), (t278), (t279), (t280), (t284), (t285), (t286), (t287), (by first | rfl | (simp; done) | (simp [*]; done)), H', ⟨by have := HK1.out; have := HJ15.out; have := HJ51.out; have := HJ64.out; omega⟩, ⟨by (with_reducible repeat (first | refine blk_drewN ?_ _ | refine blk_drew ?_ | refine blk_alloc ?_ _)); refine blk_far ?_ NB238_244.out _; (with_reducible repeat (first | refine blk_drewN ?_ _ | refine blk_drew ?_ | refine blk_alloc ?_ _)); refine blk_far ?_ NB238_244.out _; (with_reducible repeat (first | refine blk_drewN ?_ _ | refine blk_drew ?_ | refine blk_alloc ?_ _)); refine blk_far ?_ NB238_244.out _; (with_reducible repeat (first | refine blk_drewN ?_ _ | refine blk_drew ?_ | refine blk_alloc ?_ _)); refine blk_far ?_ NB238_244.out _; (with_reducible repeat (first | refine blk_drewN ?_ _ | refine blk_drew ?_ | refine blk_alloc ?_ _)); refine blk_put (cs := #[.int .i64 t277, .int .u16 t278, .int .i64 t279, .int .i64 x239003_1]) ?_ 3 _ rfl; (with_reducible repeat (first | refine blk_drewN ?_ _ | refine blk_drew ?_ | refine blk_alloc ?_ _)); refine blk_put (cs := #[.int .i64 t277, .int .u16 t278, .int .i64 x239002_1, .int .i64 x239003_1]) ?_ 2 _ rfl; (with_reducible repeat (first | refine blk_drewN ?_ _ | refine blk_drew ?_ | refine blk_alloc ?_ _)); refine blk_put (cs := #[.int .i64 t277, .int .u16 x239001_1, .int .i64 x239002_1, .int .i64 x239003_1]) ?_ 1 _ rfl; (with_reducible repeat (first | refine blk_drewN ?_ _ | refine blk_drew ?_ | refine blk_alloc ?_ _)); refine blk_put (cs := #[.int .i64 x239000_1, .int .u16 x239001_1, .int .i64 x239002_1, .int .i64 x239003_1]) ?_ 0 _ rfl; (with_reducible repeat (first | refine blk_drewN ?_ _ | refine blk_drew ?_ | refine blk_alloc ?_ _)); exact BK238.out⟩, ⟨by (with_reducible repeat (first | refine blk_drewN ?_ _ | refine blk_drew ?_ | refine blk_alloc ?_ _)); refine blk_put (cs := #[.int .i64 t284, .int .u16 t285, .int .i64 t286, .int .i64 x245003_1]) ?_ 3 _ rfl; (with_reducible repeat (first | refine blk_drewN ?_ _ | refine blk_drew ?_ | refine blk_alloc ?_ _)); refine blk_put (cs := #[.int .i64 t284, .int .u16 t285, .int .i64 x245002_1, .int .i64 x245003_1]) ?_ 2 _ rfl; (with_reducible repeat (first | refine blk_drewN ?_ _ | refine blk_drew ?_ | refine blk_alloc ?_ _)); refine blk_put (cs := #[.int .i64 t284, .int .u16 x245001_1, .int .i64 x245002_1, .int .i64 x245003_1]) ?_ 1 _ rfl; (with_reducible repeat (first | refine blk_drewN ?_ _ | refine blk_drew ?_ | refine blk_alloc ?_ _)); refine blk_put (cs := #[.int .i64 x245000_1, .int .u16 x245001_1, .int .i64 x245002_1, .int .i64 x245003_1]) ?_ 0 _ rfl; (with_reducible repeat (first | refine blk_drewN ?_ _ | refine blk_drew ?_ | refine blk_alloc ?_ _)); refine blk_far ?_ NB244_238.out _; (with_reducible repeat (first | refine blk_drewN ?_ _ | refine blk_drew ?_ | refine blk_alloc ?_ _)); refine blk_far ?_ NB244_238.out _; (with_reducible repeat (first | refine blk_drewN ?_ _ | refine blk_drew ?_ | refine blk_alloc ?_ _)); refine blk_far ?_ NB244_238.out _; (with_reducible repeat (first | refine blk_drewN ?_ _ | refine blk_drew ?_ | refine blk_alloc ?_ _)); refine blk_far ?_ NB244_238.out _; (with_reducible repeat (first | refine blk_drewN ?_ _ | refine blk_drew ?_ | refine blk_alloc ?_ _)); exact BK244.out⟩, ⟨by repeat (first | (with_reducible first | exact HB.out | apply below_alloc | apply pw_below_drewN | apply below_drew1 | refine below_set ?_ GE238.out | refine below_set ?_ GE244.out | refine below_set ?_ GE283.out | refine below_set ?_ GE290.out) | exact HB.out)⟩⟩
                      · rw [if_neg c49] at H
                        exact absurd H (by simp)
                    · rw [if_neg c48] at H
                      exact absurd H (by simp)
                · rw [if_neg c20] at H
                  exact absurd H (by simp)
              · replace c18 := Bool.eq_false_iff.mpr c18
                subst c18
                have H1 : (some (x239000_1 == x245000_1 && (x239001_1 == x245001_1 && (x239002_1 == x245002_1 && (x239003_1 == x245003_1))))) = some r := by rw [if_neg (show ¬ (false = true) by decide)] at H; exact H
                clear H
                have H := H1
                clear H1
                obtain rfl := Option.some.inj H
                have hnb99 := NB238_244.out
                have hnc99 := NB244_238.out
                have hcz100_0 : wc.cell? ⟨gb238, 0, none⟩ = some (.int .i64 x239000_1) := (blk_cell BK238.out 0).trans rfl
                have hcz100_1 : wc.cell? ⟨gb238, 1, none⟩ = some (.int .u16 x239001_1) := (blk_cell BK238.out 1).trans rfl
                have hcz100_2 : wc.cell? ⟨gb238, 2, none⟩ = some (.int .i64 x239002_1) := (blk_cell BK238.out 2).trans rfl
                have hcz100_3 : wc.cell? ⟨gb238, 3, none⟩ = some (.int .i64 x239003_1) := (blk_cell BK238.out 3).trans rfl
                have hfz100_0 := blk_frozen BK238.out 0
                have hfz100_1 := blk_frozen BK238.out 1
                have hfz100_2 := blk_frozen BK238.out 2
                have hfz100_3 := blk_frozen BK238.out 3
                have hcz101_0 : wc.cell? ⟨gb244, 0, none⟩ = some (.int .i64 x245000_1) := (blk_cell BK244.out 0).trans rfl
                have hcz101_1 : wc.cell? ⟨gb244, 1, none⟩ = some (.int .u16 x245001_1) := (blk_cell BK244.out 1).trans rfl
                have hcz101_2 : wc.cell? ⟨gb244, 2, none⟩ = some (.int .i64 x245002_1) := (blk_cell BK244.out 2).trans rfl
                have hcz101_3 : wc.cell? ⟨gb244, 3, none⟩ = some (.int .i64 x245003_1) := (blk_cell BK244.out 3).trans rfl
                have hfz101_0 := blk_frozen BK244.out 0
                have hfz101_1 := blk_frozen BK244.out 1
                have hfz101_2 := blk_frozen BK244.out 2
                have hfz101_3 := blk_frozen BK244.out 3
                go_wp2
                go_ret
                exact ⟨by first | rfl | (simp [errW_none, errW_some] <;> rfl) | (simp [*, errW_none, errW_some] <;> rfl), by repeat (first | (with_reducible first | exact HB.out | apply below_alloc | apply pw_below_drewN | apply below_drew1 | refine below_set ?_ GE238.out | refine below_set ?_ GE244.out) | exact HB.out)⟩
    · rw [if_neg c8] at H
      exact absurd H (by simp)

/-- THE ONE PURE STATEMENT of vesperslaw18_VectorRuns: yours. -/
def vesperslaw18_VectorRuns.Pure : Prop := ∀ (a0 : Int) (a1 : Int) (l2 : List Int) (a3 : Int), (Lit.int .i64 a0).wf = true → (Lit.int .u16 a1).wf = true → l2.length ≤ maxLen → l2.length * 2 ≤ 140737488351232 → (∀ x ∈ l2, (Lit.int .u16 x).wf = true) → (Lit.int .u64 a3).wf = true → ∃ k, vesperslaw18_VectorRuns.f k a0 a1 l2 a3 = some true
theorem vesperslaw18_VectorRuns.walk (P : vesperslaw18_VectorRuns.Pure) (a0 : Int) (a1 : Int) (a2 : Option Addr) (len2 cap2 : Nat) (z2 : List Int) (a3 : Int) (w : World) (w0 : (Lit.int .i64 a0).wf = true) (w1 : (Lit.int .u16 a1).wf = true) (w2 : (a2 = none ∧ len2 = 0 ∧ cap2 = 0 ∧ z2 = []) ∨ ∃ x, a2 = some x ∧ len2 ≤ cap2 ∧ cap2 ≤ maxLen ∧ z2.length = cap2 ∧ (∀ i, i < z2.length → w.cell? (x.add i) = some (.int .u16 (z2.getD i 0))) ∧ ∀ n ∈ z2, (Lit.int .u16 n).wf = true) (y2 : len2 * 2 ≤ 140737488351232) (w3 : (Lit.int .u64 a3).wf = true) :
    Calls Try.prog 4 #[.int .i64 a0, .int .u16 a1, .slice a2 len2 cap2, .int .u64 a3] w fun e w' => e = .returned (.bool true) ∧ Below w.heap.size w w' := by
  obtain ⟨l2, rfl, hr2, hm2, hw2, hc2⟩ := ReadsInt.ofRowC w2
  obtain ⟨k, h⟩ := P a0 a1 l2 a3 w0 w1 hm2 y2 hw2 w3
  refine (vesperslaw18_VectorRuns.calls k a0 a1 _ _ l2 a3 true w (Kd.C_of_reads (d := (0 : Int)) (h1 := fun _ => rfl) hr2) hc2 h).mono ?_
  rintro e w' ⟨rfl, hd⟩
  exact ⟨rfl, hd⟩

end Go.Proofs.Ytcfloaplbmpoaaa.PA
