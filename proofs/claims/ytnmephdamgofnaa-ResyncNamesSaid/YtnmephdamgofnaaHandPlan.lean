/- What plan.Fails computes. -/
import Derived.Test.YtnmephdamgofnaaHandPlan1
import Derived.Test.YtnmephdamgofnaaPAx4
set_option linter.unusedVariables false
set_option linter.unusedSimpArgs false
namespace Go.Proofs.Ytnmephdamgofnaa.Hand
open Go.RowKit Go.Shelf Go.Proofs.Ytnmephdamgofnaa.PA Go.Proofs.YtnmephdamgofnaaW.PrintWords Go.Proofs.YtnmephdamgofnaaW.PrintMore
attribute [local go_sem] Oper.semAt_some

def condO (p : Pl) : Nat → Option Bool
  | 1 => plan_look_nodes.f p.a0 p.a1 p.a2 p.a3 p.a4 p.a5 p.a6 p.a7 p.a8 p.a9 p.a10 p.a11 p.a12 p.a13 p.a14 p.a15
  | 2 => plan_look_air.f p.a0 p.a1 p.a2 p.a3 p.a4 p.a5 p.a6 p.a7 p.a8 p.a9 p.a10 p.a11 p.a12 p.a13 p.a14 p.a15
  | 3 => plan_look_slot.f p.a0 p.a1 p.a2 p.a3 p.a4 p.a5 p.a6 p.a7 p.a8 p.a9 p.a10 p.a11 p.a12 p.a13 p.a14 p.a15
  | 4 => plan_look_pi.f p.a0 p.a1 p.a2 p.a3 p.a4 p.a5 p.a6 p.a7 p.a8 p.a9 p.a10 p.a11 p.a12 p.a13 p.a14 p.a15
  | 5 => plan_look_window.f p.a0 p.a1 p.a2 p.a3 p.a4 p.a5 p.a6 p.a7 p.a8 p.a9 p.a10 p.a11 p.a12 p.a13 p.a14 p.a15
  | 6 => plan_look_limit.f p.a0 p.a1 p.a2 p.a3 p.a4 p.a5 p.a6 p.a7 p.a8 p.a9 p.a10 p.a11 p.a12 p.a13 p.a14 p.a15
  | 7 => plan_look_sends.f p.a0 p.a1 p.a2 p.a3 p.a4 p.a5 p.a6 p.a7 p.a8 p.a9 p.a10 p.a11 p.a12 p.a13 p.a14 p.a15
  | 8 => plan_look_fits.f p.a0 p.a1 p.a2 p.a3 p.a4 p.a5 p.a6 p.a7 p.a8 p.a9 p.a10 p.a11 p.a12 p.a13 p.a14 p.a15
  | 9 => plan_look_queue.f p.a0 p.a1 p.a2 p.a3 p.a4 p.a5 p.a6 p.a7 p.a8 p.a9 p.a10 p.a11 p.a12 p.a13 p.a14 p.a15
  | 10 => plan_look_delta.f p.a0 p.a1 p.a2 p.a3 p.a4 p.a5 p.a6 p.a7 p.a8 p.a9 p.a10 p.a11 p.a12 p.a13 p.a14 p.a15
  | _ => plan_look_horizon.f p.a0 p.a1 p.a2 p.a3 p.a4 p.a5 p.a6 p.a7 p.a8 p.a9 p.a10 p.a11 p.a12 p.a13 p.a14 p.a15
theorem conds_at (p : Pl) : CondsAt p (condO p) := by
  intro x h0 h1
  match x, h0, h1 with
  | 1, _, _ => exact ⟨enters_of Try.func45 (by kernel_rfl) rfl, fun r w h => plan_look_nodes.calls p.a0 p.a1 p.a2 p.a3 p.a4 p.a5 p.a6 p.a7 p.a8 p.a9 p.a10 p.a11 p.a12 p.a13 p.a14 p.a15 r w h⟩
  | 2, _, _ => exact ⟨enters_of Try.func46 (by kernel_rfl) rfl, fun r w h => plan_look_air.calls p.a0 p.a1 p.a2 p.a3 p.a4 p.a5 p.a6 p.a7 p.a8 p.a9 p.a10 p.a11 p.a12 p.a13 p.a14 p.a15 r w h⟩
  | 3, _, _ => exact ⟨enters_of Try.func47 (by kernel_rfl) rfl, fun r w h => plan_look_slot.calls p.a0 p.a1 p.a2 p.a3 p.a4 p.a5 p.a6 p.a7 p.a8 p.a9 p.a10 p.a11 p.a12 p.a13 p.a14 p.a15 r w h⟩
  | 4, _, _ => exact ⟨enters_of Try.func48 (by kernel_rfl) rfl, fun r w h => plan_look_pi.calls p.a0 p.a1 p.a2 p.a3 p.a4 p.a5 p.a6 p.a7 p.a8 p.a9 p.a10 p.a11 p.a12 p.a13 p.a14 p.a15 r w h⟩
  | 5, _, _ => exact ⟨enters_of Try.func49 (by kernel_rfl) rfl, fun r w h => plan_look_window.calls p.a0 p.a1 p.a2 p.a3 p.a4 p.a5 p.a6 p.a7 p.a8 p.a9 p.a10 p.a11 p.a12 p.a13 p.a14 p.a15 r w h⟩
  | 6, _, _ => exact ⟨enters_of Try.func50 (by kernel_rfl) rfl, fun r w h => plan_look_limit.calls p.a0 p.a1 p.a2 p.a3 p.a4 p.a5 p.a6 p.a7 p.a8 p.a9 p.a10 p.a11 p.a12 p.a13 p.a14 p.a15 r w h⟩
  | 7, _, _ => exact ⟨enters_of Try.func51 (by kernel_rfl) rfl, fun r w h => plan_look_sends.calls p.a0 p.a1 p.a2 p.a3 p.a4 p.a5 p.a6 p.a7 p.a8 p.a9 p.a10 p.a11 p.a12 p.a13 p.a14 p.a15 r w h⟩
  | 8, _, _ => exact ⟨enters_of Try.func52 (by kernel_rfl) rfl, fun r w h => plan_look_fits.calls p.a0 p.a1 p.a2 p.a3 p.a4 p.a5 p.a6 p.a7 p.a8 p.a9 p.a10 p.a11 p.a12 p.a13 p.a14 p.a15 r w h⟩
  | 9, _, _ => exact ⟨enters_of Try.func37 (by kernel_rfl) rfl, fun r w h => plan_look_queue.calls p.a0 p.a1 p.a2 p.a3 p.a4 p.a5 p.a6 p.a7 p.a8 p.a9 p.a10 p.a11 p.a12 p.a13 p.a14 p.a15 r w h⟩
  | 10, _, _ => exact ⟨enters_of Try.func53 (by kernel_rfl) rfl, fun r w h => plan_look_delta.calls p.a0 p.a1 p.a2 p.a3 p.a4 p.a5 p.a6 p.a7 p.a8 p.a9 p.a10 p.a11 p.a12 p.a13 p.a14 p.a15 r w h⟩
  | 11, _, _ => exact ⟨enters_of Try.func54 (by kernel_rfl) rfl, fun r w h => plan_look_horizon.calls p.a0 p.a1 p.a2 p.a3 p.a4 p.a5 p.a6 p.a7 p.a8 p.a9 p.a10 p.a11 p.a12 p.a13 p.a14 p.a15 r w h⟩
def plan_Fails.f (a0_0 a0_1 a0_2 a0_3 a0_4 a0_5 a0_6 a0_7 a0_8 a0_9 a0_10 a0_11 a0_12 a0_13 a0_14 a0_15 : Int) : Option Int := failsC (condO ⟨a0_0, a0_1, a0_2, a0_3, a0_4, a0_5, a0_6, a0_7, a0_8, a0_9, a0_10, a0_11, a0_12, a0_13, a0_14, a0_15⟩) 11 1
theorem plan_Fails.calls (a0_0 a0_1 a0_2 a0_3 a0_4 a0_5 a0_6 a0_7 a0_8 a0_9 a0_10 a0_11 a0_12 a0_13 a0_14 a0_15 : Int) (r : Int) (w : World) (h : plan_Fails.f a0_0 a0_1 a0_2 a0_3 a0_4 a0_5 a0_6 a0_7 a0_8 a0_9 a0_10 a0_11 a0_12 a0_13 a0_14 a0_15 = some r) : Calls Try.prog 26 #[.agg #[.int .i64 a0_0, .int .i64 a0_1, .int .i64 a0_2, .int .i64 a0_3, .int .i64 a0_4, .int .i64 a0_5, .int .i64 a0_6, .int .i64 a0_7, .int .i64 a0_8, .int .i64 a0_9, .int .i64 a0_10, .int .i64 a0_11, .int .i64 a0_12, .int .i64 a0_13, .int .i64 a0_14, .int .i64 a0_15]] w fun e w' => e = .returned (.int .i64 r) ∧ Below w.heap.size w w' :=
  callsIn_wide.1 (fails_in ⟨a0_0, a0_1, a0_2, a0_3, a0_4, a0_5, a0_6, a0_7, a0_8, a0_9, a0_10, a0_11, a0_12, a0_13, a0_14, a0_15⟩ _ (conds_at _) r h w)
end Go.Proofs.Ytnmephdamgofnaa.Hand
