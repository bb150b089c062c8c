/- MidpointNames: the error has its number; the examples of the chapter; bounds; what is too little. -/
import Derived.Test.YtcagoddljhagiaaPureMid1
import Derived.Test.YtcagoddljhagiaaPBx1
set_option linter.unusedVariables false
set_option linter.unusedSimpArgs false
namespace Go.Proofs.Ytcagoddljhagiaa.Pure
open Go.RowKit Go.Proofs.Ytcagoddljhagiaa.Hand Go.Proofs.Ytcagoddljhagiaa.Mid Go.Proofs.Ytcagoddljhagiaa.PA Go.Proofs.Ytcagoddljhagiaa.PB Go.Proofs.YtcagoddljhagiaaW.PrintWords Go.Proofs.YtcagoddljhagiaaW.PrintLast

theorem no_good {l : List Int} {a : Int} (n : Nat) (ha : a = (n : Int)) (h : l.length < 2 * n + 1 ∨ ∃ x ∈ l, x < -4294967296 ∨ 4294967296 < x) : ∀ m : Nat, a = (m : Int) → ¬ GoodM l m := by
  intro m hm hg
  have := hg.room
  rcases h with h | ⟨x, hx, h⟩
  · omega
  · have := hg.fine x hx
    omega
theorem MidpointNames : vesperslaw14_MidpointNames.Pure := by
  refine ⟨20, ?_⟩
  have g1 : GoodM [3, 1, 2, 9, (-50)] 1 := by decide
  have t1 : midpoint_Trim.f [3, 1, 2, 9, (-50)] 1 = some ([1, 2, 3], 0) := by
    have h := Trim_good g1
    rw [trimL_eq] at h
    rw [show ((1 : Nat) : Int) = 1 from rfl] at h
    rw [h]
    rw [show ((List.range (([3, 1, 2, 9, (-50)] : List Int).length - 2 * 1)).map fun j => srt [3, 1, 2, 9, (-50)] (1 + j)) = [srt [3, 1, 2, 9, (-50)] 1, srt [3, 1, 2, 9, (-50)] 2, srt [3, 1, 2, 9, (-50)] 3] from rfl]
    rw [srt_eq _ 1 1 (by decide) (by decide) (by decide), srt_eq _ 2 2 (by decide) (by decide) (by decide), srt_eq _ 3 3 (by decide) (by decide) (by decide)]
  have s1 : midpoint_Spread.f 20 [3, 1, 2, 9, (-50)] 1 = some (2, 0) := by
    have h := Spread_good g1 20 (by decide)
    rw [show ((1 : Nat) : Int) = 1 from rfl] at h
    rw [h, srt_eq _ 1 1 (by decide) (by decide) (by decide), srt_eq _ (([3, 1, 2, 9, (-50)] : List Int).length - 1 - 1) 3 (by decide) (by decide) (by decide)]
    rfl
  have b1 : midpoint_Of.f 20 [1, 2] 1 = some (0, 140) := Of_bad (by decide) (no_good 1 rfl (.inl (by decide))) 20
  have b2 : midpoint_Of.f 20 [] 0 = some (0, 140) := Of_bad (by decide) (no_good 0 rfl (.inl (by decide))) 20
  have b3 : midpoint_Trim.f [1] (-1) = some ([], 140) := Trim_bad (by decide) (fun n hn => by omega)
  have b4 : midpoint_Spread.f 20 [4294967297] 0 = some (0, 140) := Spread_bad (by decide) (no_good 0 rfl (.inr ⟨4294967297, by decide, by decide⟩)) 20
  have b5 : midpoint_Of.f 20 [(-4294967297)] 0 = some (0, 140) := Of_bad (by decide) (no_good 0 rfl (.inr ⟨-4294967297, by decide, by decide⟩)) 20
  have b6 : midpoint_Of.f 20 [1, 2, 3] 4611686018427387904 = some (0, 140) := Of_bad (by decide) (no_good 4611686018427387904 rfl (.inl (by decide))) 20
  have o1 : midpoint_Of.f 20 [4294967296, 4294967296] 0 = some (4294967296, 0) := by
    have h := Of_good (l := [4294967296, 4294967296]) (n := 0) (by decide) 20 (by decide)
    rw [show ((0 : Nat) : Int) = 0 from rfl] at h
    rw [h, srt_eq _ 0 4294967296 (by decide) (by decide) (by decide), srt_eq _ (([4294967296, 4294967296] : List Int).length - 1 - 0) 4294967296 (by decide) (by decide) (by decide)]
    rfl
  have i1 : vesperslaw14_is.f 20 7 0 [7] = some true := is_true [7] 0 7 7 7 20 (by decide) (by decide) (by decide) (by decide) (by decide) (by decide) (by decide)
  have i2 : vesperslaw14_is.f 20 (-1) 0 [(-1), 0] = some true := is_true [(-1), 0] 0 (-1) (-1) 0 20 (by decide) (by decide) (by decide) (by decide) (by decide) (by decide) (by decide)
  have i3 : vesperslaw14_is.f 20 0 2 [(-9), 9, 0, (-9), 9] = some true := is_true [(-9), 9, 0, (-9), 9] 2 0 0 0 20 (by decide) (by decide) (by decide) (by decide) (by decide) (by decide) (by decide)
  have l1 : vespersref13_Longs.f 20 [1, 2, 3] [1, 2, 3] = some true := Longs_self _ (by decide) 20 (by decide)
  unfold vesperslaw14_MidpointNames.f
  simp only [t1, s1, b1, b2, b3, b4, b5, b6, o1, i1, i2, i3, l1, alive_true 20 (by omega), Option.bind_some, if_true]
end Go.Proofs.Ytcagoddljhagiaa.Pure
