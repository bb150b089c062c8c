/- What 'vector.Looks' computes, by hand: a range over a function that reads an array. -/
import Derived.Test.YtcfloaplbmpoaaaHandVector2
import Derived.Test.YtcfloaplbmpoaaaHandInv
import Derived.RangeFuncNested
import Derived.RangeFuncBound
import Derived.RangeFuncBox
import Derived.RangeFuncCalls
import Derived.RangeFuncLeaves
import Derived.Shelf.Abstract
import Derived.Shelf.RegionOpen
import Derived.OwnWalkIn
import Derived.TacticsInMore
import Derived.LoopNIn
import Derived.LoopIn
import Derived.Scope
import Derived.Maps.AppendAt
set_option linter.unusedVariables false
set_option linter.unusedSimpArgs false
namespace Go.Proofs.Ytcfloaplbmpoaaa.Hand
open Go.RowKit Go.Shelf Go.Proofs.Ytcfloaplbmpoaaa.Grp Go.Proofs.YtcfloaplbmpoaaaW.PrintWords Go.Proofs.YtcfloaplbmpoaaaW.PrintMore
attribute [local go_sem] Oper.semAt_some
attribute [local go_sem] cb

/-- The vectors that a node's frame is looked at with. -/
def look1 (v n : Int) : Int := withG v n
def lookA (o v a f n : Int) : Int := if a = 1 then withoutG (withG v n) o else withG (withoutG (withG v n) o) f
def looksV (o v a f n : Int) : List Int := if a = 0 then [look1 v n] else [look1 v n, lookA o v a f n]

/-- The frame while the array is laid. -/
@[reducible] def lkT (o v a f n : Int) (w : World) (b0 b1 b2 b3 b4 b5 b6 b7 b8 b9 b10 b11 b12 b13 b14 : Bool) : Array Value := #[.agg #[.int .i64 o, .int .u16 v, .int .i64 a, .int .i64 f], .int .i64 n, .pointer (some ⟨w.heap.size, 0, none⟩), undef, .nilFunc, .pointer (some ⟨w.heap.size + 1, 0, none⟩), cb b13 (.pointer (some ⟨w.heap.size + 2, 0, none⟩)), .pointer (some ⟨w.heap.size, 1, none⟩), .int .u16 v, .int .i64 n, .int .u16 (withG v n), cb b0 (.int .u16 (withG v n)), cb b1 (.int .u16 (withG v n)), cb b2 (.pointer (some ⟨w.heap.size, 0, none⟩)), cb b3 (.int .i64 o), cb b4 (.int .u16 (withoutG (withG v n) o)), cb b5 (.int .u16 (withG v n)), cb b6 (.pointer (some ⟨w.heap.size, 0, none⟩)), cb b7 (.int .i64 o), cb b8 (.int .u16 (withoutG (withG v n) o)), cb b9 (.pointer (some ⟨w.heap.size, 3, none⟩)), cb b10 (.int .i64 f), cb b11 (.int .u16 (withG (withoutG (withG v n) o) f)), cb b12 (.agg #[.int .u16 (withG v n), .int .u16 (withoutG (withG v n) o), .int .u16 (withG (withoutG (withG v n) o) f)]), undef]
def lkI (o v a f n : Int) (w W0 : World) (listed : Array Bool) (A : Act) (W : World) : Prop :=
  ∃ b0 b1 b2 b3 b4 b5 b6 b7 b8 b9 b10 b11 b12 b13 b14 : Bool, listed = #[b0, b1, b2, b3, b4, b5, b6, b7, b8, b9, b10, b11, b12, b13, b14] ∧ A = { tmps := lkT o v a f n w b0 b1 b2 b3 b4 b5 b6 b7 b8 b9 b10 b11 b12 b13 b14, defers := [] } ∧
    (b14 = true → (b0 && b1 && b2 && b3 && b4 && b5 && b6 && b7 && b8 && b9 && b10 && b11 && b12 && b13) = true) ∧ W = (if b14 = true then W0.alloc (.cells #[.int .u16 (withG v n), .int .u16 (withoutG (withG v n) o), .int .u16 (withG (withoutG (withG v n) o) f)] 75) else if b13 = true then W0.alloc (.cells #[.int .u16 0, .int .u16 0, .int .u16 0] 75) else W0)
set_option maxRecDepth 100000 in
set_option maxHeartbeats 4000000 in
theorem looks_maker (o v a f n : Int) (w : World) : Calls Try.prog 29 #[.agg #[.int .i64 o, .int .u16 v, .int .i64 a, .int .i64 f], .int .i64 n] w fun e w' => e = .returned (.func (.func 39) #[] #[.pointer (some ⟨w.heap.size + 1, 0, none⟩), .pointer (some ⟨w.heap.size, 0, none⟩), .pointer (some ⟨w.heap.size + 2, 0, none⟩)])
    ∧ Below w.heap.size w w' ∧ w'.cell? ⟨w.heap.size + 1, 0, none⟩ = some (.int .u16 (withG v n)) ∧ w'.cell? ⟨w.heap.size, 2, none⟩ = some (.int .i64 a) ∧ w'.cell? ⟨w.heap.size + 2, 1, none⟩ = some (.int .u16 (withoutG (withG v n) o)) ∧ w'.cell? ⟨w.heap.size + 2, 2, none⟩ = some (.int .u16 (withG (withoutG (withG v n) o) f)) ∧ w.heap.size + 3 ≤ w'.heap.size := by
  go_enter Try.func29, Try.ntmps29
  go_wp2_with (first | (go_at_call 37; refine (with_core _ _ _).mono ?_; rintro e w' ⟨rfl, rfl⟩) | (go_at_call 27; refine (without_core _ _ _).mono ?_; rintro e w' ⟨rfl, rfl⟩))
  obtain ⟨W0, hW0⟩ : ∃ W0, World.drew ((w.alloc (.cells #[.int .i64 o, .int .u16 v, .int .i64 a, .int .i64 f] 65)).alloc (.cells #[.int .u16 (withG v n)] 23)) = W0 := ⟨_, rfl⟩
  have hsz : W0.heap.size = w.heap.size + 2 := by rw [← hW0]; simp
  have k0 : W0.cell? ⟨w.heap.size, 0, none⟩ = some (.int .i64 o) := by rw [← hW0]; simp [go_sem]
  have k2 : W0.cell? ⟨w.heap.size, 2, none⟩ = some (.int .i64 a) := by rw [← hW0]; simp [go_sem]
  have k3 : W0.cell? ⟨w.heap.size, 3, none⟩ = some (.int .i64 f) := by rw [← hW0]; simp [go_sem]
  have k1 : W0.cell? ⟨w.heap.size + 1, 0, none⟩ = some (.int .u16 (withG v n)) := by rw [← hW0]; simp [go_sem]
  have hB0 : Below w.heap.size w W0 := by rw [← hW0]; exact Below.drew (((Below.refl _ w).alloc (Nat.le_refl _) _).alloc (by simp) _)
  refine wp_region_any (by kernel_rfl) ?_
  change wpAny _ _ _ _ _ _ _ (World.drew _)
  rw [hW0]
  refine wpAny_inv (by kernel_rfl) (lkI o v a f n w W0) ?step ?done _ _ _ _ (by decide) (by simp) ?init
  case init => exact ⟨false, false, false, false, false, false, false, false, false, false, false, false, false, false, false, rfl, rfl, fun h => (by cases h), rfl⟩
  case done =>
    rintro listed A W ⟨b0, b1, b2, b3, b4, b5, b6, b7, b8, b9, b10, b11, b12, b13, b14, rfl, rfl, hb, rfl⟩ hall
    obtain rfl : b14 = true := by simpa using hall 14 (by simp)
    have hb2 := hb rfl
    simp only [Bool.and_eq_true] at hb2
    obtain ⟨⟨⟨⟨⟨⟨⟨⟨⟨⟨⟨⟨⟨rfl, rfl⟩, rfl⟩, rfl⟩, rfl⟩, rfl⟩, rfl⟩, rfl⟩, rfl⟩, rfl⟩, rfl⟩, rfl⟩, rfl⟩, rfl⟩ := hb2
    rw [if_pos rfl]
    unfold lkT
    simp only [cb, if_true]
    go_wp2
    go_ret
    have hBn : Below W0.heap.size W0 (W0.alloc (.cells #[.int .u16 (withG v n), .int .u16 (withoutG (withG v n) o), .int .u16 (withG (withoutG (withG v n) o) f)] 75)) := (Below.refl _ _).alloc (Nat.le_refl _) _
    refine ⟨rfl, hB0.alloc (by omega) _, (hBn.cell (p := ⟨w.heap.size + 1, 0, none⟩) (by show w.heap.size + 1 < _; omega)).trans k1, (hBn.cell (p := ⟨w.heap.size, 2, none⟩) (by show w.heap.size < _; omega)).trans k2, ?_, ?_, by simp; omega⟩
    · rw [show w.heap.size + 2 = W0.heap.size by omega]; simp [go_sem]
    · rw [show w.heap.size + 2 = W0.heap.size by omega]; simp [go_sem]
  case step =>
    rintro listed A W ⟨b0, b1, b2, b3, b4, b5, b6, b7, b8, b9, b10, b11, b12, b13, b14, rfl, rfl, hb, rfl⟩ i hi
    obtain ⟨hun, oo, ho, hall⟩ := mem_ready.1 hi
    have hi15 : i < 15 := (Array.getElem?_eq_some_iff.1 ho).1
    match i, hi15 with
    | 0, _ =>
      obtain rfl : b0 = false := by simpa using hun
      simp at ho
      subst ho
      cases b14 with
      | true => simp at hb
      | false =>
        cases b13 with
        | true =>
          unfold wpOp lkT
          simp only [List.getElem?_toArray, List.getElem?_cons_zero, List.getElem?_cons_succ]
          rw [if_pos (show Region.wanted _ _ = true from rfl)]
          refine .inl ?_
          go_simp
          exact ⟨true, b1, b2, b3, b4, b5, b6, b7, b8, b9, b10, b11, b12, true, false, rfl, rfl, fun h => (by cases h), rfl⟩
        | false =>
          unfold wpOp lkT
          simp only [List.getElem?_toArray, List.getElem?_cons_zero, List.getElem?_cons_succ]
          rw [if_pos (show Region.wanted _ _ = true from rfl)]
          refine .inl ?_
          go_simp
          exact ⟨true, b1, b2, b3, b4, b5, b6, b7, b8, b9, b10, b11, b12, false, false, rfl, rfl, fun h => (by cases h), rfl⟩
    | 1, _ =>
      obtain rfl : b1 = false := by simpa using hun
      simp at ho
      subst ho
      cases b14 with
      | true => simp at hb
      | false =>
        cases b13 with
        | true =>
          unfold wpOp lkT
          simp only [List.getElem?_toArray, List.getElem?_cons_zero, List.getElem?_cons_succ]
          rw [if_pos (show Region.wanted _ _ = true from rfl)]
          refine .inl ?_
          go_simp
          exact ⟨b0, true, b2, b3, b4, b5, b6, b7, b8, b9, b10, b11, b12, true, false, rfl, rfl, fun h => (by cases h), rfl⟩
        | false =>
          unfold wpOp lkT
          simp only [List.getElem?_toArray, List.getElem?_cons_zero, List.getElem?_cons_succ]
          rw [if_pos (show Region.wanted _ _ = true from rfl)]
          refine .inl ?_
          go_simp
          exact ⟨b0, true, b2, b3, b4, b5, b6, b7, b8, b9, b10, b11, b12, false, false, rfl, rfl, fun h => (by cases h), rfl⟩
    | 2, _ =>
      obtain rfl : b2 = false := by simpa using hun
      simp at ho
      subst ho
      cases b14 with
      | true => simp at hb
      | false =>
        cases b13 with
        | true =>
          unfold wpOp lkT
          simp only [List.getElem?_toArray, List.getElem?_cons_zero, List.getElem?_cons_succ]
          rw [if_pos (show Region.wanted _ _ = true from rfl)]
          refine .inl ?_
          go_simp
          exact ⟨b0, b1, true, b3, b4, b5, b6, b7, b8, b9, b10, b11, b12, true, false, rfl, rfl, fun h => (by cases h), rfl⟩
        | false =>
          unfold wpOp lkT
          simp only [List.getElem?_toArray, List.getElem?_cons_zero, List.getElem?_cons_succ]
          rw [if_pos (show Region.wanted _ _ = true from rfl)]
          refine .inl ?_
          go_simp
          exact ⟨b0, b1, true, b3, b4, b5, b6, b7, b8, b9, b10, b11, b12, false, false, rfl, rfl, fun h => (by cases h), rfl⟩
    | 3, _ =>
      obtain rfl : b3 = false := by simpa using hun
      simp at ho
      subst ho
      simp [Region.binds] at hall
      obtain rfl := hall
      cases b14 with
      | true => simp at hb
      | false =>
        cases b13 with
        | true =>
          unfold wpOp lkT
          simp only [List.getElem?_toArray, List.getElem?_cons_zero, List.getElem?_cons_succ]
          rw [if_pos (show Region.wanted _ _ = true from rfl)]
          refine .inl ?_
          go_simp
          exact ⟨b0, b1, true, true, b4, b5, b6, b7, b8, b9, b10, b11, b12, true, false, rfl, rfl, fun h => (by cases h), rfl⟩
        | false =>
          unfold wpOp lkT
          simp only [List.getElem?_toArray, List.getElem?_cons_zero, List.getElem?_cons_succ]
          rw [if_pos (show Region.wanted _ _ = true from rfl)]
          refine .inl ?_
          go_simp
          exact ⟨b0, b1, true, true, b4, b5, b6, b7, b8, b9, b10, b11, b12, false, false, rfl, rfl, fun h => (by cases h), rfl⟩
    | 4, _ =>
      obtain rfl : b4 = false := by simpa using hun
      simp at ho
      subst ho
      simp [Region.binds] at hall
      obtain ⟨rfl, rfl⟩ := hall
      cases b14 with
      | true => simp at hb
      | false =>
        cases b13 with
        | true =>
          unfold wpOp lkT
          simp only [List.getElem?_toArray, List.getElem?_cons_zero, List.getElem?_cons_succ]
          rw [if_pos (show Region.wanted _ _ = true from rfl)]
          refine .inl ?_
          go_simp
          refine (without_core _ _ _).mono ?_
          rintro e w' ⟨rfl, rfl⟩
          exact ⟨b0, true, b2, true, true, b5, b6, b7, b8, b9, b10, b11, b12, true, false, rfl, rfl, fun h => (by cases h), rfl⟩
        | false =>
          unfold wpOp lkT
          simp only [List.getElem?_toArray, List.getElem?_cons_zero, List.getElem?_cons_succ]
          rw [if_pos (show Region.wanted _ _ = true from rfl)]
          refine .inl ?_
          go_simp
          refine (without_core _ _ _).mono ?_
          rintro e w' ⟨rfl, rfl⟩
          exact ⟨b0, true, b2, true, true, b5, b6, b7, b8, b9, b10, b11, b12, false, false, rfl, rfl, fun h => (by cases h), rfl⟩
    | 5, _ =>
      obtain rfl : b5 = false := by simpa using hun
      simp at ho
      subst ho
      cases b14 with
      | true => simp at hb
      | false =>
        cases b13 with
        | true =>
          unfold wpOp lkT
          simp only [List.getElem?_toArray, List.getElem?_cons_zero, List.getElem?_cons_succ]
          rw [if_pos (show Region.wanted _ _ = true from rfl)]
          refine .inl ?_
          go_simp
          exact ⟨b0, b1, b2, b3, b4, true, b6, b7, b8, b9, b10, b11, b12, true, false, rfl, rfl, fun h => (by cases h), rfl⟩
        | false =>
          unfold wpOp lkT
          simp only [List.getElem?_toArray, List.getElem?_cons_zero, List.getElem?_cons_succ]
          rw [if_pos (show Region.wanted _ _ = true from rfl)]
          refine .inl ?_
          go_simp
          exact ⟨b0, b1, b2, b3, b4, true, b6, b7, b8, b9, b10, b11, b12, false, false, rfl, rfl, fun h => (by cases h), rfl⟩
    | 6, _ =>
      obtain rfl : b6 = false := by simpa using hun
      simp at ho
      subst ho
      cases b14 with
      | true => simp at hb
      | false =>
        cases b13 with
        | true =>
          unfold wpOp lkT
          simp only [List.getElem?_toArray, List.getElem?_cons_zero, List.getElem?_cons_succ]
          rw [if_pos (show Region.wanted _ _ = true from rfl)]
          refine .inl ?_
          go_simp
          exact ⟨b0, b1, b2, b3, b4, b5, true, b7, b8, b9, b10, b11, b12, true, false, rfl, rfl, fun h => (by cases h), rfl⟩
        | false =>
          unfold wpOp lkT
          simp only [List.getElem?_toArray, List.getElem?_cons_zero, List.getElem?_cons_succ]
          rw [if_pos (show Region.wanted _ _ = true from rfl)]
          refine .inl ?_
          go_simp
          exact ⟨b0, b1, b2, b3, b4, b5, true, b7, b8, b9, b10, b11, b12, false, false, rfl, rfl, fun h => (by cases h), rfl⟩
    | 7, _ =>
      obtain rfl : b7 = false := by simpa using hun
      simp at ho
      subst ho
      simp [Region.binds] at hall
      obtain rfl := hall
      cases b14 with
      | true => simp at hb
      | false =>
        cases b13 with
        | true =>
          unfold wpOp lkT
          simp only [List.getElem?_toArray, List.getElem?_cons_zero, List.getElem?_cons_succ]
          rw [if_pos (show Region.wanted _ _ = true from rfl)]
          refine .inl ?_
          go_simp
          exact ⟨b0, b1, b2, b3, b4, b5, true, true, b8, b9, b10, b11, b12, true, false, rfl, rfl, fun h => (by cases h), rfl⟩
        | false =>
          unfold wpOp lkT
          simp only [List.getElem?_toArray, List.getElem?_cons_zero, List.getElem?_cons_succ]
          rw [if_pos (show Region.wanted _ _ = true from rfl)]
          refine .inl ?_
          go_simp
          exact ⟨b0, b1, b2, b3, b4, b5, true, true, b8, b9, b10, b11, b12, false, false, rfl, rfl, fun h => (by cases h), rfl⟩
    | 8, _ =>
      obtain rfl : b8 = false := by simpa using hun
      simp at ho
      subst ho
      simp [Region.binds] at hall
      obtain ⟨rfl, rfl, rfl⟩ := hall
      cases b14 with
      | true => simp at hb
      | false =>
        cases b13 with
        | true =>
          unfold wpOp lkT
          simp only [List.getElem?_toArray, List.getElem?_cons_zero, List.getElem?_cons_succ]
          rw [if_pos (show Region.wanted _ _ = true from rfl)]
          refine .inl ?_
          go_simp
          refine (without_core _ _ _).mono ?_
          rintro e w' ⟨rfl, rfl⟩
          exact ⟨b0, b1, b2, b3, true, true, b6, true, true, b9, b10, b11, b12, true, false, rfl, rfl, fun h => (by cases h), rfl⟩
        | false =>
          unfold wpOp lkT
          simp only [List.getElem?_toArray, List.getElem?_cons_zero, List.getElem?_cons_succ]
          rw [if_pos (show Region.wanted _ _ = true from rfl)]
          refine .inl ?_
          go_simp
          refine (without_core _ _ _).mono ?_
          rintro e w' ⟨rfl, rfl⟩
          exact ⟨b0, b1, b2, b3, true, true, b6, true, true, b9, b10, b11, b12, false, false, rfl, rfl, fun h => (by cases h), rfl⟩
    | 9, _ =>
      obtain rfl : b9 = false := by simpa using hun
      simp at ho
      subst ho
      cases b14 with
      | true => simp at hb
      | false =>
        cases b13 with
        | true =>
          unfold wpOp lkT
          simp only [List.getElem?_toArray, List.getElem?_cons_zero, List.getElem?_cons_succ]
          rw [if_pos (show Region.wanted _ _ = true from rfl)]
          refine .inl ?_
          go_simp
          exact ⟨b0, b1, b2, b3, b4, b5, b6, b7, b8, true, b10, b11, b12, true, false, rfl, rfl, fun h => (by cases h), rfl⟩
        | false =>
          unfold wpOp lkT
          simp only [List.getElem?_toArray, List.getElem?_cons_zero, List.getElem?_cons_succ]
          rw [if_pos (show Region.wanted _ _ = true from rfl)]
          refine .inl ?_
          go_simp
          exact ⟨b0, b1, b2, b3, b4, b5, b6, b7, b8, true, b10, b11, b12, false, false, rfl, rfl, fun h => (by cases h), rfl⟩
    | 10, _ =>
      obtain rfl : b10 = false := by simpa using hun
      simp at ho
      subst ho
      simp [Region.binds] at hall
      obtain rfl := hall
      cases b14 with
      | true => simp at hb
      | false =>
        cases b13 with
        | true =>
          unfold wpOp lkT
          simp only [List.getElem?_toArray, List.getElem?_cons_zero, List.getElem?_cons_succ]
          rw [if_pos (show Region.wanted _ _ = true from rfl)]
          refine .inl ?_
          go_simp
          exact ⟨b0, b1, b2, b3, b4, b5, b6, b7, b8, true, true, b11, b12, true, false, rfl, rfl, fun h => (by cases h), rfl⟩
        | false =>
          unfold wpOp lkT
          simp only [List.getElem?_toArray, List.getElem?_cons_zero, List.getElem?_cons_succ]
          rw [if_pos (show Region.wanted _ _ = true from rfl)]
          refine .inl ?_
          go_simp
          exact ⟨b0, b1, b2, b3, b4, b5, b6, b7, b8, true, true, b11, b12, false, false, rfl, rfl, fun h => (by cases h), rfl⟩
    | 11, _ =>
      obtain rfl : b11 = false := by simpa using hun
      simp at ho
      subst ho
      simp [Region.binds] at hall
      obtain ⟨rfl, rfl, _⟩ := hall
      cases b14 with
      | true => simp at hb
      | false =>
        cases b13 with
        | true =>
          unfold wpOp lkT
          simp only [List.getElem?_toArray, List.getElem?_cons_zero, List.getElem?_cons_succ]
          rw [if_pos (show Region.wanted _ _ = true from rfl)]
          refine .inl ?_
          go_simp
          refine (with_core _ _ _).mono ?_
          rintro e w' ⟨rfl, rfl⟩
          exact ⟨b0, b1, b2, b3, b4, b5, b6, b7, true, b9, true, true, b12, true, false, rfl, rfl, fun h => (by cases h), rfl⟩
        | false =>
          unfold wpOp lkT
          simp only [List.getElem?_toArray, List.getElem?_cons_zero, List.getElem?_cons_succ]
          rw [if_pos (show Region.wanted _ _ = true from rfl)]
          refine .inl ?_
          go_simp
          refine (with_core _ _ _).mono ?_
          rintro e w' ⟨rfl, rfl⟩
          exact ⟨b0, b1, b2, b3, b4, b5, b6, b7, true, b9, true, true, b12, false, false, rfl, rfl, fun h => (by cases h), rfl⟩
    | 12, _ =>
      obtain rfl : b12 = false := by simpa using hun
      simp at ho
      subst ho
      simp [Region.binds] at hall
      obtain ⟨rfl, rfl, rfl⟩ := hall
      cases b14 with
      | true => simp at hb
      | false =>
        cases b13 with
        | true =>
          unfold wpOp lkT
          simp only [List.getElem?_toArray, List.getElem?_cons_zero, List.getElem?_cons_succ]
          rw [if_pos (show Region.wanted _ _ = true from rfl)]
          refine .inl ?_
          go_simp
          exact ⟨true, b1, b2, b3, true, b5, b6, b7, b8, b9, b10, true, true, true, false, rfl, rfl, fun h => (by cases h), rfl⟩
        | false =>
          unfold wpOp lkT
          simp only [List.getElem?_toArray, List.getElem?_cons_zero, List.getElem?_cons_succ]
          rw [if_pos (show Region.wanted _ _ = true from rfl)]
          refine .inl ?_
          go_simp
          exact ⟨true, b1, b2, b3, true, b5, b6, b7, b8, b9, b10, true, true, false, false, rfl, rfl, fun h => (by cases h), rfl⟩
    | 13, _ =>
      obtain rfl : b13 = false := by simpa using hun
      simp at ho
      subst ho
      cases b14 with
      | true => simp at hb
      | false =>
        unfold wpOp lkT
        simp only [List.getElem?_toArray, List.getElem?_cons_zero, List.getElem?_cons_succ]
        rw [if_pos (show Region.wanted _ _ = true from rfl)]
        refine .inl ?_
        go_simp
        exact ⟨b0, b1, b2, b3, b4, b5, b6, b7, b8, b9, b10, b11, b12, true, false, rfl, rfl, fun h => (by cases h), rfl⟩
    | 14, _ =>
      skip
      simp at ho
      subst ho
      simp [Region.binds] at hall
      obtain ⟨q0, q1, q2, q3, q4, q5, q6, q7, q8, q9, q10, q11, q12, q13, q14, q15, q16⟩ := hall
      subst q0 q1 q2 q3 q4 q5 q6 q7 q8 q9 q10 q11 q12 q13
      cases b14 with
      | true => simp at hun
      | false =>
        unfold wpOp lkT
        simp only [List.getElem?_toArray, List.getElem?_cons_zero, List.getElem?_cons_succ]
        rw [if_pos (show Region.wanted _ _ = true from rfl)]
        refine .inl ?_
        go_simp
        exact ⟨true, true, true, true, true, true, true, true, true, true, true, true, true, true, true, rfl, rfl, fun _ => rfl, rfl⟩
end Go.Proofs.Ytcfloaplbmpoaaa.Hand
