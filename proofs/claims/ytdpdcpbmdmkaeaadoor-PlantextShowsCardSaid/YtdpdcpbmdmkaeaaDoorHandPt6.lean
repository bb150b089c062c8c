/- The contracts of plantext.Value, Names, Show (printed by wip/gen/mkpt6.py). -/
import Derived.Test.YtdpdcpbmdmkaeaaDoorHandPt5
set_option linter.unusedVariables false
set_option linter.unusedSimpArgs false
namespace Go.Proofs.YtdpdcpbmdmkaeaaDoor.Hand
set_option maxRecDepth 100000
open Go.RowKit Go.Shelf Go.Proofs.YtdpdcpbmdmkaeaaDoor.PA Go.Proofs.YtdpdcpbmdmkaeaaDoorW.PrintWords Go.Proofs.YtdpdcpbmdmkaeaaDoorW.PrintMore

def plantext_Names.f : Option (List ByteArray) := some namesL
theorem plantext_Names.callsAt (r : List ByteArray) (w : World) (hm : FieldsAt w) (h : plantext_Names.f = some r) : Calls Tryd.prog 6 #[] w fun e w' => ∃ v0, e = .returned v0 ∧ Kd.R Kd.string 9 w' w.heap.size (fun _ => True) v0 r ∧ Below w.heap.size w w' :=
  (names_core w hm).mono fun e w' ⟨he, hw⟩ => ⟨.slice (some ⟨w.heap.size, 0, none⟩) 16 16, he, by
    rw [hw, ← Option.some.inj h]
    exact Kd.R_of_own (World.ownsRow_lit w namesC 16 (Nat.le_refl _) (by decide) rfl) (fun _ _ => trivial), by rw [hw]; exact (Below.refl _ _).alloc (Nat.le_refl _) _⟩
def plantext_Value.f (a0_0 a0_1 a0_2 a0_3 a0_4 a0_5 a0_6 a0_7 a0_8 a0_9 a0_10 a0_11 a0_12 a0_13 a0_14 a0_15 : Int) (a1 : ByteArray) : Option (Int × Bool) := some (valN [a0_0, a0_1, a0_2, a0_3, a0_4, a0_5, a0_6, a0_7, a0_8, a0_9, a0_10, a0_11, a0_12, a0_13, a0_14, a0_15] a1 16)
theorem plantext_Value.callsAt (a0_0 a0_1 a0_2 a0_3 a0_4 a0_5 a0_6 a0_7 a0_8 a0_9 a0_10 a0_11 a0_12 a0_13 a0_14 a0_15 : Int) (a1 : ByteArray) (r1 : Int) (r2 : Bool) (w : World) (hm : FieldsAt w) (h : plantext_Value.f a0_0 a0_1 a0_2 a0_3 a0_4 a0_5 a0_6 a0_7 a0_8 a0_9 a0_10 a0_11 a0_12 a0_13 a0_14 a0_15 a1 = some (r1, r2)) : Calls Tryd.prog 4 #[.agg #[.int .i64 a0_0, .int .i64 a0_1, .int .i64 a0_2, .int .i64 a0_3, .int .i64 a0_4, .int .i64 a0_5, .int .i64 a0_6, .int .i64 a0_7, .int .i64 a0_8, .int .i64 a0_9, .int .i64 a0_10, .int .i64 a0_11, .int .i64 a0_12, .int .i64 a0_13, .int .i64 a0_14, .int .i64 a0_15], .string a1] w fun e w' => e = .returned (.tuple #[.int .i64 r1, .bool r2]) ∧ Below w.heap.size w w' :=
  (value_core a0_0 a0_1 a0_2 a0_3 a0_4 a0_5 a0_6 a0_7 a0_8 a0_9 a0_10 a0_11 a0_12 a0_13 a0_14 a0_15 a1 w hm).mono fun e w' ⟨he, hb⟩ => ⟨by rw [he, show valN [a0_0, a0_1, a0_2, a0_3, a0_4, a0_5, a0_6, a0_7, a0_8, a0_9, a0_10, a0_11, a0_12, a0_13, a0_14, a0_15] a1 16 = (r1, r2) from Option.some.inj h], hb⟩
def plantext_Show.f (a0_0 a0_1 a0_2 a0_3 a0_4 a0_5 a0_6 a0_7 a0_8 a0_9 a0_10 a0_11 a0_12 a0_13 a0_14 a0_15 : Int) : Option ByteArray := if ∀ x ∈ [a0_0, a0_1, a0_2, a0_3, a0_4, a0_5, a0_6, a0_7, a0_8, a0_9, a0_10, a0_11, a0_12, a0_13, a0_14, a0_15], (Lit.int .i64 x).wf = true then some ⟨(textL [a0_0, a0_1, a0_2, a0_3, a0_4, a0_5, a0_6, a0_7, a0_8, a0_9, a0_10, a0_11, a0_12, a0_13, a0_14, a0_15] 16).toArray⟩ else none
theorem plantext_Show.callsAt (a0_0 a0_1 a0_2 a0_3 a0_4 a0_5 a0_6 a0_7 a0_8 a0_9 a0_10 a0_11 a0_12 a0_13 a0_14 a0_15 : Int) (r : ByteArray) (w : World) (hm : FieldsAt w) (h : plantext_Show.f a0_0 a0_1 a0_2 a0_3 a0_4 a0_5 a0_6 a0_7 a0_8 a0_9 a0_10 a0_11 a0_12 a0_13 a0_14 a0_15 = some r) : Calls Tryd.prog 8 #[.agg #[.int .i64 a0_0, .int .i64 a0_1, .int .i64 a0_2, .int .i64 a0_3, .int .i64 a0_4, .int .i64 a0_5, .int .i64 a0_6, .int .i64 a0_7, .int .i64 a0_8, .int .i64 a0_9, .int .i64 a0_10, .int .i64 a0_11, .int .i64 a0_12, .int .i64 a0_13, .int .i64 a0_14, .int .i64 a0_15]] w fun e w' => e = .returned (.string r) ∧ Below w.heap.size w w' := by
  unfold plantext_Show.f at h
  split at h
  · rename_i hN
    exact (show_core a0_0 a0_1 a0_2 a0_3 a0_4 a0_5 a0_6 a0_7 a0_8 a0_9 a0_10 a0_11 a0_12 a0_13 a0_14 a0_15 hN w hm).mono fun e w' ⟨he, hb⟩ => ⟨by rw [he, Option.some.inj h], hb⟩
  · cases h
end Go.Proofs.YtdpdcpbmdmkaeaaDoor.Hand
