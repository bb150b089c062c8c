/- plantext's fields, by hand (printed by wip/gen/mkpt1.py): the names, and the closures that get (or set) a number. -/
import Derived.Test.YtdpdcpbmdmkaeaaDoorHandFields
import Derived.Test.YtdpdcpbmdmkaeaaDoorPAx1
import Derived.Lib.SmallJoins
import Derived.Lib.ItoaNum
import Derived.Shelf.Strings.SlTrimAscii
import Derived.WalkKit
set_option linter.unusedVariables false
set_option linter.unusedSimpArgs false
namespace Go.Proofs.YtdpdcpbmdmkaeaaDoor.Hand
set_option maxRecDepth 100000
open Go.RowKit Go.Shelf Go.Proofs.YtdpdcpbmdmkaeaaDoor.PA Go.Proofs.YtdpdcpbmdmkaeaaDoorW.PrintWords Go.Proofs.YtdpdcpbmdmkaeaaDoorW.PrintMore
attribute [local go_sem] Oper.semAt_some

/-- The library's tables are as they are laid. -/
structure FieldsAt (w : World) : Prop where
  sp : Lib.TabIs Tryd.prog w "strings.asciiSpace" .u8 Lib.asciiSpaceTab
  pw : Lib.TabIs Tryd.prog w "internal/strconv.uint64pow10" .u64 Lib.pow10Tab
theorem FieldsAt.below {w w' : World} {B : Nat} (h : FieldsAt w) (hb : Below B w w') (hB : w.heap.size ≤ B) : FieldsAt w' := ⟨Joins.tab_stays (g := 0) (by kernel_rfl) h.sp hb hB, Joins.tab_stays (g := 2) (by kernel_rfl) h.pw hb hB⟩
@[reducible] def namesC : Array Value := #[.string ⟨#[110, 111, 100, 101, 115]⟩, .string ⟨#[107]⟩, .string ⟨#[115, 108, 111, 116]⟩, .string ⟨#[115, 101, 110, 100, 111, 102, 102]⟩, .string ⟨#[119, 105, 110, 100, 111, 119]⟩, .string ⟨#[97, 105, 114]⟩, .string ⟨#[100, 109, 105, 110]⟩, .string ⟨#[100, 109, 97, 120]⟩, .string ⟨#[114, 104, 111]⟩, .string ⟨#[112, 105]⟩, .string ⟨#[99, 97, 112]⟩, .string ⟨#[100, 101, 108, 116, 97]⟩, .string ⟨#[113, 117, 101, 117, 101]⟩, .string ⟨#[98, 117, 114, 115, 116]⟩, .string ⟨#[112, 97, 121, 108, 111, 97, 100]⟩, .string ⟨#[104, 111, 114, 105, 122, 111, 110]⟩]
def namesL : List ByteArray := [⟨#[110, 111, 100, 101, 115]⟩, ⟨#[107]⟩, ⟨#[115, 108, 111, 116]⟩, ⟨#[115, 101, 110, 100, 111, 102, 102]⟩, ⟨#[119, 105, 110, 100, 111, 119]⟩, ⟨#[97, 105, 114]⟩, ⟨#[100, 109, 105, 110]⟩, ⟨#[100, 109, 97, 120]⟩, ⟨#[114, 104, 111]⟩, ⟨#[112, 105]⟩, ⟨#[99, 97, 112]⟩, ⟨#[100, 101, 108, 116, 97]⟩, ⟨#[113, 117, 101, 117, 101]⟩, ⟨#[98, 117, 114, 115, 116]⟩, ⟨#[112, 97, 121, 108, 111, 97, 100]⟩, ⟨#[104, 111, 114, 105, 122, 111, 110]⟩]
theorem fields_core (w : World) (hm : FieldsAt w) : Calls Tryd.prog 12 #[.string ⟨#[110, 111, 100, 101, 115, 32, 107, 32, 115, 108, 111, 116, 32, 115, 101, 110, 100, 111, 102, 102, 32, 119, 105, 110, 100, 111, 119, 32, 97, 105, 114, 32, 100, 109, 105, 110, 32, 100, 109, 97, 120, 32, 114, 104, 111, 32, 112, 105, 32, 99, 97, 112, 32, 100, 101, 108, 116, 97, 32, 113, 117, 101, 117, 101, 32, 98, 117, 114, 115, 116, 32, 112, 97, 121, 108, 111, 97, 100, 32, 104, 111, 114, 105, 122, 111, 110]⟩] w fun e w' => e = .returned (.slice (some ⟨w.heap.size, 0, none⟩) 16 16) ∧ w' = w.alloc (.cells namesC 9 (0, 0)) :=
  (Any.strings_Fields_laid laysFields ⟨#[110, 111, 100, 101, 115, 32, 107, 32, 115, 108, 111, 116, 32, 115, 101, 110, 100, 111, 102, 102, 32, 119, 105, 110, 100, 111, 119, 32, 97, 105, 114, 32, 100, 109, 105, 110, 32, 100, 109, 97, 120, 32, 114, 104, 111, 32, 112, 105, 32, 99, 97, 112, 32, 100, 101, 108, 116, 97, 32, 113, 117, 101, 117, 101, 32, 98, 117, 114, 115, 116, 32, 112, 97, 121, 108, 111, 97, 100, 32, 104, 111, 114, 105, 122, 111, 110]⟩ w (by decide) (ascii_of_all (by decide)) hm.sp).mono fun e w' ⟨h1, h2⟩ => ⟨h1, h2⟩
theorem names_core (w : World) (hm : FieldsAt w) : Calls Tryd.prog 6 #[] w fun e w' => e = .returned (.slice (some ⟨w.heap.size, 0, none⟩) 16 16) ∧ w' = w.alloc (.cells namesC 9 (0, 0)) := by
  go_enter Tryd.func6, Tryd.ntmps6
  go_wp2_with (go_at_call 12; refine (fields_core _ hm).mono ?_; rintro e w' ⟨rfl, rfl⟩)
  go_ret
  exact ⟨rfl, rfl⟩
theorem whole_core (F : FuncId) (w : World) : Calls Tryd.prog 17 #[.func (.func F) #[] #[]] w fun e w' => e = .returned (.func (.func 39) #[] #[.pointer (some ⟨w.heap.size, 0, none⟩)]) ∧ w' = w.alloc (.cells #[.func (.func F) #[] #[]] 52 (0, 0)) := by
  go_enter Tryd.func17, Tryd.ntmps17
  go_wp2
  go_ret
  exact ⟨rfl, rfl⟩
theorem long_core (F : FuncId) (w : World) : Calls Tryd.prog 20 #[.func (.func F) #[] #[]] w fun e w' => e = .returned (.func (.func 40) #[] #[.pointer (some ⟨w.heap.size, 0, none⟩)]) ∧ w' = w.alloc (.cells #[.func (.func F) #[] #[]] 55 (0, 0)) := by
  go_enter Tryd.func20, Tryd.ntmps20
  go_wp2
  go_ret
  exact ⟨rfl, rfl⟩
/-- The function that tells where the number in place i lies. -/
def atF : Nat → FuncId
  | 0 => 18
  | 1 => 19
  | 2 => 21
  | 3 => 22
  | 4 => 23
  | 5 => 24
  | 6 => 25
  | 7 => 26
  | 8 => 27
  | 9 => 28
  | 10 => 29
  | 11 => 30
  | 12 => 31
  | 13 => 32
  | 14 => 33
  | _ => 34
def cloF : Nat → FuncId
  | 0 => 39
  | 1 => 39
  | 2 => 40
  | 3 => 40
  | 4 => 40
  | 5 => 40
  | 6 => 40
  | 7 => 40
  | 8 => 40
  | 9 => 40
  | 10 => 40
  | 11 => 40
  | 12 => 39
  | 13 => 39
  | 14 => 39
  | _ => 40
/-- The closure in place i; its captured variable lies in block b + i. -/
def cloV (b i : Nat) : Value := .func (.func (cloF i)) #[] #[.pointer (some ⟨b + i, 0, none⟩)]
/-- The world with all the closures' variables. -/
def boxed (w : World) : World := ((((((((((((((((w.alloc (.cells #[.func (.func 18) #[] #[]] 52 (0, 0))).alloc (.cells #[.func (.func 19) #[] #[]] 52 (0, 0))).alloc (.cells #[.func (.func 21) #[] #[]] 55 (0, 0))).alloc (.cells #[.func (.func 22) #[] #[]] 55 (0, 0))).alloc (.cells #[.func (.func 23) #[] #[]] 55 (0, 0))).alloc (.cells #[.func (.func 24) #[] #[]] 55 (0, 0))).alloc (.cells #[.func (.func 25) #[] #[]] 55 (0, 0))).alloc (.cells #[.func (.func 26) #[] #[]] 55 (0, 0))).alloc (.cells #[.func (.func 27) #[] #[]] 55 (0, 0))).alloc (.cells #[.func (.func 28) #[] #[]] 55 (0, 0))).alloc (.cells #[.func (.func 29) #[] #[]] 55 (0, 0))).alloc (.cells #[.func (.func 30) #[] #[]] 55 (0, 0))).alloc (.cells #[.func (.func 31) #[] #[]] 52 (0, 0))).alloc (.cells #[.func (.func 32) #[] #[]] 52 (0, 0))).alloc (.cells #[.func (.func 33) #[] #[]] 52 (0, 0))).alloc (.cells #[.func (.func 34) #[] #[]] 55 (0, 0)))
theorem boxed_size (w : World) : (boxed w).heap.size = w.heap.size + 16 := by simp [boxed]
theorem boxed_below (w : World) : Below w.heap.size w (boxed w) := by
  unfold boxed
  refine Below.alloc (Below.alloc (Below.alloc (Below.alloc (Below.alloc (Below.alloc (Below.alloc (Below.alloc (Below.alloc (Below.alloc (Below.alloc (Below.alloc (Below.alloc (Below.alloc (Below.alloc (Below.alloc (Below.refl _ _) (by simp; try omega) _) (by simp; try omega) _) (by simp; try omega) _) (by simp; try omega) _) (by simp; try omega) _) (by simp; try omega) _) (by simp; try omega) _) (by simp; try omega) _) (by simp; try omega) _) (by simp; try omega) _) (by simp; try omega) _) (by simp; try omega) _) (by simp; try omega) _) (by simp; try omega) _) (by simp; try omega) _) (by simp; try omega) _
theorem boxed_at (w : World) (i : Nat) (hi : i < 16) : (boxed w).cell? ⟨w.heap.size + i, 0, none⟩ = some (.func (.func (atF i)) #[] #[]) := by
  match i, hi with
  | 0, _ => simp [boxed, atF, go_sem]
  | 1, _ => simp [boxed, atF, go_sem]
  | 2, _ => simp [boxed, atF, go_sem]
  | 3, _ => simp [boxed, atF, go_sem]
  | 4, _ => simp [boxed, atF, go_sem]
  | 5, _ => simp [boxed, atF, go_sem]
  | 6, _ => simp [boxed, atF, go_sem]
  | 7, _ => simp [boxed, atF, go_sem]
  | 8, _ => simp [boxed, atF, go_sem]
  | 9, _ => simp [boxed, atF, go_sem]
  | 10, _ => simp [boxed, atF, go_sem]
  | 11, _ => simp [boxed, atF, go_sem]
  | 12, _ => simp [boxed, atF, go_sem]
  | 13, _ => simp [boxed, atF, go_sem]
  | 14, _ => simp [boxed, atF, go_sem]
  | 15, _ => simp [boxed, atF, go_sem]
  | i + 16, hi => omega
end Go.Proofs.YtdpdcpbmdmkaeaaDoor.Hand
