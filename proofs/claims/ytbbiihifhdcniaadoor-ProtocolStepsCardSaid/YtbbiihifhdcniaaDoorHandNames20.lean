/- The layer's names, by hand: Name, Parse; they read the library's table of white space. -/
import Derived.Test.YtbbiihifhdcniaaDoorHandFields
import Derived.Test.YtbbiihifhdcniaaDoorHandWay3
import Derived.Test.YtbbiihifhdcniaaDoorPBx1
import Derived.Lib.SmallJoins
import Derived.Shelf.Strings.SlTrimAscii
import Derived.WalkKit
set_option linter.unusedVariables false
set_option linter.unusedSimpArgs false
namespace Go.Proofs.YtbbiihifhdcniaaDoor.Hand
set_option maxRecDepth 100000
open Go.RowKit Go.Shelf Go.Proofs.YtbbiihifhdcniaaDoor.PB Go.Proofs.YtbbiihifhdcniaaDoorW.PrintWords Go.Proofs.YtbbiihifhdcniaaDoorW.PrintMore

/-- The library's table of white space is as it is laid. -/
def FieldsAt (w : World) : Prop := Lib.TabIs Tryd.prog w "strings.asciiSpace" .u8 Lib.asciiSpaceTab
theorem FieldsAt.below {w w' : World} {B : Nat} (h : FieldsAt w) (hb : Below B w w') (hB : w.heap.size ≤ B) : FieldsAt w' := Joins.tab_stays (g := 0) (by kernel_rfl) h hb hB
@[reducible] def namesC : Array Value := #[.string ⟨#[111, 102, 102]⟩, .string ⟨#[105, 110, 105, 116]⟩, .string ⟨#[108, 105, 115, 116, 101, 110]⟩, .string ⟨#[99, 111, 108, 100]⟩, .string ⟨#[112, 97, 115, 115, 105, 118, 101]⟩, .string ⟨#[97, 99, 116, 105, 118, 101]⟩, .string ⟨#[102, 114, 111, 122, 101, 110]⟩]
def namesL : List ByteArray := [⟨#[111, 102, 102]⟩, ⟨#[105, 110, 105, 116]⟩, ⟨#[108, 105, 115, 116, 101, 110]⟩, ⟨#[99, 111, 108, 100]⟩, ⟨#[112, 97, 115, 115, 105, 118, 101]⟩, ⟨#[97, 99, 116, 105, 118, 101]⟩, ⟨#[102, 114, 111, 122, 101, 110]⟩]
theorem fields_core (w : World) (hm : FieldsAt w) : Calls Tryd.prog 23 #[.string ⟨#[111, 102, 102, 32, 105, 110, 105, 116, 32, 108, 105, 115, 116, 101, 110, 32, 99, 111, 108, 100, 32, 112, 97, 115, 115, 105, 118, 101, 32, 97, 99, 116, 105, 118, 101, 32, 102, 114, 111, 122, 101, 110]⟩] w fun e w' => e = .returned (.slice (some ⟨w.heap.size, 0, none⟩) 7 7) ∧ w' = w.alloc (.cells namesC 9 (0, 0)) :=
  (Any.strings_Fields_laid laysFields ⟨#[111, 102, 102, 32, 105, 110, 105, 116, 32, 108, 105, 115, 116, 101, 110, 32, 99, 111, 108, 100, 32, 112, 97, 115, 115, 105, 118, 101, 32, 97, 99, 116, 105, 118, 101, 32, 102, 114, 111, 122, 101, 110]⟩ w (by decide) (ascii_of_all (by decide)) hm).mono fun e w' ⟨h1, h2⟩ => ⟨h1, h2⟩
def nameB (n : Int) : ByteArray := if 0 ≤ n ∧ n ≤ 6 then namesL.getD n.toNat ⟨#[]⟩ else ⟨#[]⟩
theorem name_core (n : Int) (w : World) (hm : FieldsAt w) : Calls Tryd.prog 18 #[.int .i64 n] w fun e w' => e = .returned (.string (nameB n)) ∧ Below w.heap.size w w' := by
  by_cases h : 0 ≤ n ∧ n ≤ 6
  · have hn : n = 0 ∨ n = 1 ∨ n = 2 ∨ n = 3 ∨ n = 4 ∨ n = 5 ∨ n = 6 := by omega
    rcases hn with rfl | rfl | rfl | rfl | rfl | rfl | rfl <;> (
      go_enter Tryd.func18, Tryd.ntmps18
      go_wp2_with (first | (go_at_call 24; refine (state_yes _ _ (by decide) (by decide)).mono ?_; rintro e w' ⟨rfl, rfl⟩) | (go_at_call 23; refine (fields_core _ hm).mono ?_; rintro e w' ⟨rfl, rfl⟩))
      go_ret
      exact ⟨rfl, (Below.refl _ _).alloc (Nat.le_refl _) _⟩)
  · have hn : n < 0 ∨ 6 < n := by omega
    have HE : Hid (nameB n = ⟨#[]⟩) := Lib.hid (by unfold nameB; rw [if_neg h])
    go_enter Tryd.func18, Tryd.ntmps18
    go_wp2_with (go_at_call 24; refine (state_no _ _ hn).mono ?_; rintro e w' ⟨rfl, rfl⟩)
    go_ret
    exact ⟨by rw [HE.out]; rfl, Below.refl _ _⟩
def protocol_Name.f (a0 : Int) : Option ByteArray := some (nameB a0)
theorem protocol_Name.callsAt (a0 : Int) (r : ByteArray) (w : World) (hm : FieldsAt w) (h : protocol_Name.f a0 = some r) : Calls Tryd.prog 18 #[.int .i64 a0] w fun e w' => e = .returned (.string r) ∧ Below w.heap.size w w' :=
  (name_core a0 w hm).mono fun e w' ⟨he, hb⟩ => ⟨by rw [he, Option.some.inj h], hb⟩
/-- The place of a name; -1: it is none. -/
def idxN (s : ByteArray) : Int := if s.toList = (⟨#[111, 102, 102]⟩ : ByteArray).toList then 0 else (if s.toList = (⟨#[105, 110, 105, 116]⟩ : ByteArray).toList then 1 else (if s.toList = (⟨#[108, 105, 115, 116, 101, 110]⟩ : ByteArray).toList then 2 else (if s.toList = (⟨#[99, 111, 108, 100]⟩ : ByteArray).toList then 3 else (if s.toList = (⟨#[112, 97, 115, 115, 105, 118, 101]⟩ : ByteArray).toList then 4 else (if s.toList = (⟨#[97, 99, 116, 105, 118, 101]⟩ : ByteArray).toList then 5 else (if s.toList = (⟨#[102, 114, 111, 122, 101, 110]⟩ : ByteArray).toList then 6 else -1))))))
theorem idx_step (s t : ByteArray) (k : Nat) (i : Int) (h0 : 0 ≤ i) (h1 : i < 7) (ht : rdOf ByteArray.empty namesL i = t) : slices_Index_string_string.l0 (k + 1) namesL s 7 i = if s.toList = t.toList then some i else slices_Index_string_string.l0 k namesL s 7 (i + 1) := by
  have hw : wrap64 (i + 1) = i + 1 := by unfold wrap64; omega
  simp only [slices_Index_string_string.l0]
  rw [if_pos h1, if_pos h0, if_pos (show i < (namesL.length : Int) from h1), ht, hw]
theorem idx_f (s : ByteArray) : slices_Index_string_string.f 8 namesL s = some (idxN s) := by
  show slices_Index_string_string.l0 8 namesL s 7 0 = _
  rw [idx_step s (⟨#[111, 102, 102]⟩ : ByteArray) 7 0 (by decide) (by decide) rfl, idx_step s (⟨#[105, 110, 105, 116]⟩ : ByteArray) 6 (0 + 1) (by decide) (by decide) rfl, idx_step s (⟨#[108, 105, 115, 116, 101, 110]⟩ : ByteArray) 5 (0 + 1 + 1) (by decide) (by decide) rfl, idx_step s (⟨#[99, 111, 108, 100]⟩ : ByteArray) 4 (0 + 1 + 1 + 1) (by decide) (by decide) rfl, idx_step s (⟨#[112, 97, 115, 115, 105, 118, 101]⟩ : ByteArray) 3 (0 + 1 + 1 + 1 + 1) (by decide) (by decide) rfl, idx_step s (⟨#[97, 99, 116, 105, 118, 101]⟩ : ByteArray) 2 (0 + 1 + 1 + 1 + 1 + 1) (by decide) (by decide) rfl, idx_step s (⟨#[102, 114, 111, 122, 101, 110]⟩ : ByteArray) 1 (0 + 1 + 1 + 1 + 1 + 1 + 1) (by decide) (by decide) rfl]
  have he : slices_Index_string_string.l0 1 namesL s 7 (0 + 1 + 1 + 1 + 1 + 1 + 1 + 1) = some (-1) := rfl
  rw [he]
  simp only [idxN, apply_ite some]
  rfl
theorem idx_bd (s : ByteArray) : -1 ≤ idxN s ∧ idxN s ≤ 6 := by
  unfold idxN
  repeat' split
  all_goals decide
theorem names_reads (w : World) : Kd.C Kd.string (w.alloc (.cells namesC 9 (0, 0))) (some ⟨w.heap.size, 0, none⟩) 7 namesL := by
  refine Kd.C_of_reads (d := (⟨#[]⟩ : ByteArray)) ⟨rfl, by decide, fun _ => ⟨_, rfl, fun j hj => ?_⟩⟩
  have hb := heap_alloc_new w (.cells namesC 9 (0, 0))
  have hc := blk_cell hb j
  have hj7 : j = 0 ∨ j = 1 ∨ j = 2 ∨ j = 3 ∨ j = 4 ∨ j = 5 ∨ j = 6 := by omega
  rcases hj7 with rfl | rfl | rfl | rfl | rfl | rfl | rfl <;> exact hc
def parseR (s : ByteArray) : Int × Int := if idxN s < 0 then (0, 200) else (idxN s, 0)
theorem parse_core (s : ByteArray) (w : World) (hm : FieldsAt w) : Calls Tryd.prog 9 #[.string s] w fun e w' => e = .returned (.tuple #[.int .i64 (parseR s).1, .int .i64 (parseR s).2]) ∧ Below w.heap.size w w' := by
  have hI := idx_f s
  have hb := idx_bd s
  have HE : parseR s = if idxN s < 0 then (0, 200) else (idxN s, 0) := rfl
  generalize idxN s = x at hI hb HE
  have HX := Aside0.mk hI
  clear hI
  by_cases hx : x < 0
  · rw [if_pos hx] at HE
    have HE2 := Aside0.mk HE
    clear HE
    go_enter Tryd.func9, Tryd.ntmps9
    go_wp2_with (first | (go_at_call 23; refine (fields_core _ hm).mono ?_; rintro e w' ⟨rfl, rfl⟩) | (go_at_call 22; refine (slices_Index_string_string.calls 8 _ 7 namesL s x _ (names_reads w) (Nat.le_refl _) HX.out).mono ?_; rintro e w2 ⟨rfl, hbb⟩))
    exact bodyPost_ret (v := .tuple #[.int .i64 0, .int .i64 200]) (by simp [results, Tryd.results9, go_sem]) rfl ⟨by rw [HE2.out], below_step ((Below.refl _ _).alloc (Nat.le_refl _) _) hbb.below⟩
  · rw [if_neg hx] at HE
    have HE2 := Aside0.mk HE
    clear HE
    go_enter Tryd.func9, Tryd.ntmps9
    go_wp2_with (first | (go_at_call 23; refine (fields_core _ hm).mono ?_; rintro e w' ⟨rfl, rfl⟩) | (go_at_call 22; refine (slices_Index_string_string.calls 8 _ 7 namesL s x _ (names_reads w) (Nat.le_refl _) HX.out).mono ?_; rintro e w2 ⟨rfl, hbb⟩))
    exact bodyPost_ret (v := .tuple #[.int .i64 x, .int .i64 0]) (by simp [results, Tryd.results9, go_sem]) rfl ⟨by rw [HE2.out], below_step ((Below.refl _ _).alloc (Nat.le_refl _) _) hbb.below⟩
def protocol_Parse.f (a0 : ByteArray) : Option (Int × Int) := some (parseR a0)
theorem protocol_Parse.callsAt (a0 : ByteArray) (r1 r2 : Int) (w : World) (hm : FieldsAt w) (h : protocol_Parse.f a0 = some (r1, r2)) : Calls Tryd.prog 9 #[.string a0] w fun e w' => e = .returned (.tuple #[.int .i64 r1, .int .i64 r2]) ∧ Below w.heap.size w w' :=
  (parse_core a0 w hm).mono fun e w' ⟨he, hb⟩ => ⟨by rw [he, Option.some.inj h], hb⟩
end Go.Proofs.YtbbiihifhdcniaaDoor.Hand
