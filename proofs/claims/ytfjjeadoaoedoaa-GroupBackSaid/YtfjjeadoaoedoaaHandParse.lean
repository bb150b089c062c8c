/- What 'group.Parse' computes, by hand: a range over a string; strings.Index; the text of what came out. -/
import Derived.Test.YtfjjeadoaoedoaaHandText
import Derived.Shelf.Strings.Search3
import Derived.Lib.OthersKept
set_option linter.unusedVariables false
set_option linter.unusedSimpArgs false
namespace Go.Proofs.Ytfjjeadoaoedoaa.Hand
open Go.RowKit Go.Shelf Go.Proofs.Ytfjjeadoaoedoaa.Grp Go.Proofs.YtfjjeadoaoedoaaW.PrintWords Go.Proofs.YtfjjeadoaoedoaaW.PrintMore
attribute [local go_sem] Oper.semAt_some

def lays143_ren : Go.Shelf.Ren := ⟨fun | 143 => 46 | 219 => 49 | 217 => 51 | 225 => 52 | 224 => 53 | 267 => 54 | 266 => 55 | 314 => 56 | n => n, fun | 9 => 9 | 3 => 3 | 4 => 4 | 5 => 5 | 46 => 63 | 146 => 70 | 51 => 69 | n => n, fun | 1 => 0 | n => n⟩
theorem lays143 : Go.Proofs.Lays.n143 Try.prog lays143_ren := {
  mixed := by kernel_rfl
  f143 := Try.func46.trans (congrArg some (by kernel_rfl))
  f217 := Try.func51.trans (congrArg some (by kernel_rfl))
  f219 := Try.func49.trans (congrArg some (by kernel_rfl))
  f224 := Try.func53.trans (congrArg some (by kernel_rfl))
  f225 := Try.func52.trans (congrArg some (by kernel_rfl))
  f266 := Try.func55.trans (congrArg some (by kernel_rfl))
  f267 := Try.func54.trans (congrArg some (by kernel_rfl))
  f314 := Try.func56.trans (congrArg some (by kernel_rfl))
  t3 := Try.underlying3
  a3 := Try.isAgg3
  z3 := Try.sizeOf3
  v3 := Try.zeroValue3
  t4 := Try.underlying4
  a4 := Try.isAgg4
  z4 := Try.sizeOf4
  v4 := Try.zeroValue4
  t5 := Try.underlying5
  a5 := Try.isAgg5
  z5 := Try.sizeOf5
  v5 := Try.zeroValue5
  t9 := Try.underlying9
  a9 := Try.isAgg9
  z9 := Try.sizeOf9
  v9 := Try.zeroValue9
  t46 := Try.underlying63
  a46 := Try.isAgg63
  z46 := Try.sizeOf63
  v46 := Try.zeroValue63
  t51 := Try.underlying69
  a51 := Try.isAgg69
  z51 := Try.sizeOf69
  v51 := Try.zeroValue69
  t146 := Try.underlying70
  a146 := Try.isAgg70
  z146 := Try.sizeOf70
  v146 := Try.zeroValue70
  g1 := by kernel_rfl }
/-- The package's variable that strings.Index reads stands at its place. -/
def MaxAt (w : World) : Prop := ∃ m, w.cell? ⟨lays143_ren.g 1, 0, none⟩ = some (.int .i64 m)
theorem index_core (s sub : ByteArray) (w : World) (hs : s.size < 4294967281) (hm : MaxAt w) : Calls Try.prog 46 #[.string s, .string sub] w fun e w' => e = .returned (.int .i64 (Lib.index s.data.toList sub.data.toList)) ∧ w' = w := by
  obtain ⟨m, hm⟩ := hm
  exact Any.strings_Index lays143 s sub m w hs hm
theorem MaxAt.below {n : Nat} {A B : World} (h : MaxAt A) (hb : Below A.heap.size A B) : MaxAt B := by
  obtain ⟨m, hm⟩ := h
  have hlt : lays143_ren.g 1 < A.heap.size := by
    obtain ⟨o, ho, _⟩ := cells_of_cell hm
    exact (Array.getElem?_eq_some_iff.1 ho).1
  exact ⟨m, (hb.cell (p := ⟨lays143_ren.g 1, 0, none⟩) hlt).trans hm⟩
/-- Where a sign stands. -/
def idxOf (c : Int) : Int := Lib.index digs.data.toList (Utf8.encode c).data.toList
/-- The group of what is left of a text, from a place on. -/
def foldG (s : ByteArray) : Nat → Nat → Int → Int
  | 0, _, g => g
  | f + 1, pos, g => if pos < s.size then foldG s f (pos + (Utf8.decode s pos).2) (if (Utf8.decode s pos).1 = 45 then g else withG g (idxOf (Utf8.decode s pos).1)) else g
theorem fold_end (s : ByteArray) (f pos : Nat) (g : Int) (h : ¬ pos < s.size) : foldG s f pos g = g := by
  cases f with
  | zero => rfl
  | succ f => simp [foldG, h]
theorem width_pos (s : ByteArray) (pos : Nat) (h : pos < s.size) : 1 ≤ (Utf8.decode s pos).2 := by
  by_cases ha : (s[pos]'h).toNat < 128
  · rw [decode_ascii s pos h ha]
    exact Nat.le_refl _
  · exact (decode_high s pos h (by omega)).2
def parsed (s : ByteArray) : Int := foldG s s.size 0 0

set_option maxHeartbeats 4000000 in
set_option maxRecDepth 1000000 in
theorem parse_core (s : ByteArray) (w : World) (hm : MaxAt w) (t : ByteArray) (ht : group_Text.f (parsed s) = some t) (r1 r2 : Int) (hR : ((t.toList == s.toList) = true ∧ r1 = parsed s ∧ r2 = 0) ∨ ((t.toList == s.toList) = false ∧ r1 = 0 ∧ r2 = 2)) :
    Calls Try.prog 36 #[.string s] w fun e w' => e = .returned (.tuple #[.int .u16 r1, .int .i64 r2]) ∧ Below w.heap.size w w' := by
  go_enter Try.func36, Try.ntmps36
  go_wp2
  go_loopw [4, 6] (fun a _ wr => ∃ (pos fuel : Nat) (g : Int), a = .int .u16 g ∧ wr.heap[w.heap.size]? = some (.stringIter s pos) ∧ Below w.heap.size w wr ∧ foldG s fuel pos g = parsed s ∧ s.size ≤ pos + fuel) (fun _ _ wr => s.size - wr.iterPos w.heap.size)
  case atStart =>
    refine ⟨0, s.size, 0, rfl, ?_, (Below.refl _ w).alloc (Nat.le_refl _) _, rfl, by omega⟩
    have := World.iter_heap w s 0
    simpa using this
  case round =>
    obtain ⟨pos, fuel, g, rfl, hit, hbw, hacc, hfu⟩ := hrel
    have hsz : w.heap.size < wr.heap.size := (Array.getElem?_eq_some_iff.1 hit).1
    by_cases hp : pos < s.size
    · have hnx : ∀ ty, (Instr.next (.pointer (some ⟨w.heap.size, 0, none⟩)) true ty).run Try.prog wr = _ := fun ty => Lib.run_next_any_at wr w.heap.size s pos ty hit hp
      have hwd := width_pos s pos hp
      have hit2 := Lib.iterAt_heap wr w.heap.size s pos (pos + (Utf8.decode s pos).2) hit
      have hbw2 := Lib.below_iterAt hbw (k := w.heap.size) (by omega) s (pos + (Utf8.decode s pos).2)
      have hm2 := hm.below (n := 0) hbw2
      obtain ⟨f, rfl⟩ : ∃ f, fuel = f + 1 := ⟨fuel - 1, by omega⟩
      obtain ⟨c, hc⟩ : ∃ c, (Utf8.decode s pos).1 = c := ⟨_, rfl⟩
      rw [foldG, if_pos hp, hc] at hacc
      rw [hc] at hnx
      by_cases h45 : c = 45
      · subst h45
        rw [if_pos rfl] at hacc
        go_wp2
        go_roundw
        case rel => exact ⟨_, f, g, rfl, hit2, hbw2, hacc, by omega⟩
        case measure =>
          simp only [World.iterPos, hit2, hit]
          omega
      · rw [if_neg h45] at hacc
        go_wp2_with (first | (go_at_call 46; refine (index_core _ _ _ (by decide) hm2).mono ?_; rintro e w' ⟨rfl, hw⟩; subst hw) | (go_at_call 16; refine (with_core _ _ _).mono ?_; rintro e w' ⟨rfl, hw⟩; subst hw))
        go_roundw
        case rel => exact ⟨_, f, _, rfl, hit2, hbw2, hacc, by omega⟩
        case measure =>
          simp only [World.iterPos, hit2, hit]
          omega
    · have hnx : ∀ ty, (Instr.next (.pointer (some ⟨w.heap.size, 0, none⟩)) true ty).run Try.prog wr = _ := fun ty => Lib.run_next_end_at wr w.heap.size s pos ty hit hp
      rw [fold_end s fuel pos g hp] at hacc
      subst hacc
      obtain ⟨G, hG⟩ : ∃ G, parsed s = G := ⟨_, rfl⟩
      rw [hG] at ht
      rcases hR with ⟨he, rfl, rfl⟩ | ⟨he, rfl, rfl⟩
      · rw [hG]
        go_wp2_with (go_at_call 34; refine (group_Text.calls _ _ _ ht).mono ?_; rintro e w' ⟨rfl, hb⟩)
        go_ret2
        exact ⟨by rw [hG]; rfl, hbw.trans (hb.mono (by omega))⟩
      · rw [hG]
        go_wp2_with (go_at_call 34; refine (group_Text.calls _ _ _ ht).mono ?_; rintro e w' ⟨rfl, hb⟩)
        go_ret2
        exact ⟨rfl, hbw.trans (hb.mono (by omega))⟩
def group_Parse.f (a0 : ByteArray) : Option (Int × Int) := (group_Text.f (parsed a0)).bind fun t => if (t.toList == a0.toList) = true then some (parsed a0, 0) else some (0, 2)
theorem group_Parse.callsAt (a0 : ByteArray) (r1 r2 : Int) (w : World) (hm : MaxAt w) (h : group_Parse.f a0 = some (r1, r2)) : Calls Try.prog 36 #[.string a0] w fun e w' => e = .returned (.tuple #[.int .u16 r1, .int .i64 r2]) ∧ Below w.heap.size w w' := by
  unfold group_Parse.f at h
  obtain ⟨t, ht, h⟩ := Option.bind_eq_some_iff.1 h
  refine parse_core a0 w hm t ht r1 r2 ?_
  by_cases he : (t.toList == a0.toList) = true
  · rw [if_pos he] at h
    simp only [Option.some.injEq, Prod.mk.injEq] at h
    exact .inl ⟨he, h.1.symm, h.2.symm⟩
  · rw [if_neg he] at h
    simp only [Option.some.injEq, Prod.mk.injEq] at h
    exact .inr ⟨by simpa using he, h.1.symm, h.2.symm⟩
end Go.Proofs.Ytfjjeadoaoedoaa.Hand
