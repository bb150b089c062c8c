/- strings.Builder's WriteString and String at this cut, by hand: copyCheck's panic is cut off here, so the shelf's laying of WriteString does not fit. -/
import Derived.Test.YtdpdcpbmdmkaeaaDoorProg
import Derived.Test.YtdpdcpbmdmkaeaaDoorWWords
import Derived.Test.YtdpdcpbmdmkaeaaDoorHandStore
import Derived.Shelf.Strings.Builder1
import Derived.Shelf.Strings.BuilderF
import Derived.Shelf.Strings.BuilderK
import Derived.Maps.Range
set_option linter.unusedVariables false
set_option linter.unusedSimpArgs false
namespace Go.Proofs.YtdpdcpbmdmkaeaaDoor.Hand
set_option maxRecDepth 100000
open Go.RowKit Go.Shelf Go.Proofs.YtdpdcpbmdmkaeaaDoorW.PrintWords
attribute [local go_sem] Oper.semAt_some

theorem size_bld : (Tryd.prog.info? 42).map (·.size) = some 2 := by kernel_rfl
theorem lies_bld : liesAt Tryd.prog Tryd.prog.depth 42 (2 / Tryd.prog.cellsOf 42) 0 42 1 = true := by kernel_rfl
theorem info_byte : (Tryd.prog.info? 5).map (fun i => (i.zero, i.size, i.bytes)) = some (some (.int .u8 0), 1, 1) := by kernel_rfl

set_option maxHeartbeats 1000000 in
set_option maxRecDepth 100000 in
theorem check_used (b : Nat) (w : World) (h0 : w.cell? ⟨b, 0, none⟩ = some (.pointer (some ⟨b, 0, none⟩))) :
    Calls Tryd.prog 37 #[.pointer (some ⟨b, 0, none⟩)] w fun e w' => e = .returned (.tuple #[]) ∧ w' = w := by
  obtain ⟨j, hj, _⟩ := Option.map_eq_some_iff.1 size_bld
  go_enter Tryd.func37, Tryd.ntmps37
  go_wp2
  rw [Lib.run_neq_ptr_same w _ Tryd.underlying39 hj]
  go_wp2
  go_end0
  exact ⟨rfl, rfl⟩

set_option maxHeartbeats 1000000 in
set_option maxRecDepth 100000 in
theorem check_fresh (b : Nat) (w : World) (h0 : w.cell? ⟨b, 0, none⟩ = some (.pointer none)) (hsh : w.shape? b = some (42, 2)) (hfz : w.frozen? ⟨b, 0, none⟩ = false) :
    Calls Tryd.prog 37 #[.pointer (some ⟨b, 0, none⟩)] w fun e w' => e = .returned (.tuple #[]) ∧ w' = w.setCell ⟨b, 0, none⟩ (.pointer (some ⟨b, 0, none⟩)) := by
  obtain ⟨j, hj, hjs⟩ := Option.map_eq_some_iff.1 size_bld
  go_enter Tryd.func37, Tryd.ntmps37
  go_wp2
  rw [Lib.run_to_unsafe w ⟨b, 0, none⟩ Tryd.underlying39 Tryd.underlying68 hj (by rw [hjs]; decide) hsh (Nat.zero_lt_succ 1)]
  simp only [Result.andThen]
  rw [Oper.upon_value]
  go_wp2
  rw [run_callFunc_extern Tryd.func42 (by kernel_rfl) (by kernel_rfl) (by kernel_rfl) (e := Extern.AbiNoEscape.same) (by kernel_rfl)]
  rw [Lib.run_noEscape]
  simp only [Result.andThen]
  rw [Oper.upon_value]
  go_wp2
  rw [Lib.run_from_unsafe w ⟨b, 0, none⟩ Tryd.underlying68 Tryd.underlying39 hj hsh lies_bld]
  simp only [Result.andThen]
  rw [Oper.upon_value]
  go_wp2
  go_end0
  exact ⟨rfl, rfl⟩

theorem own_lowerB {W : World} {b b' e n size : Nat} {v : Value} {xs : List Value} (h : W.ownsRow b e size v n xs) (hb : b' ≤ b) : W.ownsRow b' e size v n xs := by
  obtain ⟨h1, h2⟩ := h
  refine ⟨h1, ?_⟩
  rcases h2 with h2 | ⟨g, cap, cur, a1, a2, a3⟩
  · exact .inl h2
  · exact .inr ⟨g, cap, cur, a1, Nat.le_trans hb a2, a3⟩
/-- A builder in an elder block; its bytes lie behind the world w1. -/
structure Bld (w1 : World) (b : Nat) (bs : List Value) (w : World) : Prop where
  ex : ∃ p v, (p = .pointer none ∨ p = .pointer (some ⟨b, 0, none⟩)) ∧ w.heap[b]? = some (.cells #[p, v] 42 (0, 0)) ∧ w.ownsRow w1.heap.size 5 1 v bs.length bs
  lt : b < w1.heap.size
theorem grown_set (w : World) (b j : Nat) (u : Value) : w.grownBy (w.setCell ⟨b, j, none⟩ u) (some b) := setCells_grown w b j [u]
theorem own_ne {w1 w : World} {v : Value} {n : Nat} {xs : List Value} {e size b : Nat} (h : w.ownsRow w1.heap.size e size v n xs) (hb : b < w1.heap.size) : v.ownBlock ≠ some b := fun e => by have := (h.lt b e).1; omega
theorem check_bld (w1 : World) (b : Nat) (bs : List Value) (w : World) (h : Bld w1 b bs w) (hg : w1.grownBy w (some b)) :
    Calls Tryd.prog 37 #[.pointer (some ⟨b, 0, none⟩)] w fun e w' => e = .returned (.tuple #[]) ∧ ∃ v, w'.heap[b]? = some (.cells #[.pointer (some ⟨b, 0, none⟩), v] 42 (0, 0)) ∧ w'.ownsRow w1.heap.size 5 1 v bs.length bs ∧ w1.grownBy w' (some b) := by
  obtain ⟨⟨p, v, hp, hh, ho⟩, hlt⟩ := h
  have hF : Lib.BuilderAtF 42 5 b b p bs w := Lib.BuilderAtF.of ⟨Nat.le_refl _, v, hh, own_lowerB ho (by omega), own_ne ho hlt⟩
  rcases hp with rfl | rfl
  · refine (check_fresh b w hF.cell0 hF.shape hF.frozen0).mono ?_
    rintro e w' ⟨rfl, rfl⟩
    exact ⟨rfl, v, blk_put hh 0 _ rfl, ho.kept (grown_set _ _ _ _) (.inr (own_ne ho hlt)), hg.andThen (grown_set _ _ _ _) (fun j e => .inr e)⟩
  · refine (check_used b w hF.cell0).mono ?_
    rintro e w' ⟨rfl, rfl⟩
    exact ⟨rfl, v, hh, ho, hg⟩
set_option maxHeartbeats 2000000 in
set_option maxRecDepth 100000 in
theorem wstr_core (w1 : World) (b : Nat) (bs : List Value) (s : ByteArray) (w : World) (h : Bld w1 b bs w) (hg : w1.grownBy w (some b)) (hlen : bs.length + s.size ≤ 140737488355328) :
    Calls Tryd.prog 13 #[.pointer (some ⟨b, 0, none⟩), .string s] w fun e w' => e = .returned (.tuple #[.int .i64 s.size, .nilIface]) ∧ Bld w1 b (bs ++ Lib.strCells s) w' ∧ w1.grownBy w' (some b) := by
  obtain ⟨i0, hi, hz0, hz1, hz2⟩ := info_parts info_byte
  have hlt := h.lt
  go_enter Tryd.func13, Tryd.ntmps13
  go_wp2_with (go_at_call 37; refine (check_bld w1 b bs _ h hg).mono ?_)
  rintro e w2 ⟨rfl, v, hbk, hown, hg2⟩
  have c0 : w2.cell? ⟨b, 0, none⟩ = some (.pointer (some ⟨b, 0, none⟩)) := (blk_cell hbk 0).trans rfl
  have c1 : w2.cell? ⟨b, 1, none⟩ = some v := (blk_cell hbk 1).trans rfl
  go_wp2_with (at_builtin; refine Lib.wpList_append_own_string _ rfl _ _ 40 9 rfl w1.heap.size 5 i0 Tryd.underlying40 Tryd.underlying9 hi hz0 hz1 hz2 _ _ _ rfl hown s rfl ?c3 ?c4 ?c5 ?_)
  case c3 => unfold maxLen; omega
  case c4 => omega
  case c5 => exact hg2.size
  intro v' w3 hown' hgrow _
  have hb3 : w3.heap[b]? = some (.cells #[.pointer (some ⟨b, 0, none⟩), v] 42 (0, 0)) := by
    rw [hgrow.block b (blk_lt hbk) (fun e => own_ne hown hlt e.symm)]
    exact hbk
  have d0 : w3.cell? ⟨b, 0, none⟩ = some (.pointer (some ⟨b, 0, none⟩)) := (blk_cell hb3 0).trans rfl
  have d1 : w3.cell? ⟨b, 1, none⟩ = some v := (blk_cell hb3 1).trans rfl
  have f1 : w3.frozen? ⟨b, 1, none⟩ = false := by rw [blk_frozen hb3]
  have hg3 : w1.grownBy w3 (some b) := hg2.andThen hgrow (fun j e => .inl (hown.lt j e).1)
  obtain ⟨ao, n', cap, rfl⟩ : ∃ ao n' cap, v' = .slice ao n' cap := by
    rcases hown'.2 with ⟨hv, _⟩ | ⟨g, cap, cur, hv, _⟩
    · exact ⟨_, _, _, hv⟩
    · exact ⟨_, _, _, hv⟩
  go_wp2
  have hl : (bs ++ Lib.strCells s).length = bs.length + s.size := by rw [List.length_append, Lib.strCells_length]
  go_ret2
  exact ⟨rfl, ⟨⟨_, _, .inr rfl, blk_put hb3 1 _ rfl, by rw [hl]; exact hown'.kept (grown_set _ _ _ _) (.inr (own_ne hown' hlt))⟩, hlt⟩, hg3.andThen (grown_set _ _ _ _) (fun j e => .inr e)⟩
def lays169_ren : Go.Shelf.Ren := ⟨fun | 169 => 15 | n => n, fun | 70 => 39 | 9 => 9 | 0 => 0 | 72 => 42 | 37 => 40 | 127 => 60 | 3 => 3 | 5 => 5 | n => n, fun | n => n⟩
theorem lays169 : Go.Proofs.Lays.n169 Tryd.prog lays169_ren := {
  mixed := by kernel_rfl
  f169 := Tryd.func15.trans (congrArg some (by kernel_rfl))
  t0 := Tryd.underlying0
  a0 := Tryd.isAgg0
  z0 := Tryd.sizeOf0
  v0 := Tryd.zeroValue0
  t3 := Tryd.underlying3
  a3 := Tryd.isAgg3
  z3 := Tryd.sizeOf3
  v3 := Tryd.zeroValue3
  t9 := Tryd.underlying9
  a9 := Tryd.isAgg9
  z9 := Tryd.sizeOf9
  v9 := Tryd.zeroValue9
  t37 := Tryd.underlying40
  a37 := Tryd.isAgg40
  z37 := Tryd.sizeOf40
  v37 := Tryd.zeroValue40
  t70 := Tryd.underlying39
  a70 := Tryd.isAgg39
  z70 := Tryd.sizeOf39
  v70 := Tryd.zeroValue39
  t72 := Tryd.underlying42
  a72 := Tryd.isAgg42
  z72 := Tryd.sizeOf42
  v72 := Tryd.zeroValue42
  t127 := Tryd.underlying60
  a127 := Tryd.isAgg60
  z127 := Tryd.sizeOf60
  v127 := Tryd.zeroValue60 }
theorem extra169 : Builder.Extra Tryd.prog lays169_ren := {
  sizeBuilder := by kernel_rfl
  liesBuilder := by kernel_rfl
  t5 := Tryd.underlying5
  a5 := Tryd.isAgg5
  z5 := Tryd.sizeOf5
  v5 := Tryd.zeroValue5
  infoByte := by kernel_rfl
  cellsByte := by kernel_rfl
  sizeByte := by kernel_rfl
  neB5 := by decide }
theorem str_core (w1 : World) (b : Nat) (l : List UInt8) (w : World) (h : Bld w1 b (Lib.byteCells l) w) (hg : w1.grownBy w (some b)) :
    Calls Tryd.prog 15 #[.pointer (some ⟨b, 0, none⟩)] w fun e w' => e = .returned (.string ⟨l.toArray⟩) ∧ Below b w w' := by
  obtain ⟨⟨p, v, hp, hh, ho⟩, hlt⟩ := h
  have hF : Lib.BuilderAtF 42 5 b b p (Lib.byteCells l) w := Lib.BuilderAtF.of ⟨Nat.le_refl _, v, hh, own_lowerB ho (by omega), own_ne ho hlt⟩
  have hI : Lib.IsBuilderF 42 5 b b (Lib.byteCells l) w := by
    rcases hp with rfl | rfl
    · exact .inl hF
    · exact .inr hF
  exact (Any.Builder_String_any_k lays169 extra169 b b l w hI (by have := hg.size; omega)).mono fun e w' ⟨h1, _, h2, _⟩ => ⟨h1, h2⟩
end Go.Proofs.YtdpdcpbmdmkaeaaDoor.Hand
