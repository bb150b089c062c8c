/- What 'protocol.May' computes, by hand: a closure over slices.Contains. -/
import Derived.Test.YtbbiihifhdcniaaDoorHandNext
import Derived.Test.YtbbiihifhdcniaaDoorPAx1
set_option linter.unusedVariables false
set_option linter.unusedSimpArgs false
namespace Go.Proofs.YtbbiihifhdcniaaDoor.Hand
set_option maxRecDepth 100000
open Go.RowKit Go.Proofs.YtbbiihifhdcniaaDoor.PA Go.Proofs.YtbbiihifhdcniaaDoorW.PrintWords Go.Proofs.YtbbiihifhdcniaaDoorW.PrintMore

def mayB (s what : Int) : Bool := if what = 0 then [2, 3, 4, 5].contains s else if what = 1 then [3, 5].contains s else if what = 2 then [3, 4, 5].contains s else if what = 3 then [5].contains s else false
theorem cont_l0 (l : List Int) (hl : l.length ≤ 1000) (s : Int) : ∀ (d i k : Nat), l.length - i = d → i ≤ l.length → d < k → slices_Index_int_int.l0 k l s (l.length : Int) (i : Int) = some (match (l.drop i).findIdx? (fun x => s == x) with | some j => ((i + j : Nat) : Int) | none => -1) := by
  intro d
  induction d with
  | zero =>
    intro i k hd hi hk
    obtain ⟨k, rfl⟩ : ∃ j, k = j + 1 := ⟨k - 1, by omega⟩
    obtain rfl : i = l.length := by omega
    unfold slices_Index_int_int.l0
    rw [if_neg (by omega)]
    simp
  | succ d ih =>
    intro i k hd hi hk
    obtain ⟨k, rfl⟩ : ∃ j, k = j + 1 := ⟨k - 1, by omega⟩
    have hlt : i < l.length := by omega
    have hrd : rd l (i : Int) = l[i] := by simp [rd, hlt]
    have hstep := ih (i + 1) k (by omega) (by omega) (by omega)
    rw [show ((i + 1 : Nat) : Int) = (i : Int) + 1 by omega] at hstep
    have hw : wrap64 ((i : Int) + 1) = (i : Int) + 1 := by unfold wrap64; omega
    unfold slices_Index_int_int.l0
    rw [if_pos (by omega), if_pos (by omega), if_pos (by omega), hrd, List.drop_eq_getElem_cons hlt, List.findIdx?_cons, hw]
    by_cases hq : s = l[i]
    · rw [if_pos hq]; simp [← hq]
    · rw [if_neg hq, hstep]
      have hqb : (s == l[i]) = false := by simpa using hq
      simp only [hqb]
      cases (l.drop (i + 1)).findIdx? (fun x => s == x) with
      | none => rfl
      | some j =>
        show some (((i + 1 + j : Nat)) : Int) = some (((i + (j + 1) : Nat)) : Int)
        rw [show i + 1 + j = i + (j + 1) by omega]
theorem cont_f (l : List Int) (hl : l.length ≤ 1000) (s : Int) : slices_Contains_int_int.f (l.length + 1) l s = some (l.contains s) := by
  unfold slices_Contains_int_int.f slices_Index_int_int.f
  have := cont_l0 l hl s l.length 0 (l.length + 1) (by omega) (by omega) (by omega)
  rw [show ((0 : Nat) : Int) = 0 from rfl] at this
  rw [this]
  simp only [Option.bind_some, List.drop_zero, Nat.zero_add]
  cases h : l.findIdx? (fun x => s == x) with
  | none =>
    have h1 := List.findIdx?_eq_none_iff.1 h
    have : l.contains s = false := by
      rw [Bool.eq_false_iff]
      intro q
      have := h1 s (by simpa using q)
      simp at this
    rw [this]
    rfl
  | some j =>
    obtain ⟨hj, hx, _⟩ := List.findIdx?_eq_some_iff_getElem.1 h
    have : l.contains s = true := by
      have : s = l[j] := by simpa using hx
      rw [this]
      simp
    rw [this]
    simp
theorem mayc_core (g B : Nat) (s : Int) (l : List Int) (n c : Nat) (hn : l.length = n) (hl : l.length ≤ 1000) (hc : l.length ≤ c) (r : Bool) (hr : l.contains s = r) (w : World) (hC : Kd.C (Kd.int .i64) w (some ⟨g, 0, none⟩) l.length l) (hB : w.cell? ⟨B, 0, none⟩ = some (.int .i64 s)) :
    Calls Tryd.prog 29 #[.slice (some ⟨g, 0, none⟩) n c, .pointer (some ⟨B, 0, none⟩)] w fun e w' => e = .returned (.bool r) ∧ Drawn0 w w' := by
  subst hn
  go_enter Tryd.func29, Tryd.ntmps29
  go_wp2_with (go_at_call 30; refine (slices_Contains_int_int.calls (l.length + 1) (some ⟨g, 0, none⟩) c l s r _ hC hc (hr ▸ cont_f l hl s)).mono ?_; rintro e w' ⟨rfl, hd⟩)
  go_ret
  exact ⟨rfl, hd⟩
theorem lit_C (W : World) (l : List Int) (hl : l.length ≤ 1000) : Kd.C (Kd.int .i64) (W.alloc (.cells (l.map (Value.int .i64)).toArray 3)) (some ⟨W.heap.size, 0, none⟩) l.length l := by
  have h := own_lit_of (enc := Value.int .i64) W 0 3 l (Nat.zero_le _) (by omega)
  exact (Kd.R_reads' (Kd.R_of_own (h1 := fun _ => rfl) (ok := fun _ => True) h (fun _ _ => trivial))).2.2
theorem lit_C' (W : World) (l : List Int) (n : Nat) (hn : W.heap.size = n) (hl : l.length ≤ 1000) : Kd.C (Kd.int .i64) (W.alloc (.cells (l.map (Value.int .i64)).toArray 3)) (some ⟨n, 0, none⟩) l.length l := hn ▸ lit_C W l hl
theorem below_drawn0 {n : Nat} {w w1 w2 : World} (h : Below n w w1) (hd : Drawn0 w1 w2) : Below n w w2 := by
  obtain ⟨m, rfl⟩ := hd
  exact pw_below_drewN h m
theorem may_0 (s : Int) (w : World) : Calls Tryd.prog 16 #[.int .i64 s, .int .i64 0] w fun e w' => e = .returned (.bool (mayB s 0)) ∧ Below w.heap.size w w' := by
  have hm : ([2, 3, 4, 5] : List Int).contains s = mayB s 0 := rfl
  have HM := Lib.hid hm
  clear hm
  go_enter Tryd.func16, Tryd.ntmps16
  go_wp2_with (go_at_call 29; refine (mayc_core (w.heap.size + 1) w.heap.size s [2, 3, 4, 5] _ 4 rfl (by decide) (by decide) _ HM.out _ (lit_C' _ _ _ (by simp) (by decide)) (by simp [go_sem])).mono ?_; rintro e w1 ⟨rfl, hd⟩)
  go_ret
  exact ⟨rfl, below_drawn0 (((Below.refl _ w).alloc (Nat.le_refl _) _).alloc (by simp) _) hd⟩
theorem may_1 (s : Int) (w : World) : Calls Tryd.prog 16 #[.int .i64 s, .int .i64 1] w fun e w' => e = .returned (.bool (mayB s 1)) ∧ Below w.heap.size w w' := by
  have hm : ([3, 5] : List Int).contains s = mayB s 1 := rfl
  have HM := Lib.hid hm
  clear hm
  go_enter Tryd.func16, Tryd.ntmps16
  go_wp2_with (go_at_call 29; refine (mayc_core (w.heap.size + 1) w.heap.size s [3, 5] _ 2 rfl (by decide) (by decide) _ HM.out _ (lit_C' _ _ _ (by simp) (by decide)) (by simp [go_sem])).mono ?_; rintro e w1 ⟨rfl, hd⟩)
  go_ret
  exact ⟨rfl, below_drawn0 (((Below.refl _ w).alloc (Nat.le_refl _) _).alloc (by simp) _) hd⟩
theorem may_2 (s : Int) (w : World) : Calls Tryd.prog 16 #[.int .i64 s, .int .i64 2] w fun e w' => e = .returned (.bool (mayB s 2)) ∧ Below w.heap.size w w' := by
  have hm : ([3, 4, 5] : List Int).contains s = mayB s 2 := rfl
  have HM := Lib.hid hm
  clear hm
  go_enter Tryd.func16, Tryd.ntmps16
  go_wp2_with (go_at_call 29; refine (mayc_core (w.heap.size + 1) w.heap.size s [3, 4, 5] _ 3 rfl (by decide) (by decide) _ HM.out _ (lit_C' _ _ _ (by simp) (by decide)) (by simp [go_sem])).mono ?_; rintro e w1 ⟨rfl, hd⟩)
  go_ret
  exact ⟨rfl, below_drawn0 (((Below.refl _ w).alloc (Nat.le_refl _) _).alloc (by simp) _) hd⟩
theorem may_3 (s : Int) (w : World) : Calls Tryd.prog 16 #[.int .i64 s, .int .i64 3] w fun e w' => e = .returned (.bool (mayB s 3)) ∧ Below w.heap.size w w' := by
  have hm : ([5] : List Int).contains s = mayB s 3 := rfl
  have HM := Lib.hid hm
  clear hm
  go_enter Tryd.func16, Tryd.ntmps16
  go_wp2_with (go_at_call 29; refine (mayc_core (w.heap.size + 1) w.heap.size s [5] _ 1 rfl (by decide) (by decide) _ HM.out _ (lit_C' _ _ _ (by simp) (by decide)) (by simp [go_sem])).mono ?_; rintro e w1 ⟨rfl, hd⟩)
  go_ret
  exact ⟨rfl, below_drawn0 (((Below.refl _ w).alloc (Nat.le_refl _) _).alloc (by simp) _) hd⟩
theorem may_else (s what : Int) (h0 : (what == 0) = false) (h1 : (what == 1) = false) (h2 : (what == 2) = false) (h3 : (what == 3) = false) (w : World) : Calls Tryd.prog 16 #[.int .i64 s, .int .i64 what] w fun e w' => e = .returned (.bool false) ∧ Below w.heap.size w w' := by
  go_enter Tryd.func16, Tryd.ntmps16
  go_wp2
  go_ret
  exact ⟨rfl, (Below.refl _ w).alloc (Nat.le_refl _) _⟩
theorem may_core (s what : Int) (w : World) : Calls Tryd.prog 16 #[.int .i64 s, .int .i64 what] w fun e w' => e = .returned (.bool (mayB s what)) ∧ Below w.heap.size w w' := by
  by_cases h0 : what = 0
  · subst h0; exact may_0 s w
  by_cases h1 : what = 1
  · subst h1; exact may_1 s w
  by_cases h2 : what = 2
  · subst h2; exact may_2 s w
  by_cases h3 : what = 3
  · subst h3; exact may_3 s w
  have : mayB s what = false := by unfold mayB; rw [if_neg h0, if_neg h1, if_neg h2, if_neg h3]
  rw [this]
  exact may_else s what (by simpa using h0) (by simpa using h1) (by simpa using h2) (by simpa using h3) w
theorem may_at (s what : Int) (r : Bool) (h : mayB s what = r) (w : World) : Calls Tryd.prog 16 #[.int .i64 s, .int .i64 what] w fun e w' => e = .returned (.bool r) ∧ Below w.heap.size w w' := h ▸ may_core s what w
def protocol_May.f (a0 a1 : Int) : Option Bool := some (mayB a0 a1)
theorem protocol_May.calls (a0 a1 : Int) (r : Bool) (w : World) (h : protocol_May.f a0 a1 = some r) : Calls Tryd.prog 16 #[.int .i64 a0, .int .i64 a1] w fun e w' => e = .returned (.bool r) ∧ Below w.heap.size w w' :=
  may_at a0 a1 r (Option.some.inj h) w
end Go.Proofs.YtbbiihifhdcniaaDoor.Hand
