/- What 'protocol.Way' computes, by hand. -/
import Derived.Test.YtbbiihifhdcniaaDoorHandWay2
import Derived.Test.YtbbiihifhdcniaaDoorWMore
set_option linter.unusedVariables false
set_option linter.unusedSimpArgs false
namespace Go.Proofs.YtbbiihifhdcniaaDoor.Hand
set_option maxRecDepth 100000
open Go.RowKit Go.Maps Go.ChangeShapes Go.WideElems Go.Proofs.YtbbiihifhdcniaaDoorW.PrintWords Go.Proofs.YtbbiihifhdcniaaDoorW.PrintMore

def stateB (n : Int) : Bool := decide (0 ≤ n ∧ n ≤ 6)
theorem state_yes (n : Int) (w : World) (h0 : 0 ≤ n) (h1 : n ≤ 6) : Calls Tryd.prog 24 #[.int .i64 n] w fun e w' => e = .returned (.bool true) ∧ w = w' := by
  have h2 : n < 7 := by omega
  go_enter Tryd.func24, Tryd.ntmps24
  go_wp2
  go_ret
  exact ⟨rfl, rfl⟩
theorem state_no (n : Int) (w : World) (h : n < 0 ∨ 6 < n) : Calls Tryd.prog 24 #[.int .i64 n] w fun e w' => e = .returned (.bool false) ∧ w = w' := by
  rcases h with h | h
  · have h2 : ¬ 0 ≤ n := by omega
    go_enter Tryd.func24, Tryd.ntmps24
    go_wp2
    go_ret
    exact ⟨rfl, rfl⟩
  · have h2 : ¬ n < 7 := by omega
    have h3 : 0 ≤ n := by omega
    go_enter Tryd.func24, Tryd.ntmps24
    go_wp2
    go_ret
    exact ⟨rfl, rfl⟩
theorem way_no (a b : Int) (w : World) (h : (a < 0 ∨ 6 < a) ∨ b < 0 ∨ 6 < b) : Calls Tryd.prog 11 #[.int .i64 a, .int .i64 b] w fun e w' => e = .returned (.tuple #[.slice none 0 0, .int .i64 200]) ∧ w = w' := by
  rcases Decidable.em (0 ≤ a ∧ a ≤ 6) with ha | ha
  · have hb : b < 0 ∨ 6 < b := by omega
    have HB := Lib.hid hb
    clear hb h
    obtain ⟨h0, h1⟩ := ha
    go_enter Tryd.func11, Tryd.ntmps11
    go_wp2_with (first
      | (go_at_call 24; ((with_reducible refine (state_yes a _ h0 h1).mono ?_)); rintro e w1 ⟨rfl, rfl⟩)
      | (go_at_call 24; ((with_reducible refine (state_no b _ HB.out).mono ?_)); rintro e w1 ⟨rfl, rfl⟩))
    go_ret2
    exact ⟨rfl, rfl⟩
  · have hb : a < 0 ∨ 6 < a := by omega
    have HB := Lib.hid hb
    clear hb h ha
    go_enter Tryd.func11, Tryd.ntmps11
    go_wp2_with (first
      | (go_at_call 24; refine (state_no a _ HB.out).mono ?_; rintro e w1 ⟨rfl, rfl⟩))
    go_ret2
    exact ⟨rfl, rfl⟩
theorem mem7 {a : Int} (h0 : 0 ≤ a) (h1 : a ≤ 6) : a ∈ [(0 : Int), 1, 2, 3, 4, 5, 6] := by
  simp
  omega
theorem st_key : ∀ a ∈ [(0 : Int), 1, 2, 3, 4, 5, 6], ∀ k ∈ List.range 7, (wayOf (stAt a k) ((stAt a k).getD k (0, [])).1).isSome = true ∧ 0 ≤ ((stAt a k).getD k (0, [])).1 ∧ ((stAt a k).getD k (0, [])).1 ≤ 6 := by decide +kernel
theorem way_start (a : Int) (ha : fitI a) (w : World) : ∃ w2, (Instr.mapUpdate 50 (.map (some w.heap.size)) (.int .i64 a) (.slice (some ⟨w.heap.size + 1, 0, none⟩) 0 0)).run Tryd.prog ((w.alloc (.map #[] 0)).alloc (.cells #[] 3)) = .ok () w2 ∧
    w2.ownsGroups Tryd.prog 3 (w.heap.size + 1) 3 .i64 w.heap.size 1 (DataW.put (H := Unit) (.map []) (.int .i64 a) (litsU [])) ∧ Below w.heap.size w w2 ∧ w.heap.size + 2 ≤ w2.heap.size := by
  have hm := World.ownsGroups_made (H := Unit) w Tryd.prog 3 3 .i64
  have hb := WayAt.back hm ReadsW.empty (by unfold maxLen; omega) ha rfl
  have h0 := own_lit (w.alloc (.map #[] 0)) (w.heap.size + 1) 3 .i64 [] (by simp) (by simp)
  obtain ⟨w2, h1, h2, h3⟩ := hb ((w.alloc (.map #[] 0)).alloc (.cells #[] 3)) (.slice (some ⟨w.heap.size + 1, 0, none⟩) 0 0) [] (gb_alloc (gb_refl _) _) ⟨by simpa [nums] using h0, by simp⟩ (by simp) (.inr ⟨w.heap.size + 1, rfl, by simp⟩)
  refine ⟨w2, h1, h2, (((Below.refl _ w).alloc (Nat.le_refl _) _).alloc (by simp) _).grown h3 (by simp; omega) (fun j q => by injection q with q; omega), ?_⟩
  have := h3.size
  simpa using this
theorem way_begin (a : Int) (ha : fitI a) (B : Nat) (w2 : World) (hBs : B < w2.heap.size) (hog : w2.ownsGroups Tryd.prog 3 (B + 1) 3 .i64 B 1 (DataW.put (H := Unit) (.map []) (.int .i64 a) (litsU []))) :
    WayAt (((w2.alloc (.cells #[.map (some B)] 50)).alloc (.cells #[.int .i64 a] 3)).alloc (.cells #[.slice (some ⟨w2.heap.size + 1, 0, none⟩) 1 1] 22)) B w2.heap.size (w2.heap.size + 1 + 1) (stAt a 0) := by
  have hg : w2.grownBy (((w2.alloc (.cells #[.map (some B)] 50)).alloc (.cells #[.int .i64 a] 3)).alloc (.cells #[.slice (some ⟨w2.heap.size + 1, 0, none⟩) 1 1] 22)) none := gb_alloc (gb_alloc (gb_alloc (gb_refl _) _) _) _
  have hsh : w2.Shuns B (met (.slice (some ⟨w2.heap.size + 1, 0, none⟩) 1 1)) := World.Shuns.reno (No := fun _ => False) (fun _ _ _ _ _ _ _ h => h) hog (fun g h => .inr (by have h2 : w2.heap.size + 1 = g := (by simpa [met, Value.ownBlock] using h); omega))
  have h0 := own_lit (w2.alloc (.cells #[.map (some B)] 50)) (B + 1) 3 .i64 [a] (by simp; omega) (by simp)
  refine ⟨blk_alloc (blk_alloc (blk_new _ _) _) _, 1, _, _, hog.kept hg (by simp) (hog.rowsAbove (fun j q => by cases q)), ReadsW.empty.put ha rfl [], Nat.le_refl _, ?_, ?_, hsh.kept hg hBs (by simp)⟩
  · have := blk_new ((w2.alloc (.cells #[.map (some B)] 50)).alloc (.cells #[.int .i64 a] 3)) (.cells #[.slice (some ⟨w2.heap.size + 1, 0, none⟩) 1 1] 22)
    simpa using this
  · have := World.ownsRow.alloc h0 (.cells #[.slice (some ⟨w2.heap.size + 1, 0, none⟩) 1 1] 22)
    simpa [nums, keysOf, stAt] using this
theorem way_end (a b : Int) (ha0 : 0 ≤ a) (ha1 : a ≤ 6) (hb0 : 0 ≤ b) (hb1 : b ≤ 6) {D : DU} {vr : Value} {zs : List Int} {w : World} {base : Nat} (hr : ReadsW D (stAt a 7)) (hat : D.atKey (.int .i64 b) .nil = rowDatum .i64 vr zs) (hoi : w.ownsInts base 3 .i64 vr zs) : zs = wayTo a b := by
  have h := way_short a (mem7 ha0 ha1) b (mem7 hb0 hb1)
  obtain ⟨l, hl⟩ := Option.isSome_iff_exists.1 h.1
  rw [(hr.2 b (fit_small hb0 (by omega))).2, hl] at hat
  unfold wayTo
  rw [hl]
  rcases hoi.datum (H := Unit) with ⟨h1, _⟩ | h1
  · rw [h1] at hat; cases hat
  · rw [h1] at hat
    exact (litsU_inj hat).symm
set_option maxRecDepth 100000 in
set_option maxHeartbeats 4000000 in
theorem way_core (a b : Int) (ha0 : 0 ≤ a) (ha1 : a ≤ 6) (hb0 : 0 ≤ b) (hb1 : b ≤ 6) (w : World) : Calls Tryd.prog 11 #[.int .i64 a, .int .i64 b] w fun e w' => ∃ v, e = .returned (.tuple #[v, .int .i64 0]) ∧ w'.ownsRow w.heap.size 3 1 v (wayTo a b).length ((wayTo a b).map (Value.int .i64)) ∧ Below w.heap.size w w' := by
  have hmm := @run_makeMap Tryd.prog
  obtain ⟨w2, hrun, hog, hB2, hs2⟩ := way_start a (fit_small ha0 (by omega)) w
  have HK : Hid (∀ k, k < 7 → k < (stAt a k).length ∧ (stAt a k).length ≤ 7 ∧ ∃ l, wayOf (stAt a k) ((stAt a k).getD k (0, [])).1 = some l ∧ fitI ((stAt a k).getD k (0, [])).1) := Lib.hid fun k hk => by
    have h1 := (st_len a (mem7 ha0 ha1)).1 k (by simpa using hk)
    have h2 := st_key a (mem7 ha0 ha1) k (by simpa using hk)
    exact ⟨h1.1, h1.2, _, (Option.some_get h2.1).symm, fit_small h2.2.1 (by omega)⟩
  have HL7 := Lib.hid (st_len a (mem7 ha0 ha1)).2
  go_enter Tryd.func11, Tryd.ntmps11
  go_wp2_with (first
      | (go_at_call 24; ((with_reducible refine (state_yes a _ ha0 ha1).mono ?_)); rintro e w1 ⟨rfl, rfl⟩)
      | (go_at_call 24; ((with_reducible refine (state_yes b _ hb0 hb1).mono ?_)); rintro e w1 ⟨rfl, rfl⟩))
  go_loopw [9] (fun i wr => ∃ k : Nat, k ≤ 7 ∧ i = .int .i64 k ∧ WayAt wr w.heap.size w2.heap.size (w2.heap.size + 1 + 1) (stAt a k) ∧ Below w.heap.size w wr) (fun i _ => 7 - (intOf i).toNat)
  case atStart => exact ⟨0, by omega, rfl, way_begin a (fit_small ha0 (by omega)) _ _ (by omega) hog, ((hB2.alloc (by omega) _).alloc (by simp; omega) _).alloc (by simp; omega) _⟩
  case round =>
    obtain ⟨k, hk, rfl, hA, hb⟩ := hrel
    by_cases hlt : k < 7
    · obtain ⟨hl1, hl2, l, hwl, hfl⟩ := HK.out k hlt
      have hA' := hA
      obtain ⟨n, D, v, ho, hr, hnn, hm, hrow, hsh⟩ := hA'.ex
      obtain ⟨g, cap, rfl, _, hgl⟩ := hrow.form (by omega)
      have hcell := hrow.cells rfl k (.int .i64 ((stAt a k).getD k (0, [])).1) (by simp [keysOf, List.getElem?_eq_getElem hl1])
      rw [add_plain] at hcell
      generalize hkey : ((stAt a k).getD k (0, [])).1 = key at *
      have hcm := blk_cell hm 0
      have HE : Hid (stAt a (k + 1) = expand key (stAt a k)) := Lib.hid (by rw [← hkey]; rfl)
      clear hkey
      have HW := Lib.hid hwl
      clear hwl
      have HC := (stAt a k).length
      go_wp2_with (go_at_call 25; refine (further_core w.heap.size w.heap.size w2.heap.size (w2.heap.size + 1 + 1) key hfl (stAt a k) l HW.out (by omega) _ hA (Nat.le_refl _) (by omega) (by omega)).mono ?_; rintro e w3 ⟨rfl, hA3, hb3⟩)
      go_roundw
      case rel => exact ⟨k + 1, by omega, by go_num, by rw [HE.out]; exact hA3, hb.trans hb3⟩
      case measure => simp [intOf]; omega
    · have hk7 : k = 7 := by omega
      subst hk7
      have hl7 := HL7.out
      obtain ⟨n, D, v, ho, hr, hnn, hm, hrow, hsh⟩ := hA.ex
      rw [hl7] at hnn hrow
      obtain ⟨g, cap, rfl, _, hgl⟩ := hrow.form (by omega)
      have hcm := blk_cell hm 0
      have hcw := blk_cell hA.bw 0
      clear hl7
      go_wp2_with (at_lookup; refine wpList_lookup_groups _ rfl _ _ 50 rfl 3 22 3 .i64 keyedInt under_ways (zeroInts _) (w.heap.size + 1) w.heap.size n D rfl ho (by unfold maxLen; omega) (.int .i64 b) (.int .i64 b) rfl (keyI (fit_small hb0 (by omega))) ?_; intro vr zs hat hoi hzl _)
      go_ret2
      obtain rfl := way_end a b ha0 ha1 hb0 hb1 hr hat hoi
      exact ⟨vr, rfl, own_weaken hoi.1 (by omega), hb⟩
def protocol_Way.f (a0 a1 : Int) : Option (List Int × Int) := if (0 ≤ a0 ∧ a0 ≤ 6) ∧ 0 ≤ a1 ∧ a1 ≤ 6 then some (wayTo a0 a1, 0) else some ([], 200)
theorem protocol_Way.calls (a0 a1 : Int) (r1 : List Int) (r2 : Int) (w : World) (h : protocol_Way.f a0 a1 = some (r1, r2)) : Calls Tryd.prog 11 #[.int .i64 a0, .int .i64 a1] w fun e w' => ∃ v0_ : Value, e = .returned (.tuple #[v0_, .int .i64 r2]) ∧ Kd.R (Kd.int .i64) 3 w' w.heap.size (fun _ => True) v0_ r1 ∧ Below w.heap.size w w' := by
  unfold protocol_Way.f at h
  split at h
  · rename_i hf
    obtain ⟨h1, h2⟩ := Prod.mk.inj (Option.some.inj h)
    subst h1 h2
    exact (way_core a0 a1 hf.1.1 hf.1.2 hf.2.1 hf.2.2 w).mono fun e w' ⟨v, he, hr, hb⟩ => ⟨v, he, Kd.R_of_own hr (fun _ _ => trivial), hb⟩
  · rename_i hf
    obtain ⟨h1, h2⟩ := Prod.mk.inj (Option.some.inj h)
    subst h1 h2
    refine (way_no a0 a1 w (by omega)).mono fun e w' ⟨he, hw⟩ => ⟨_, he, Kd.R_of_own (xs := []) (World.ownsRow_nil _ _ _ _) (fun _ _ => trivial), by subst hw; exact Below.refl _ _⟩
end Go.Proofs.YtbbiihifhdcniaaDoor.Hand
