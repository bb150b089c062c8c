/- What 'vesperslaw13.alive' computes, by hand. -/
import Derived.Test.YtfhkmokgbndeeaaHandCap5
set_option linter.unusedVariables false
set_option linter.unusedSimpArgs false
namespace Go.Proofs.Ytfhkmokgbndeeaa.Hand
open Go.RowKit Go.Shelf Go.Proofs.Ytfhkmokgbndeeaa.Cap Go.Proofs.Ytfhkmokgbndeeaa.PA Go.Proofs.YtfhkmokgbndeeaaW.PrintWords Go.Proofs.YtfhkmokgbndeeaaW.PrintMore

theorem enc_none : encC none32 = #[.bool false, .int .i64 0, .bool false, .int .i64 0, .bool false, .int .i64 0, .bool false, .int .i64 0, .bool false, .int .i64 0, .bool false, .int .i64 0, .bool false, .int .i64 0, .bool false, .int .i64 0, .bool false, .int .i64 0, .bool false, .int .i64 0, .bool false, .int .i64 0, .bool false, .int .i64 0, .bool false, .int .i64 0, .bool false, .int .i64 0, .bool false, .int .i64 0, .bool false, .int .i64 0, .bool false, .int .i64 0, .bool false, .int .i64 0, .bool false, .int .i64 0, .bool false, .int .i64 0, .bool false, .int .i64 0, .bool false, .int .i64 0, .bool false, .int .i64 0, .bool false, .int .i64 0, .bool false, .int .i64 0, .bool false, .int .i64 0, .bool false, .int .i64 0, .bool false, .int .i64 0, .bool false, .int .i64 0, .bool false, .int .i64 0, .bool false, .int .i64 0, .bool false, .int .i64 0] := by rfl
theorem new_cap (w : World) : ∃ W0, w.alloc (.cells #[.bool false, .int .i64 0, .bool false, .int .i64 0, .bool false, .int .i64 0, .bool false, .int .i64 0, .bool false, .int .i64 0, .bool false, .int .i64 0, .bool false, .int .i64 0, .bool false, .int .i64 0, .bool false, .int .i64 0, .bool false, .int .i64 0, .bool false, .int .i64 0, .bool false, .int .i64 0, .bool false, .int .i64 0, .bool false, .int .i64 0, .bool false, .int .i64 0, .bool false, .int .i64 0, .bool false, .int .i64 0, .bool false, .int .i64 0, .bool false, .int .i64 0, .bool false, .int .i64 0, .bool false, .int .i64 0, .bool false, .int .i64 0, .bool false, .int .i64 0, .bool false, .int .i64 0, .bool false, .int .i64 0, .bool false, .int .i64 0, .bool false, .int .i64 0, .bool false, .int .i64 0, .bool false, .int .i64 0, .bool false, .int .i64 0, .bool false, .int .i64 0, .bool false, .int .i64 0] 30) = W0 ∧ CapAt W0 w.heap.size none32 ∧ Below w.heap.size w W0 ∧ W0.heap.size = w.heap.size + 1 :=
  ⟨_, rfl, ⟨rfl, by rw [enc_none]; exact heap_alloc_new _ _⟩, (Below.refl _ w).alloc (Nat.le_refl _) _, by simp⟩
theorem note_at (g : Nat) (n ch by_ : Int) (m : Cp) (e : Int) (m' : Cp) (he : noteE m n ch by_ = e) (hm : noteM m n ch by_ = m') (w : World) (hC : CapAt w g m) :
    Calls Try.prog 10 #[.pointer (some ⟨g, 0, none⟩), .int .i64 n, .int .i64 ch, .int .i64 by_] w fun x w' => x = .returned (.int .i64 e) ∧ CapAt w' g m' ∧ w.grownBy w' (some g) := by
  subst he hm
  exact note_core g n ch by_ m w hC
theorem of_at (g : Nat) (n : Int) (m : Cp) (hf : FitM m) (r : Int × Bool) (hr : ofR m n = r) (w : World) (hC : CapAt w g m) : Calls Try.prog 16 #[.pointer (some ⟨g, 0, none⟩), .int .i64 n] w fun e w' => e = .returned (.tuple #[.int .i64 r.1, .bool r.2]) ∧ Below w.heap.size w w' := by
  subst hr
  exact of_core g n m hf w hC
theorem values_at (g : Nat) (own : Int) (m : Cp) (hf : FitM m) (l : List Int) (hl : valL m own (List.range 16) = l) (w : World) (hC : CapAt w g m) : Calls Try.prog 14 #[.pointer (some ⟨g, 0, none⟩), .int .i64 own] w fun e w' => ∃ v, e = .returned v ∧ Kd.R (Kd.int .i64) 2 w' w.heap.size (fun _ => True) v l ∧ Below w.heap.size w w' := by
  subst hl
  exact values_core g own m hf w hC
theorem count_at (g : Nat) (m : Cp) (hf : FitM m) (n : Int) (hn : ((devL m (List.range 16)).length : Int) = n) (w : World) (hC : CapAt w g m) : Calls Try.prog 15 #[.pointer (some ⟨g, 0, none⟩)] w fun e w' => e = .returned (.int .i64 n) ∧ Below w.heap.size w w' := by
  subst hn
  exact count_core g m hf w hC
theorem lit_C (W : World) (l : List Int) (n : Nat) (hn : W.heap.size = n) (hl : l.length ≤ 1000) : Kd.C (Kd.int .i64) (W.alloc (.cells (l.map (Value.int .i64)).toArray 2)) (some ⟨n, 0, none⟩) l.length l := by
  subst hn
  have h := own_lit_of (enc := Value.int .i64) W 0 2 l (Nat.zero_le _) (by omega)
  exact (Kd.R_reads' (Kd.R_of_own (h1 := fun _ => rfl) (ok := fun _ => True) h (fun _ _ => trivial))).2.2
def aM1 : Cp := noteM none32 3 0 7
def aM2 : Cp := noteM aM1 3 1 8
def aM3 : Cp := noteM aM2 1 1 (-4)
theorem fM1 : FitM aM1 := FitM.none.note _ _ _
theorem fM2 : FitM aM2 := fM1.note _ _ _
theorem fM3 : FitM aM3 := fM2.note _ _ _
theorem aN1 (g : Nat) (w : World) (hC : CapAt w g none32) : Calls Try.prog 10 #[.pointer (some ⟨g, 0, none⟩), .int .i64 3, .int .i64 0, .int .i64 7] w fun x w' => x = .returned (.int .i64 0) ∧ CapAt w' g aM1 ∧ w.grownBy w' (some g) := note_at g 3 0 7 none32 0 aM1 (by decide +kernel) rfl w hC
theorem aN2 (g : Nat) (w : World) (hC : CapAt w g aM1) : Calls Try.prog 10 #[.pointer (some ⟨g, 0, none⟩), .int .i64 3, .int .i64 1, .int .i64 8] w fun x w' => x = .returned (.int .i64 0) ∧ CapAt w' g aM2 ∧ w.grownBy w' (some g) := note_at g 3 1 8 aM1 0 aM2 (by decide +kernel) rfl w hC
theorem aN3 (g : Nat) (w : World) (hC : CapAt w g aM2) : Calls Try.prog 10 #[.pointer (some ⟨g, 0, none⟩), .int .i64 3, .int .i64 1, .int .i64 9] w fun x w' => x = .returned (.int .i64 130) ∧ CapAt w' g aM2 ∧ w.grownBy w' (some g) := note_at g 3 1 9 aM2 130 aM2 (by decide +kernel) (by decide +kernel) w hC
theorem aN4 (g : Nat) (w : World) (hC : CapAt w g aM2) : Calls Try.prog 10 #[.pointer (some ⟨g, 0, none⟩), .int .i64 1, .int .i64 1, .int .i64 (-4)] w fun x w' => x = .returned (.int .i64 0) ∧ CapAt w' g aM3 ∧ w.grownBy w' (some g) := note_at g 1 1 (-4) aM2 0 aM3 (by decide +kernel) rfl w hC
theorem aOf (g : Nat) (w : World) (hC : CapAt w g aM2) : Calls Try.prog 16 #[.pointer (some ⟨g, 0, none⟩), .int .i64 3] w fun e w' => e = .returned (.tuple #[.int .i64 7, .bool true]) ∧ Below w.heap.size w w' := of_at g 3 aM2 fM2 (7, true) (by decide +kernel) w hC
theorem aVal (g : Nat) (w : World) (hC : CapAt w g aM3) : Calls Try.prog 14 #[.pointer (some ⟨g, 0, none⟩), .int .i64 2] w fun e w' => ∃ A c, e = .returned (.slice A 3 c) ∧ 3 ≤ c ∧ Kd.C (Kd.int .i64) w' A 3 [-4, 0, 7] ∧ Below w.heap.size w w' :=
  (values_at g 2 aM3 fM3 [-4, 0, 7] (by decide +kernel) w hC).mono fun e w' ⟨v, he, hO, hb⟩ => by
    obtain ⟨A, c, rfl⟩ := Kd.R_slice hO
    exact ⟨A, c, he, (Kd.R_reads' hO).2.1, (Kd.R_reads' hO).2.2, hb⟩
theorem aCnt (g : Nat) (w : World) (hC : CapAt w g aM3) : Calls Try.prog 15 #[.pointer (some ⟨g, 0, none⟩)] w fun e w' => e = .returned (.int .i64 2) ∧ Below w.heap.size w w' := count_at g aM3 fM3 2 (by decide +kernel) w hC
theorem aLng (A : Option Addr) (c h : Nat) (w : World) (hc : 3 ≤ c) (h0 : Kd.C (Kd.int .i64) w A 3 [-4, 0, 7]) (h1 : Kd.C (Kd.int .i64) w (some ⟨h, 0, none⟩) 3 [-4, 0, 7]) : Calls Try.prog 13 #[.slice A 3 c, .slice (some ⟨h, 0, none⟩) 3 3] w fun e w' => e = .returned (.bool true) ∧ Drawn0 w w' :=
  vespersref13_Longs.calls 9 A c [-4, 0, 7] (some ⟨h, 0, none⟩) 3 [-4, 0, 7] true w h0 hc h1 (by decide) (by decide +kernel)
set_option maxRecDepth 100000 in
set_option maxHeartbeats 2000000 in
theorem alive_walk (m0 m1 m2 m3 : Cp) (hm0 : none32 = m0) (aN1 : ∀ (g : Nat) (w : World), CapAt w g m0 → Calls Try.prog 10 #[.pointer (some ⟨g, 0, none⟩), .int .i64 3, .int .i64 0, .int .i64 7] w fun x w' => x = .returned (.int .i64 0) ∧ CapAt w' g m1 ∧ w.grownBy w' (some g))
    (aN2 : ∀ (g : Nat) (w : World), CapAt w g m1 → Calls Try.prog 10 #[.pointer (some ⟨g, 0, none⟩), .int .i64 3, .int .i64 1, .int .i64 8] w fun x w' => x = .returned (.int .i64 0) ∧ CapAt w' g m2 ∧ w.grownBy w' (some g))
    (aN3 : ∀ (g : Nat) (w : World), CapAt w g m2 → Calls Try.prog 10 #[.pointer (some ⟨g, 0, none⟩), .int .i64 3, .int .i64 1, .int .i64 9] w fun x w' => x = .returned (.int .i64 130) ∧ CapAt w' g m2 ∧ w.grownBy w' (some g))
    (aN4 : ∀ (g : Nat) (w : World), CapAt w g m2 → Calls Try.prog 10 #[.pointer (some ⟨g, 0, none⟩), .int .i64 1, .int .i64 1, .int .i64 (-4)] w fun x w' => x = .returned (.int .i64 0) ∧ CapAt w' g m3 ∧ w.grownBy w' (some g))
    (aOf : ∀ (g : Nat) (w : World), CapAt w g m2 → Calls Try.prog 16 #[.pointer (some ⟨g, 0, none⟩), .int .i64 3] w fun e w' => e = .returned (.tuple #[.int .i64 7, .bool true]) ∧ Below w.heap.size w w')
    (aVal : ∀ (g : Nat) (w : World), CapAt w g m3 → Calls Try.prog 14 #[.pointer (some ⟨g, 0, none⟩), .int .i64 2] w fun e w' => ∃ A c, e = .returned (.slice A 3 c) ∧ 3 ≤ c ∧ Kd.C (Kd.int .i64) w' A 3 [-4, 0, 7] ∧ Below w.heap.size w w')
    (aCnt : ∀ (g : Nat) (w : World), CapAt w g m3 → Calls Try.prog 15 #[.pointer (some ⟨g, 0, none⟩)] w fun e w' => e = .returned (.int .i64 2) ∧ Below w.heap.size w w')
    (w : World) : Calls Try.prog 9 #[] w fun e w' => e = .returned (.bool true) ∧ Below w.heap.size w w' := by
  go_enter Try.func9, Try.ntmps9
  go_upto_region 2 with (fail)
  obtain ⟨W0, hW0, hC0, hB, _⟩ := new_cap w
  rw [hW0]
  rw [hm0] at hC0
  clear hW0 hm0
  go_upto_region 3 with (first | (go_at_call 10; (with_reducible refine (aN1 w.heap.size _ hC0).mono ?_); rintro e w1 ⟨rfl, hC1, hG⟩; replace hB := hB.grown hG hB.size (fun j q => by cases q; exact Nat.le_refl _); clear hG) | (go_at_call 10; (with_reducible refine (aN2 w.heap.size _ hC1).mono ?_); rintro e w1 ⟨rfl, hC2, hG⟩; replace hB := hB.grown hG hB.size (fun j q => by cases q; exact Nat.le_refl _); clear hG))
  go_upto_region 4 with (go_at_call 16; refine (aOf w.heap.size _ hC2).mono ?_; rintro e w1 ⟨rfl, hb⟩; replace hC2 := hC2.below hb; replace hB := below_step hB hb; clear hb)
  go_upto_region 5 with (first | (go_at_call 10; (with_reducible refine (aN3 w.heap.size _ hC2).mono ?_); rintro e w1 ⟨rfl, hC3, hG⟩; replace hB := hB.grown hG hB.size (fun j q => by cases q; exact Nat.le_refl _); clear hG) | (go_at_call 10; (with_reducible refine (aN4 w.heap.size _ hC3).mono ?_); rintro e w1 ⟨rfl, hC4, hG⟩; replace hB := hB.grown hG hB.size (fun j q => by cases q; exact Nat.le_refl _); clear hG))
  go_wp2_with (first
    | (go_at_call 14; refine (aVal w.heap.size _ hC4).mono ?_; rintro e w1 ⟨A1, c1, rfl, hc1, hO, hb⟩; replace hC4 := hC4.below hb; replace hB := below_step hB hb; clear hb)
    | (go_at_call 13; refine (aLng A1 c1 _ _ hc1 (Kd.C_alloc hO _) (lit_C _ [-4, 0, 7] _ rfl (by decide))).mono ?_; rintro e w2 ⟨rfl, ⟨nd, rfl⟩⟩; replace hC4 := (hC4.below ((Below.refl _ _).alloc (Nat.le_refl _) (.cells #[.int .i64 (-4), .int .i64 0, .int .i64 7] 2))); replace hB := hB.alloc hB.size (.cells #[.int .i64 (-4), .int .i64 0, .int .i64 7] 2); replace hC4 := (hC4.below (pw_below_drewN (Below.refl _ _) nd)); replace hB := pw_below_drewN hB nd)
    | (go_at_call 15; refine (aCnt w.heap.size _ hC4).mono ?_; rintro e w3 ⟨rfl, hb⟩; replace hB := below_step hB hb; clear hb))
  go_ret
  exact ⟨rfl, hB⟩
theorem alive_core (w : World) : Calls Try.prog 9 #[] w fun e w' => e = .returned (.bool true) ∧ Below w.heap.size w w' :=
  alive_walk none32 aM1 aM2 aM3 rfl aN1 aN2 aN3 aN4 aOf aVal aCnt w
end Go.Proofs.Ytfhkmokgbndeeaa.Hand
