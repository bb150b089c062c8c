/- What 'vesperslaw13.CaptureNames' computes, by hand (printed by wip/mknames.py). -/
import Derived.Test.YtfhkmokgbndeeaaHandCapNil
set_option linter.unusedVariables false
set_option linter.unusedSimpArgs false
namespace Go.Proofs.Ytfhkmokgbndeeaa.Hand
open Go.RowKit Go.Proofs.Ytfhkmokgbndeeaa.Cap Go.Proofs.Ytfhkmokgbndeeaa.PA Go.Proofs.Ytfhkmokgbndeeaa.PB Go.Proofs.YtfhkmokgbndeeaaW.PrintWords Go.Proofs.YtfhkmokgbndeeaaW.PrintLast Go.Proofs.YtfhkmokgbndeeaaW.PrintMore
attribute [local go_sem] Oper.semAt_some
def cM1 : Cp := noteM none32 0 0 (-4294967296)
def cM2 : Cp := noteM cM1 15 1 4294967296
def cM3 : Cp := noteM cM2 5 0 (-4)
def cM4 : Cp := noteM cM3 5 1 (-3)
def cM5 : Cp := forgetM cM4 5
def cM6 : Cp := noteM cM5 5 1 2
theorem gM1 : FitM cM1 := FitM.none.note _ _ _
theorem gM2 : FitM cM2 := gM1.note _ _ _
theorem gM3 : FitM cM3 := gM2.note _ _ _
theorem gM4 : FitM cM4 := gM3.note _ _ _
theorem gM5 : FitM cM5 := gM4.forget _
theorem gM6 : FitM cM6 := gM5.note _ _ _
def badL : List S32 := [⟨0, -1, 0, 0⟩, ⟨0, 16, 0, 0⟩, ⟨0, 0, 2, 0⟩, ⟨0, 0, -1, 0⟩, ⟨0, 0, 0, 4294967297⟩, ⟨0, 0, 0, -4294967297⟩]
theorem cN1 : ∀ (g : Nat) (w : World), CapAt w g none32 → Calls Try.prog 10 #[.pointer (some ⟨g, 0, none⟩), .int .i64 0, .int .i64 0, .int .i64 (-4294967296)] w fun x w' => x = .returned (.int .i64 0) ∧ CapAt w' g cM1 ∧ w.grownBy w' (some g) := fun g w hC => note_at g (0) (0) (-4294967296) none32 0 cM1 (by decide +kernel) rfl w hC
theorem cN2 : ∀ (g : Nat) (w : World), CapAt w g cM1 → Calls Try.prog 10 #[.pointer (some ⟨g, 0, none⟩), .int .i64 15, .int .i64 1, .int .i64 4294967296] w fun x w' => x = .returned (.int .i64 0) ∧ CapAt w' g cM2 ∧ w.grownBy w' (some g) := fun g w hC => note_at g (15) (1) (4294967296) cM1 0 cM2 (by decide +kernel) rfl w hC
theorem cN3 : ∀ (g : Nat) (w : World), CapAt w g cM2 → Calls Try.prog 10 #[.pointer (some ⟨g, 0, none⟩), .int .i64 5, .int .i64 0, .int .i64 (-4)] w fun x w' => x = .returned (.int .i64 0) ∧ CapAt w' g cM3 ∧ w.grownBy w' (some g) := fun g w hC => note_at g (5) (0) (-4) cM2 0 cM3 (by decide +kernel) rfl w hC
theorem cN4 : ∀ (g : Nat) (w : World), CapAt w g cM3 → Calls Try.prog 10 #[.pointer (some ⟨g, 0, none⟩), .int .i64 5, .int .i64 1, .int .i64 (-3)] w fun x w' => x = .returned (.int .i64 0) ∧ CapAt w' g cM4 ∧ w.grownBy w' (some g) := fun g w hC => note_at g (5) (1) (-3) cM3 0 cM4 (by decide +kernel) rfl w hC
theorem cN5 : ∀ (g : Nat) (w : World), CapAt w g cM5 → Calls Try.prog 10 #[.pointer (some ⟨g, 0, none⟩), .int .i64 5, .int .i64 1, .int .i64 2] w fun x w' => x = .returned (.int .i64 0) ∧ CapAt w' g cM6 ∧ w.grownBy w' (some g) := fun g w hC => note_at g (5) (1) (2) cM5 0 cM6 (by decide +kernel) rfl w hC
theorem cO5 : ∀ (g : Nat) (w : World), CapAt w g cM4 → Calls Try.prog 16 #[.pointer (some ⟨g, 0, none⟩), .int .i64 5] w fun e w' => e = .returned (.tuple #[.int .i64 (-4), .bool true]) ∧ Below w.heap.size w w' := fun g w hC => of_at g 5 cM4 gM4 ((-4), true) (by decide +kernel) w hC
theorem cO6 : ∀ (g : Nat) (w : World), CapAt w g cM4 → Calls Try.prog 16 #[.pointer (some ⟨g, 0, none⟩), .int .i64 6] w fun e w' => e = .returned (.tuple #[.int .i64 0, .bool false]) ∧ Below w.heap.size w w' := fun g w hC => of_at g 6 cM4 gM4 (0, false) (by decide +kernel) w hC
theorem cO16 : ∀ (g : Nat) (w : World), CapAt w g cM4 → Calls Try.prog 16 #[.pointer (some ⟨g, 0, none⟩), .int .i64 16] w fun e w' => e = .returned (.tuple #[.int .i64 0, .bool false]) ∧ Below w.heap.size w w' := fun g w hC => of_at g 16 cM4 gM4 (0, false) (by decide +kernel) w hC
theorem cV99 : ∀ (g : Nat) (w : World), CapAt w g cM4 → Calls Try.prog 14 #[.pointer (some ⟨g, 0, none⟩), .int .i64 99] w fun e w' => ∃ A c, e = .returned (.slice A 3 c) ∧ 3 ≤ c ∧ Kd.C (Kd.int .i64) w' A 3 [-4294967296, -4, 4294967296] ∧ Below w.heap.size w w' := fun g w hC => (values_at g 99 cM4 gM4 [-4294967296, -4, 4294967296] (by decide +kernel) w hC).mono fun e w' ⟨v, he, hO, hb⟩ => by
    obtain ⟨A, c, rfl⟩ := Kd.R_slice hO
    exact ⟨A, c, he, (Kd.R_reads' hO).2.1, (Kd.R_reads' hO).2.2, hb⟩
theorem cV5 : ∀ (g : Nat) (w : World), CapAt w g cM4 → Calls Try.prog 14 #[.pointer (some ⟨g, 0, none⟩), .int .i64 5] w fun e w' => ∃ A c, e = .returned (.slice A 3 c) ∧ 3 ≤ c ∧ Kd.C (Kd.int .i64) w' A 3 [-4294967296, 0, 4294967296] ∧ Below w.heap.size w w' := fun g w hC => (values_at g 5 cM4 gM4 [-4294967296, 0, 4294967296] (by decide +kernel) w hC).mono fun e w' ⟨v, he, hO, hb⟩ => by
    obtain ⟨A, c, rfl⟩ := Kd.R_slice hO
    exact ⟨A, c, he, (Kd.R_reads' hO).2.1, (Kd.R_reads' hO).2.2, hb⟩
theorem cV0 : ∀ (g : Nat) (w : World), CapAt w g none32 → Calls Try.prog 14 #[.pointer (some ⟨g, 0, none⟩), .int .i64 0] w fun e w' => ∃ A c, e = .returned (.slice A 1 c) ∧ 1 ≤ c ∧ Kd.C (Kd.int .i64) w' A 1 [0] ∧ Below w.heap.size w w' := fun g w hC => (values_at g 0 none32 FitM.none [0] (by decide +kernel) w hC).mono fun e w' ⟨v, he, hO, hb⟩ => by
    obtain ⟨A, c, rfl⟩ := Kd.R_slice hO
    exact ⟨A, c, he, (Kd.R_reads' hO).2.1, (Kd.R_reads' hO).2.2, hb⟩
theorem cF1 : ∀ (g : Nat) (w : World), CapAt w g cM4 → Calls Try.prog 17 #[.pointer (some ⟨g, 0, none⟩), .int .i64 5] w fun e w' => e = .returned (.bool true) ∧ CapAt w' g cM5 ∧ w.grownBy w' (some g) := fun g w hC => by
    have h := forget_core g 5 cM4 gM4 w hC
    rw [show (ofR cM4 5).2 = true by decide +kernel, show forgetM cM4 5 = cM5 by decide +kernel] at h
    exact h
theorem cF2 : ∀ (g : Nat) (w : World), CapAt w g cM5 → Calls Try.prog 17 #[.pointer (some ⟨g, 0, none⟩), .int .i64 5] w fun e w' => e = .returned (.bool false) ∧ CapAt w' g cM5 ∧ w.grownBy w' (some g) := fun g w hC => by
    have h := forget_core g 5 cM5 gM5 w hC
    rw [show (ofR cM5 5).2 = false by decide +kernel, show forgetM cM5 5 = cM5 by decide +kernel] at h
    exact h
theorem cCL : ∀ (g : Nat) (w : World), CapAt w g cM6 → Calls Try.prog 23 #[.pointer (some ⟨g, 0, none⟩)] w fun e w' => e = .returned (.int .i64 3) ∧ CapAt w' g none32 ∧ w.grownBy w' (some g) := fun g w hC => by
    have h := clear_core g cM6 gM6 w hC
    rw [show ((devL cM6 (List.range 16)).length : Int) = 3 by decide +kernel] at h
    exact h
theorem cCL0 : ∀ (g : Nat) (w : World), CapAt w g none32 → Calls Try.prog 23 #[.pointer (some ⟨g, 0, none⟩)] w fun e w' => e = .returned (.int .i64 0) ∧ CapAt w' g none32 ∧ w.grownBy w' (some g) := fun g w hC => by
    have h := clear_core g none32 FitM.none w hC
    rw [show ((devL none32 (List.range 16)).length : Int) = 0 by decide +kernel] at h
    exact h
theorem cCT0 : ∀ (g : Nat) (w : World), CapAt w g none32 → Calls Try.prog 15 #[.pointer (some ⟨g, 0, none⟩)] w fun e w' => e = .returned (.int .i64 0) ∧ Below w.heap.size w w' := fun g w hC => count_at g none32 FitM.none 0 (by decide +kernel) w hC
theorem cCTd : ∀ (g : Nat) (w : World), CapAt w g cM4 → Calls Try.prog 15 #[.pointer (some ⟨g, 0, none⟩)] w fun e w' => e = .returned (.int .i64 3) ∧ Below w.heap.size w w' := fun g w hC => count_at g cM4 gM4 3 (by decide +kernel) w hC
theorem bad_e : ∀ o ∈ badL, noteE none32 o.f1 o.f2 o.f3 = 130 := by decide +kernel
theorem cBad : ∀ o ∈ badL, ∀ (g : Nat) (w : World), CapAt w g none32 → Calls Try.prog 10 #[.pointer (some ⟨g, 0, none⟩), .int .i64 o.f1, .int .i64 o.f2, .int .i64 o.f3] w fun x w' => x = .returned (.int .i64 130) ∧ CapAt w' g none32 ∧ w.grownBy w' (some g) := fun o ho g w hC => note_at g _ _ _ none32 130 none32 (bad_e o ho) (by rcases noteE_cases none32 rfl o.f1 o.f2 o.f3 with ⟨_, h⟩ | ⟨h, _⟩; exact h; rw [bad_e o ho] at h; cases h) w hC
theorem cL3 (A : Option Addr) (c h : Nat) (w : World) (hc : 3 ≤ c) (h0 : Kd.C (Kd.int .i64) w A 3 [-4294967296, -4, 4294967296]) (h1 : Kd.C (Kd.int .i64) w (some ⟨h, 0, none⟩) 3 [-4294967296, -4, 4294967296]) : Calls Try.prog 13 #[.slice A 3 c, .slice (some ⟨h, 0, none⟩) 3 3] w fun e w' => e = .returned (.bool true) ∧ Drawn0 w w' :=
  vespersref13_Longs.calls 9 A c [-4294967296, -4, 4294967296] (some ⟨h, 0, none⟩) 3 [-4294967296, -4, 4294967296] true w h0 hc h1 (by decide) (by decide +kernel)
theorem cL5 (A : Option Addr) (c h : Nat) (w : World) (hc : 3 ≤ c) (h0 : Kd.C (Kd.int .i64) w A 3 [-4294967296, 0, 4294967296]) (h1 : Kd.C (Kd.int .i64) w (some ⟨h, 0, none⟩) 3 [-4294967296, 0, 4294967296]) : Calls Try.prog 13 #[.slice A 3 c, .slice (some ⟨h, 0, none⟩) 3 3] w fun e w' => e = .returned (.bool true) ∧ Drawn0 w w' :=
  vespersref13_Longs.calls 9 A c [-4294967296, 0, 4294967296] (some ⟨h, 0, none⟩) 3 [-4294967296, 0, 4294967296] true w h0 hc h1 (by decide) (by decide +kernel)
theorem cL0 (A : Option Addr) (c h : Nat) (w : World) (hc : 1 ≤ c) (h0 : Kd.C (Kd.int .i64) w A 1 [0]) (h1 : Kd.C (Kd.int .i64) w (some ⟨h, 0, none⟩) 1 [0]) : Calls Try.prog 13 #[.slice A 1 c, .slice (some ⟨h, 0, none⟩) 1 1] w fun e w' => e = .returned (.bool true) ∧ Drawn0 w w' :=
  vespersref13_Longs.calls 9 A c [0] (some ⟨h, 0, none⟩) 1 [0] true w h0 hc h1 (by decide) (by decide +kernel)
set_option maxRecDepth 100000 in
set_option maxHeartbeats 4000000 in
theorem names_walk (m0 m1 m2 m3 m4 m5 m6 : Cp) (hm0 : none32 = m0)
    (N1 : ∀ (g : Nat) (w : World), CapAt w g m0 → Calls Try.prog 10 #[.pointer (some ⟨g, 0, none⟩), .int .i64 0, .int .i64 0, .int .i64 (-4294967296)] w fun x w' => x = .returned (.int .i64 0) ∧ CapAt w' g m1 ∧ w.grownBy w' (some g))
    (N2 : ∀ (g : Nat) (w : World), CapAt w g m1 → Calls Try.prog 10 #[.pointer (some ⟨g, 0, none⟩), .int .i64 15, .int .i64 1, .int .i64 4294967296] w fun x w' => x = .returned (.int .i64 0) ∧ CapAt w' g m2 ∧ w.grownBy w' (some g))
    (N3 : ∀ (g : Nat) (w : World), CapAt w g m2 → Calls Try.prog 10 #[.pointer (some ⟨g, 0, none⟩), .int .i64 5, .int .i64 0, .int .i64 (-4)] w fun x w' => x = .returned (.int .i64 0) ∧ CapAt w' g m3 ∧ w.grownBy w' (some g))
    (N4 : ∀ (g : Nat) (w : World), CapAt w g m3 → Calls Try.prog 10 #[.pointer (some ⟨g, 0, none⟩), .int .i64 5, .int .i64 1, .int .i64 (-3)] w fun x w' => x = .returned (.int .i64 0) ∧ CapAt w' g m4 ∧ w.grownBy w' (some g))
    (N5 : ∀ (g : Nat) (w : World), CapAt w g m5 → Calls Try.prog 10 #[.pointer (some ⟨g, 0, none⟩), .int .i64 5, .int .i64 1, .int .i64 2] w fun x w' => x = .returned (.int .i64 0) ∧ CapAt w' g m6 ∧ w.grownBy w' (some g))
    (O5 : ∀ (g : Nat) (w : World), CapAt w g m4 → Calls Try.prog 16 #[.pointer (some ⟨g, 0, none⟩), .int .i64 5] w fun e w' => e = .returned (.tuple #[.int .i64 (-4), .bool true]) ∧ Below w.heap.size w w')
    (O6 : ∀ (g : Nat) (w : World), CapAt w g m4 → Calls Try.prog 16 #[.pointer (some ⟨g, 0, none⟩), .int .i64 6] w fun e w' => e = .returned (.tuple #[.int .i64 0, .bool false]) ∧ Below w.heap.size w w')
    (O16 : ∀ (g : Nat) (w : World), CapAt w g m4 → Calls Try.prog 16 #[.pointer (some ⟨g, 0, none⟩), .int .i64 16] w fun e w' => e = .returned (.tuple #[.int .i64 0, .bool false]) ∧ Below w.heap.size w w')
    (V99 : ∀ (g : Nat) (w : World), CapAt w g m4 → Calls Try.prog 14 #[.pointer (some ⟨g, 0, none⟩), .int .i64 99] w fun e w' => ∃ A c, e = .returned (.slice A 3 c) ∧ 3 ≤ c ∧ Kd.C (Kd.int .i64) w' A 3 [-4294967296, -4, 4294967296] ∧ Below w.heap.size w w')
    (V5 : ∀ (g : Nat) (w : World), CapAt w g m4 → Calls Try.prog 14 #[.pointer (some ⟨g, 0, none⟩), .int .i64 5] w fun e w' => ∃ A c, e = .returned (.slice A 3 c) ∧ 3 ≤ c ∧ Kd.C (Kd.int .i64) w' A 3 [-4294967296, 0, 4294967296] ∧ Below w.heap.size w w')
    (V0 : ∀ (g : Nat) (w : World), CapAt w g m0 → Calls Try.prog 14 #[.pointer (some ⟨g, 0, none⟩), .int .i64 0] w fun e w' => ∃ A c, e = .returned (.slice A 1 c) ∧ 1 ≤ c ∧ Kd.C (Kd.int .i64) w' A 1 [0] ∧ Below w.heap.size w w')
    (F1 : ∀ (g : Nat) (w : World), CapAt w g m4 → Calls Try.prog 17 #[.pointer (some ⟨g, 0, none⟩), .int .i64 5] w fun e w' => e = .returned (.bool true) ∧ CapAt w' g m5 ∧ w.grownBy w' (some g))
    (F2 : ∀ (g : Nat) (w : World), CapAt w g m5 → Calls Try.prog 17 #[.pointer (some ⟨g, 0, none⟩), .int .i64 5] w fun e w' => e = .returned (.bool false) ∧ CapAt w' g m5 ∧ w.grownBy w' (some g))
    (CL : ∀ (g : Nat) (w : World), CapAt w g m6 → Calls Try.prog 23 #[.pointer (some ⟨g, 0, none⟩)] w fun e w' => e = .returned (.int .i64 3) ∧ CapAt w' g m0 ∧ w.grownBy w' (some g))
    (CL0 : ∀ (g : Nat) (w : World), CapAt w g m0 → Calls Try.prog 23 #[.pointer (some ⟨g, 0, none⟩)] w fun e w' => e = .returned (.int .i64 0) ∧ CapAt w' g m0 ∧ w.grownBy w' (some g))
    (CT0 : ∀ (g : Nat) (w : World), CapAt w g m0 → Calls Try.prog 15 #[.pointer (some ⟨g, 0, none⟩)] w fun e w' => e = .returned (.int .i64 0) ∧ Below w.heap.size w w')
    (CTd : ∀ (g : Nat) (w : World), CapAt w g m4 → Calls Try.prog 15 #[.pointer (some ⟨g, 0, none⟩)] w fun e w' => e = .returned (.int .i64 3) ∧ Below w.heap.size w w')
    (Bad : ∀ o ∈ badL, ∀ (g : Nat) (w : World), CapAt w g m0 → Calls Try.prog 10 #[.pointer (some ⟨g, 0, none⟩), .int .i64 o.f1, .int .i64 o.f2, .int .i64 o.f3] w fun x w' => x = .returned (.int .i64 130) ∧ CapAt w' g m0 ∧ w.grownBy w' (some g))
    (w : World) : Calls Try.prog 7 #[] w fun e w' => e = .returned (.bool true) ∧ Below w.heap.size w w' := by
  go_enter Try.func7, Try.ntmps7
  go_upto_region 2 with (fail)
  obtain ⟨W0, hW0, hC, hB, hsz⟩ := new_cap w
  rw [hW0]
  rw [hm0] at hC
  clear hW0 hm0
  obtain ⟨g, hg⟩ : ∃ g, w.heap.size = g := ⟨_, rfl⟩
  have hge : w.heap.size ≤ g := by omega
  rw [hg] at hC
  rw [hg]
  go_wp2_with (go_in)
  obtain ⟨W1, hW1⟩ : ∃ W1, W0.alloc (.cells #[.int .i64 0, .int .i64 (-1), .int .i64 0, .int .i64 0, .int .i64 0, .int .i64 16, .int .i64 0, .int .i64 0, .int .i64 0, .int .i64 0, .int .i64 2, .int .i64 0, .int .i64 0, .int .i64 0, .int .i64 (-1), .int .i64 0, .int .i64 0, .int .i64 0, .int .i64 0, .int .i64 4294967297, .int .i64 0, .int .i64 0, .int .i64 0, .int .i64 (-4294967297)] 32) = W1 := ⟨_, rfl⟩
  have hLB : W1.heap[g + 1]? = some (.cells #[.int .i64 0, .int .i64 (-1), .int .i64 0, .int .i64 0, .int .i64 0, .int .i64 16, .int .i64 0, .int .i64 0, .int .i64 0, .int .i64 0, .int .i64 2, .int .i64 0, .int .i64 0, .int .i64 0, .int .i64 (-1), .int .i64 0, .int .i64 0, .int .i64 0, .int .i64 0, .int .i64 4294967297, .int .i64 0, .int .i64 0, .int .i64 0, .int .i64 (-4294967297)] 32 (0, 0)) := by
    have h := heap_alloc_new W0 (.cells #[.int .i64 0, .int .i64 (-1), .int .i64 0, .int .i64 0, .int .i64 0, .int .i64 16, .int .i64 0, .int .i64 0, .int .i64 0, .int .i64 0, .int .i64 2, .int .i64 0, .int .i64 0, .int .i64 0, .int .i64 (-1), .int .i64 0, .int .i64 0, .int .i64 0, .int .i64 0, .int .i64 4294967297, .int .i64 0, .int .i64 0, .int .i64 0, .int .i64 (-4294967297)] 32)
    rw [hW1, hsz, hg] at h
    exact h
  have hB1 : Below W0.heap.size W0 W1 := by rw [← hW1]; exact (Below.refl _ _).alloc (Nat.le_refl _) _
  rw [hW1]
  replace hC := hC.below hB1
  replace hB := below_step hB hB1
  clear hB1 hW1 hsz hg
  go_loopw [2, 33] (fun v2 v33 wr => ∃ i : Nat, i ≤ 6 ∧ v2 = .int .i64 i ∧ v33 = .int .i64 i ∧ wr.heap[g + 1]? = some (.cells #[.int .i64 0, .int .i64 (-1), .int .i64 0, .int .i64 0, .int .i64 0, .int .i64 16, .int .i64 0, .int .i64 0, .int .i64 0, .int .i64 0, .int .i64 2, .int .i64 0, .int .i64 0, .int .i64 0, .int .i64 (-1), .int .i64 0, .int .i64 0, .int .i64 0, .int .i64 0, .int .i64 4294967297, .int .i64 0, .int .i64 0, .int .i64 0, .int .i64 (-4294967297)] 32 (0, 0)) ∧ CapAt wr g m0 ∧ Below w.heap.size w wr)
    (fun _ v33 _ => 6 - (intOf v33).toNat)
  case atStart => exact ⟨0, by omega, rfl, rfl, hLB, hC, hB⟩
  case round =>
    clear hLB hC hB
    obtain ⟨i, hi, rfl, rfl, hLB, hC, hB⟩ := hrel
    have hgw := hC.lt
    obtain hk | hk | hk | hk | hk | hk | hk : i = 0 ∨ i = 1 ∨ i = 2 ∨ i = 3 ∨ i = 4 ∨ i = 5 ∨ i = 6 := by omega
    · subst hk
      have q0 : wr.cell? ⟨g + 1, 0, none⟩ = some (.int .i64 0) := (blk_cell hLB 0).trans rfl
      have q1 : wr.cell? ⟨g + 1, 1, none⟩ = some (.int .i64 (-1)) := (blk_cell hLB 1).trans rfl
      have q2 : wr.cell? ⟨g + 1, 2, none⟩ = some (.int .i64 0) := (blk_cell hLB 2).trans rfl
      have q3 : wr.cell? ⟨g + 1, 3, none⟩ = some (.int .i64 0) := (blk_cell hLB 3).trans rfl
      have B := Bad ⟨0, -1, 0, 0⟩ (by simp [badL])
      dsimp only at B
      have hHC := hC.below ((Below.refl _ _).alloc (Nat.le_refl _) (.cells #[.int .i64 0, .int .i64 (-1), .int .i64 0, .int .i64 0] 32))
      have hHL := blk_alloc hLB (.cells #[.int .i64 0, .int .i64 (-1), .int .i64 0, .int .i64 0] 32)
      have hHB := hB.alloc hB.size (.cells #[.int .i64 0, .int .i64 (-1), .int .i64 0, .int .i64 0] 32)
      go_wp2_with (first
        | (go_at_call 10; (with_reducible refine (B g _ hHC).mono ?_); rintro e w5 ⟨rfl, hC5, hG5⟩)
        | (go_at_call 15; (with_reducible refine (CT0 g _ hC5).mono ?_); rintro e w6 ⟨rfl, hb6⟩))
      exact ⟨⟨1, by omega, by go_num, by go_num, blk_below (blk_grown hHL hG5 (by simp)) hb6, hC5.below hb6, below_step (hHB.grown hG5 hHB.size (fun j q => by cases q; exact hge)) hb6⟩, by simp [intOf]⟩
    · subst hk
      have q0 : wr.cell? ⟨g + 1, 4, none⟩ = some (.int .i64 0) := (blk_cell hLB 4).trans rfl
      have q1 : wr.cell? ⟨g + 1, 5, none⟩ = some (.int .i64 16) := (blk_cell hLB 5).trans rfl
      have q2 : wr.cell? ⟨g + 1, 6, none⟩ = some (.int .i64 0) := (blk_cell hLB 6).trans rfl
      have q3 : wr.cell? ⟨g + 1, 7, none⟩ = some (.int .i64 0) := (blk_cell hLB 7).trans rfl
      have B := Bad ⟨0, 16, 0, 0⟩ (by simp [badL])
      dsimp only at B
      have hHC := hC.below ((Below.refl _ _).alloc (Nat.le_refl _) (.cells #[.int .i64 0, .int .i64 16, .int .i64 0, .int .i64 0] 32))
      have hHL := blk_alloc hLB (.cells #[.int .i64 0, .int .i64 16, .int .i64 0, .int .i64 0] 32)
      have hHB := hB.alloc hB.size (.cells #[.int .i64 0, .int .i64 16, .int .i64 0, .int .i64 0] 32)
      go_wp2_with (first
        | (go_at_call 10; (with_reducible refine (B g _ hHC).mono ?_); rintro e w5 ⟨rfl, hC5, hG5⟩)
        | (go_at_call 15; (with_reducible refine (CT0 g _ hC5).mono ?_); rintro e w6 ⟨rfl, hb6⟩))
      exact ⟨⟨2, by omega, by go_num, by go_num, blk_below (blk_grown hHL hG5 (by simp)) hb6, hC5.below hb6, below_step (hHB.grown hG5 hHB.size (fun j q => by cases q; exact hge)) hb6⟩, by simp [intOf]⟩
    · subst hk
      have q0 : wr.cell? ⟨g + 1, 8, none⟩ = some (.int .i64 0) := (blk_cell hLB 8).trans rfl
      have q1 : wr.cell? ⟨g + 1, 9, none⟩ = some (.int .i64 0) := (blk_cell hLB 9).trans rfl
      have q2 : wr.cell? ⟨g + 1, 10, none⟩ = some (.int .i64 2) := (blk_cell hLB 10).trans rfl
      have q3 : wr.cell? ⟨g + 1, 11, none⟩ = some (.int .i64 0) := (blk_cell hLB 11).trans rfl
      have B := Bad ⟨0, 0, 2, 0⟩ (by simp [badL])
      dsimp only at B
      have hHC := hC.below ((Below.refl _ _).alloc (Nat.le_refl _) (.cells #[.int .i64 0, .int .i64 0, .int .i64 2, .int .i64 0] 32))
      have hHL := blk_alloc hLB (.cells #[.int .i64 0, .int .i64 0, .int .i64 2, .int .i64 0] 32)
      have hHB := hB.alloc hB.size (.cells #[.int .i64 0, .int .i64 0, .int .i64 2, .int .i64 0] 32)
      go_wp2_with (first
        | (go_at_call 10; (with_reducible refine (B g _ hHC).mono ?_); rintro e w5 ⟨rfl, hC5, hG5⟩)
        | (go_at_call 15; (with_reducible refine (CT0 g _ hC5).mono ?_); rintro e w6 ⟨rfl, hb6⟩))
      exact ⟨⟨3, by omega, by go_num, by go_num, blk_below (blk_grown hHL hG5 (by simp)) hb6, hC5.below hb6, below_step (hHB.grown hG5 hHB.size (fun j q => by cases q; exact hge)) hb6⟩, by simp [intOf]⟩
    · subst hk
      have q0 : wr.cell? ⟨g + 1, 12, none⟩ = some (.int .i64 0) := (blk_cell hLB 12).trans rfl
      have q1 : wr.cell? ⟨g + 1, 13, none⟩ = some (.int .i64 0) := (blk_cell hLB 13).trans rfl
      have q2 : wr.cell? ⟨g + 1, 14, none⟩ = some (.int .i64 (-1)) := (blk_cell hLB 14).trans rfl
      have q3 : wr.cell? ⟨g + 1, 15, none⟩ = some (.int .i64 0) := (blk_cell hLB 15).trans rfl
      have B := Bad ⟨0, 0, -1, 0⟩ (by simp [badL])
      dsimp only at B
      have hHC := hC.below ((Below.refl _ _).alloc (Nat.le_refl _) (.cells #[.int .i64 0, .int .i64 0, .int .i64 (-1), .int .i64 0] 32))
      have hHL := blk_alloc hLB (.cells #[.int .i64 0, .int .i64 0, .int .i64 (-1), .int .i64 0] 32)
      have hHB := hB.alloc hB.size (.cells #[.int .i64 0, .int .i64 0, .int .i64 (-1), .int .i64 0] 32)
      go_wp2_with (first
        | (go_at_call 10; (with_reducible refine (B g _ hHC).mono ?_); rintro e w5 ⟨rfl, hC5, hG5⟩)
        | (go_at_call 15; (with_reducible refine (CT0 g _ hC5).mono ?_); rintro e w6 ⟨rfl, hb6⟩))
      exact ⟨⟨4, by omega, by go_num, by go_num, blk_below (blk_grown hHL hG5 (by simp)) hb6, hC5.below hb6, below_step (hHB.grown hG5 hHB.size (fun j q => by cases q; exact hge)) hb6⟩, by simp [intOf]⟩
    · subst hk
      have q0 : wr.cell? ⟨g + 1, 16, none⟩ = some (.int .i64 0) := (blk_cell hLB 16).trans rfl
      have q1 : wr.cell? ⟨g + 1, 17, none⟩ = some (.int .i64 0) := (blk_cell hLB 17).trans rfl
      have q2 : wr.cell? ⟨g + 1, 18, none⟩ = some (.int .i64 0) := (blk_cell hLB 18).trans rfl
      have q3 : wr.cell? ⟨g + 1, 19, none⟩ = some (.int .i64 4294967297) := (blk_cell hLB 19).trans rfl
      have B := Bad ⟨0, 0, 0, 4294967297⟩ (by simp [badL])
      dsimp only at B
      have hHC := hC.below ((Below.refl _ _).alloc (Nat.le_refl _) (.cells #[.int .i64 0, .int .i64 0, .int .i64 0, .int .i64 4294967297] 32))
      have hHL := blk_alloc hLB (.cells #[.int .i64 0, .int .i64 0, .int .i64 0, .int .i64 4294967297] 32)
      have hHB := hB.alloc hB.size (.cells #[.int .i64 0, .int .i64 0, .int .i64 0, .int .i64 4294967297] 32)
      go_wp2_with (first
        | (go_at_call 10; (with_reducible refine (B g _ hHC).mono ?_); rintro e w5 ⟨rfl, hC5, hG5⟩)
        | (go_at_call 15; (with_reducible refine (CT0 g _ hC5).mono ?_); rintro e w6 ⟨rfl, hb6⟩))
      exact ⟨⟨5, by omega, by go_num, by go_num, blk_below (blk_grown hHL hG5 (by simp)) hb6, hC5.below hb6, below_step (hHB.grown hG5 hHB.size (fun j q => by cases q; exact hge)) hb6⟩, by simp [intOf]⟩
    · subst hk
      have q0 : wr.cell? ⟨g + 1, 20, none⟩ = some (.int .i64 0) := (blk_cell hLB 20).trans rfl
      have q1 : wr.cell? ⟨g + 1, 21, none⟩ = some (.int .i64 0) := (blk_cell hLB 21).trans rfl
      have q2 : wr.cell? ⟨g + 1, 22, none⟩ = some (.int .i64 0) := (blk_cell hLB 22).trans rfl
      have q3 : wr.cell? ⟨g + 1, 23, none⟩ = some (.int .i64 (-4294967297)) := (blk_cell hLB 23).trans rfl
      have B := Bad ⟨0, 0, 0, -4294967297⟩ (by simp [badL])
      dsimp only at B
      have hHC := hC.below ((Below.refl _ _).alloc (Nat.le_refl _) (.cells #[.int .i64 0, .int .i64 0, .int .i64 0, .int .i64 (-4294967297)] 32))
      have hHL := blk_alloc hLB (.cells #[.int .i64 0, .int .i64 0, .int .i64 0, .int .i64 (-4294967297)] 32)
      have hHB := hB.alloc hB.size (.cells #[.int .i64 0, .int .i64 0, .int .i64 0, .int .i64 (-4294967297)] 32)
      go_wp2_with (first
        | (go_at_call 10; (with_reducible refine (B g _ hHC).mono ?_); rintro e w5 ⟨rfl, hC5, hG5⟩)
        | (go_at_call 15; (with_reducible refine (CT0 g _ hC5).mono ?_); rintro e w6 ⟨rfl, hb6⟩))
      exact ⟨⟨6, by omega, by go_num, by go_num, blk_below (blk_grown hHL hG5 (by simp)) hb6, hC5.below hb6, below_step (hHB.grown hG5 hHB.size (fun j q => by cases q; exact hge)) hb6⟩, by simp [intOf]⟩
    · subst hk
      clear hLB Bad
      go_upto_region 10 with (first | (go_at_call 10; (with_reducible refine (N1 g _ hC).mono ?_); rintro e w5 ⟨rfl, hC1, hG⟩; replace hB := hB.grown hG hB.size (fun j q => by cases q; exact hge); clear hC hG) | (go_at_call 10; (with_reducible refine (N2 g _ hC1).mono ?_); rintro e w5 ⟨rfl, hC2, hG⟩; replace hB := hB.grown hG hB.size (fun j q => by cases q; exact hge); clear hC1 hG))
      go_upto_region 11 with (first | (go_at_call 10; (with_reducible refine (N3 g _ hC2).mono ?_); rintro e w5 ⟨rfl, hC3, hG⟩; replace hB := hB.grown hG hB.size (fun j q => by cases q; exact hge); clear hC2 hG) | (go_at_call 10; (with_reducible refine (N4 g _ hC3).mono ?_); rintro e w5 ⟨rfl, hC4, hG⟩; replace hB := hB.grown hG hB.size (fun j q => by cases q; exact hge); clear hC3 hG))
      go_upto_region 14 with (first | (go_at_call 16; (with_reducible refine (O5 g _ hC4).mono ?_); rintro e w5 ⟨rfl, hb⟩; replace hC4 := hC4.below hb; replace hB := below_step hB hb; clear hb) | (go_at_call 16; (with_reducible refine (O6 g _ hC4).mono ?_); rintro e w5 ⟨rfl, hb⟩; replace hC4 := hC4.below hb; replace hB := below_step hB hb; clear hb) | (go_at_call 16; (with_reducible refine (O16 g _ hC4).mono ?_); rintro e w5 ⟨rfl, hb⟩; replace hC4 := hC4.below hb; replace hB := below_step hB hb; clear hb))
      go_upto_region 15 with (first
        | (go_at_call 14; (with_reducible refine (V99 g _ hC4).mono ?_); rintro e w5 ⟨A3, c3, rfl, hO3c, hO3, hb⟩; replace hC4 := hC4.below hb; replace hB := below_step hB hb; clear hb)
        | (go_at_call 13; (with_reducible refine (cL3 A3 c3 _ _ hO3c (Kd.C_alloc hO3 _) ?lit).mono ?_); (case lit => exact lit_C _ [-4294967296, -4, 4294967296] _ rfl (by decide)); rintro e w5 ⟨rfl, ⟨nd, rfl⟩⟩; replace hC4 := hC4.below ((Below.refl _ _).alloc (Nat.le_refl _) (.cells #[.int .i64 (-4294967296), .int .i64 (-4), .int .i64 4294967296] 2)); replace hB := hB.alloc hB.size (.cells #[.int .i64 (-4294967296), .int .i64 (-4), .int .i64 4294967296] 2); replace hC4 := hC4.below (pw_below_drewN (Below.refl _ _) nd); replace hB := pw_below_drewN hB nd; clear hO3)
        | (go_at_call 14; (with_reducible refine (V5 g _ hC4).mono ?_); rintro e w5 ⟨A5, c5, rfl, hO5c, hO5, hb⟩; replace hC4 := hC4.below hb; replace hB := below_step hB hb; clear hb)
        | (go_at_call 13; (with_reducible refine (cL5 A5 c5 _ _ hO5c (Kd.C_alloc hO5 _) ?lit).mono ?_); (case lit => exact lit_C _ [-4294967296, 0, 4294967296] _ rfl (by decide)); rintro e w5 ⟨rfl, ⟨nd, rfl⟩⟩; replace hC4 := hC4.below ((Below.refl _ _).alloc (Nat.le_refl _) (.cells #[.int .i64 (-4294967296), .int .i64 0, .int .i64 4294967296] 2)); replace hB := hB.alloc hB.size (.cells #[.int .i64 (-4294967296), .int .i64 0, .int .i64 4294967296] 2); replace hC4 := hC4.below (pw_below_drewN (Below.refl _ _) nd); replace hB := pw_below_drewN hB nd; clear hO5))
      go_upto_region 16 with (go_at_call 22; refine (copy_core g m4 _ hC4).mono ?_; rintro e w7 ⟨rfl, hCd, hb7⟩; have hgd := hC4.lt; replace hC4 := hC4.below hb7; have hB7 := hB.size; replace hB := below_step hB hb7; clear hb7)
      simp at hCd hgd hB7
      obtain ⟨gd, hgdE⟩ : ∃ gd, w5.heap.size + 1 = gd := ⟨_, rfl⟩
      have hged : w.heap.size ≤ gd := by omega
      have hgne : g < gd := by omega
      rw [hgdE] at hCd
      rw [hgdE]
      clear hgdE hgd hB7
      go_upto_region 17 with (first | (go_at_call 17; (with_reducible refine (F1 g _ hC4).mono ?_); rintro e w5 ⟨rfl, hC5, hG⟩; replace hB := hB.grown hG hB.size (fun j q => by cases q; exact hge); replace hCd := hCd.grown hG (by intro q; cases q; omega); clear hC4 hG) | (go_at_call 17; (with_reducible refine (F2 g _ hC5).mono ?_); rintro e w5 ⟨rfl, hC6, hG⟩; replace hB := hB.grown hG hB.size (fun j q => by cases q; exact hge); replace hCd := hCd.grown hG (by intro q; cases q; omega); clear hC5 hG))
      go_upto_region 18 with (go_at_call 10; (with_reducible refine (N5 g _ hC6).mono ?_); rintro e w5 ⟨rfl, hC7, hG⟩; replace hB := hB.grown hG hB.size (fun j q => by cases q; exact hge); replace hCd := hCd.grown hG (by intro q; cases q; omega); clear hC6 hG)
      go_upto_region 19 with (go_at_call 23; (with_reducible refine (CL g _ hC7).mono ?_); rintro e w5 ⟨rfl, hC8, hG⟩; replace hB := hB.grown hG hB.size (fun j q => by cases q; exact hge); replace hCd := hCd.grown hG (by intro q; cases q; omega); clear hC7 hG)
      go_upto_region 20 with (first
        | (go_at_call 15; (with_reducible refine (CT0 g _ hC8).mono ?_); rintro e w5 ⟨rfl, hb⟩; replace hC8 := hC8.below hb; replace hCd := hCd.below hb; replace hB := below_step hB hb; clear hb)
        | (go_at_call 23; (with_reducible refine (CL0 g _ hC8).mono ?_); rintro e w5 ⟨rfl, hC9, hG⟩; replace hB := hB.grown hG hB.size (fun j q => by cases q; exact hge); replace hCd := hCd.grown hG (by intro q; cases q; omega); clear hC8 hG)
        | (go_at_call 15; (with_reducible refine (CTd gd _ hCd).mono ?_); rintro e w5 ⟨rfl, hb⟩; replace hC9 := hC9.below hb; replace hB := below_step hB hb; clear hb)
        | (go_at_call 14; (with_reducible refine (V0 g _ hC9).mono ?_); rintro e w5 ⟨A0, c0, rfl, hO0c, hO0, hb⟩; replace hC9 := hC9.below hb; replace hB := below_step hB hb; clear hb)
        | (go_at_call 13; (with_reducible refine (cL0 A0 c0 _ _ hO0c (Kd.C_alloc hO0 _) ?lit).mono ?_); (case lit => exact lit_C _ [0] _ rfl (by decide)); rintro e w5 ⟨rfl, ⟨nd, rfl⟩⟩; replace hC9 := hC9.below ((Below.refl _ _).alloc (Nat.le_refl _) (.cells #[.int .i64 0] 2)); replace hB := hB.alloc hB.size (.cells #[.int .i64 0] 2); replace hC9 := hC9.below (pw_below_drewN (Below.refl _ _) nd); replace hB := pw_below_drewN hB nd; clear hO0))
      clear N1 N2 N3 N4 N5 O5 O6 O16 V99 V5 V0 F1 F2 CL CL0 CT0 CTd
      go_upto_region 22 with (go_at_call 16; (with_reducible refine (of_nil 0 _).mono ?_); rintro e w5 ⟨rfl, rfl⟩)
      go_wp2_with (first
        | (go_at_call 9; (with_reducible refine (alive_core _).mono ?_); rintro e w5 ⟨rfl, hb⟩; replace hB := below_step hB hb; clear hb)
        | (go_at_call 10; (with_reducible refine (note_nil 0 0 0 _).mono ?_); rintro e w5 ⟨rfl, rfl⟩)
        | (go_at_call 17; (with_reducible refine (forget_nil 0 _).mono ?_); rintro e w5 ⟨rfl, rfl⟩)
        | (go_at_call 15; (with_reducible refine (count_nil _).mono ?_); rintro e w5 ⟨rfl, hb⟩; replace hB := below_step hB hb; clear hb)
        | (go_at_call 23; (with_reducible refine (clear_nil _).mono ?_); rintro e w5 ⟨rfl, hb⟩; replace hB := below_step hB hb; clear hb)
        | (go_at_call 11; (with_reducible refine (list_nil _).mono ?_); rintro e w5 ⟨Al, cl, rfl, hb⟩; replace hB := below_step hB hb; clear hb)
        | (go_at_call 14; (with_reducible refine (values_nil 0 _).mono ?_); rintro e w5 ⟨Av, cv, rfl, hb⟩; replace hB := below_step hB hb; clear hb)
        | (go_at_call 22; (with_reducible refine (copy_nil _).mono ?_); rintro e w5 ⟨rfl, rfl⟩))
      go_ret
      exact ⟨rfl, hB⟩
theorem names_core (w : World) : Calls Try.prog 7 #[] w fun e w' => e = .returned (.bool true) ∧ Below w.heap.size w w' :=
  names_walk none32 cM1 cM2 cM3 cM4 cM5 cM6 rfl cN1 cN2 cN3 cN4 cN5 cO5 cO6 cO16 cV99 cV5 cV0 cF1 cF2 cCL cCL0 cCT0 cCTd cBad w
end Go.Proofs.Ytfhkmokgbndeeaa.Hand
