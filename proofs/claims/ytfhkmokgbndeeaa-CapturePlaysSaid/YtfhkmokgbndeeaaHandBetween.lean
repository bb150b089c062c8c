/- What 'vesperslaw13.CaptureBetween' computes, by hand. -/
import Derived.Test.YtfhkmokgbndeeaaHandOps
set_option linter.unusedVariables false
set_option linter.unusedSimpArgs false
namespace Go.Proofs.Ytfhkmokgbndeeaa.Hand
open Go.RowKit Go.Proofs.Ytfhkmokgbndeeaa.Cap Go.Proofs.Ytfhkmokgbndeeaa.PA Go.Proofs.Ytfhkmokgbndeeaa.PB Go.Proofs.YtfhkmokgbndeeaaW.PrintWords Go.Proofs.YtfhkmokgbndeeaaW.PrintLast Go.Proofs.YtfhkmokgbndeeaaW.PrintMore
attribute [local go_sem] Oper.semAt_some

theorem tmod_big {a x : Int} (h : a.tmod 4294967296 = x) : -4294967296 < x ∧ x < 4294967296 := by
  have h1 := Int.lt_tmod_of_pos a (show (0 : Int) < 4294967296 by omega)
  have h2 := Int.tmod_lt_of_pos a (show (0 : Int) < 4294967296 by omega)
  omega
theorem none_at (j : Nat) : atS none32 j = none := by
  unfold atS none32
  rw [List.getD_eq_getElem?_getD, List.getElem?_replicate]
  split <;> rfl
theorem noteM_other {m : Cp} {n ch by_ : Int} {j : Nat} (h : n < 0 ∨ slotN n.toNat ch.toNat ≠ j) : atS (noteM m n ch by_) j = atS m j := by
  unfold noteM
  split
  · rename_i hc
    have hb : 0 ≤ n ∧ n < 16 ∧ 0 ≤ ch ∧ ch < 2 ∧ -4294967296 ≤ by_ ∧ by_ ≤ 4294967296 := by simpa [okN] using hc.1
    have hne : slotN n.toNat ch.toNat ≠ j := by rcases h with h | h; omega; exact h
    unfold atS
    rw [List.getD_eq_getElem?_getD, List.getElem?_set, if_neg hne, ← List.getD_eq_getElem?_getD]
  · rfl
theorem noteM_len (m : Cp) (n ch by_ : Int) : (noteM m n ch by_).length = m.length := by
  unfold noteM
  split <;> simp
theorem noteM_bad {m : Cp} {n ch by_ : Int} (h : ¬ (0 ≤ n ∧ n < 16 ∧ 0 ≤ ch ∧ ch < 2)) : noteM m n ch by_ = m := by
  unfold noteM
  rw [if_neg]
  rintro ⟨h1, _⟩
  have hb : 0 ≤ n ∧ n < 16 ∧ 0 ≤ ch ∧ ch < 2 ∧ -4294967296 ≤ by_ ∧ by_ ≤ 4294967296 := by simpa [okN] using h1
  exact h ⟨hb.1, hb.2.1, hb.2.2.1, hb.2.2.2.1⟩
theorem playN_skip (n : Nat) (hn : n < 16) : ∀ (l : List S32) (m : Cp), m.length = 32 → ∀ c, c < 2 → atS m (slotN n c) = none → atS (playN n m l) (slotN n c) = none
  | [], m, _, c, _, h => h
  | x :: l, m, hm, c, hc, h => by
    refine playN_skip n hn l (if x.f1 = n then m else noteM m x.f1 x.f2 x.f3) (by split; exact hm; rw [noteM_len]; exact hm) c hc ?_
    split
    · exact h
    · rename_i hx
      by_cases hb : 0 ≤ x.f1 ∧ x.f1 < 16 ∧ 0 ≤ x.f2 ∧ x.f2 < 2
      · rw [noteM_other]
        · exact h
        · refine .inr ?_
          unfold slotN
          omega
      · rw [noteM_bad hb]
        exact h
theorem atS_set (m : Cp) (j i : Nat) (o : Option Int) (h : j < m.length) : atS (m.set j o) i = if i = j then o else atS m i := by
  unfold atS
  rw [List.getD_eq_getElem?_getD, List.getElem?_set]
  by_cases q : i = j
  · subst q
    simp [h]
  · rw [if_neg (fun e => q e.symm), if_neg q, ← List.getD_eq_getElem?_getD]
theorem note_ok {m : Cp} (hm : m.length = 32) {n c : Nat} (hn : n < 16) (hc : c < 2) {x : Int} (hx : -4294967296 ≤ x ∧ x ≤ 4294967296) (h : atS m (slotN n c) = none) : noteE m n c x = 0 ∧ noteM m n c x = m.set (slotN n c) (some x) := by
  have ho : okN n c x = true := by simp [okN]; omega
  unfold noteE noteM
  simp only [Int.toNat_natCast]
  rw [if_pos ⟨ho, h⟩, if_pos ⟨ho, h⟩]
  exact ⟨rfl, rfl⟩
theorem cp_ext {m m' : Cp} (h1 : m.length = m'.length) (h : ∀ j, atS m j = atS m' j) : m = m' := by
  apply List.ext_getElem h1
  intro i h2 h3
  have := h i
  unfold atS at this
  rw [List.getD_eq_getElem?_getD, List.getD_eq_getElem?_getD, List.getElem?_eq_getElem h2, List.getElem?_eq_getElem h3] at this
  simpa using this
theorem of_nat (m : Cp) (n : Nat) (hn : n < 16) : ofR m n = byR (atS m (2 * n)) (atS m (2 * n + 1)) := by
  unfold ofR
  rw [if_pos (by omega), Int.toNat_natCast]
theorem dev_l0 (a : List S39) (ha : a.length ≤ 1000) : ∀ (d i k : Nat), a.length - i = d → i ≤ a.length → d < k → vespersref13_Deviations.l0 k a a (i : Int) = some true := by
  intro d
  induction d with
  | zero =>
    intro i k hd hi hk
    obtain ⟨k, rfl⟩ : ∃ j, k = j + 1 := ⟨k - 1, by omega⟩
    unfold vespersref13_Deviations.l0
    rw [if_neg (by omega)]
  | succ d ih =>
    intro i k hd hi hk
    obtain ⟨k, rfl⟩ : ∃ j, k = j + 1 := ⟨k - 1, by omega⟩
    have hw : wrap64 ((i : Int) + 1) = ((i + 1 : Nat) : Int) := by unfold wrap64; omega
    unfold vespersref13_Deviations.l0
    rw [if_pos (by omega), if_pos (by omega), if_pos (by omega), hw, if_neg (by simp)]
    exact ih (i + 1) k (by omega) (by omega) (by omega)
theorem dev_same (a : List S39) (ha : a.length ≤ 1000) : vespersref13_Deviations.f (a.length + 1) a a = some true := by
  unfold vespersref13_Deviations.f
  rw [if_pos rfl]
  exact dev_l0 a ha a.length 0 _ (by omega) (by omega) (by omega)
theorem between_long (A0 : Option Addr) (c0 : Nat) (l : List S32) (v a b : Int) (hl : (l.length : Int) > 40) (w : World) : Calls Try.prog 5 #[.slice A0 l.length c0, .int .u8 v, .int .i64 a, .int .i64 b] w fun e w' => e = .returned (.bool true) ∧ Below w.heap.size w w' := by
  have hb : decide (40 < (l.length : Int)) = true := decide_eq_true hl
  go_enter Try.func5, Try.ntmps5
  go_wp2_with (go_at_call 9; refine (alive_core _).mono ?_; rintro e w1 ⟨rfl, hB⟩)
  go_ret
  exact ⟨rfl, hB⟩
set_option maxRecDepth 100000 in
set_option maxHeartbeats 4000000 in
theorem between_short (A0 : Option Addr) (c0 : Nat) (l : List S32) (v a b : Int) (hl : l.length ≤ 40) (hv : 0 ≤ v ∧ v ≤ 255) (w : World) (hr0 : Kd.C k32 w A0 l.length l) (hc0 : l.length ≤ c0) :
    Calls Try.prog 5 #[.slice A0 l.length c0, .int .u8 v, .int .i64 a, .int .i64 b] w fun e w' => e = .returned (.bool true) ∧ Below w.heap.size w w' := by
  have hb : decide (40 < (l.length : Int)) = false := decide_eq_false (by omega)
  go_enter Try.func5, Try.ntmps5
  go_upto_region 4 with (go_at_call 9; refine (alive_core _).mono ?_; rintro e w1 ⟨rfl, hB⟩)
  go_upto_region 5 with (fail)
  obtain ⟨W0, hW0, hC, hB0, hsz0⟩ := new_cap w1
  rw [hW0]
  clear hW0
  obtain ⟨g, hg⟩ : ∃ g, w1.heap.size = g := ⟨_, rfl⟩
  rw [hg] at hC
  rw [hg]
  have hge : w.heap.size ≤ g := by rw [← hg]; exact hB.size
  replace hB := below_step hB hB0
  clear hB0 hsz0 hg
  obtain ⟨n, hn, hn16⟩ : ∃ n : Nat, v % 16 = (n : Int) ∧ n < 16 := ⟨(v % 16).toNat, by omega, by omega⟩
  go_upto_region 6 with (fail)
  rw [hn]
  clear hn hv
  have hr0' := Lib.hid hr0
  clear hr0
  obtain ⟨x, hx⟩ : ∃ x, a.tmod 4294967296 = x := ⟨_, rfl⟩
  obtain ⟨y, hy⟩ : ∃ y, b.tmod 4294967296 = y := ⟨_, rfl⟩
  have hxb : -4294967296 < x ∧ x < 4294967296 := tmod_big hx
  have hyb : -4294967296 < y ∧ y < 4294967296 := tmod_big hy
  have hX := Lib.hid hx
  have hY := Lib.hid hy
  clear hx hy
  go_wp2_with (go_in)
  go_loopw [35] (fun v35 wr => ∃ (i : Nat), i ≤ l.length ∧ v35 = .int .i64 i ∧ CapAt wr g (playN n none32 (l.take i)) ∧ Below w.heap.size w wr)
    (fun v35 _ => l.length - (intOf v35).toNat)
  case atStart => exact ⟨0, Nat.zero_le _, rfl, hC, hB⟩
  case round =>
    clear hC hB
    obtain ⟨i, hi, rfl, hC, hB⟩ := hrel
    by_cases hlt : i < l.length
    · have hcl : decide ((i : Int) < (l.length : Int)) = true := decide_eq_true (by omega)
      have p1 : 0 ≤ (i : Int) := by omega
      have q1 : (i : Int) < (l.length : Int) := by omega
      obtain ⟨ad, ead, hx0, hx1, hx2, hx3⟩ := at_T32 (Kd.C_below hr0'.out hB) (i : Int) p1 q1
      cases ead
      rw [Int.toNat_natCast] at hx0 hx1 hx2 hx3
      have hstep : playN n none32 (l.take (i + 1)) = if (rd_T32 l (i : Int)).f1 = n then playN n none32 (l.take i) else noteM (playN n none32 (l.take i)) (rd_T32 l (i : Int)).f1 (rd_T32 l (i : Int)).f2 (rd_T32 l (i : Int)).f3 := by
        rw [List.take_succ_eq_append_getElem hlt, playN_snoc]
        simp [rd_T32, hlt]
      generalize rd_T32 l (i : Int) = o at hx0 hx1 hx2 hx3 hstep
      obtain ⟨o0, o1, o2, o3⟩ := o
      simp only at hx0 hx1 hx2 hx3 hstep
      replace p1 := eq_true p1
      replace q1 := eq_true q1
      by_cases hq : o1 = (n : Int)
      · have hqb : (o1 == (n : Int)) = true := by simpa using hq
        rw [if_pos hq] at hstep
        go_wp2
        refine ⟨⟨i + 1, by omega, by go_num, by rw [hstep]; exact hC.below ((Below.refl _ _).alloc (Nat.le_refl _) _), hB.alloc hB.size _⟩, by simp [intOf]; omega⟩
      · have hqb : (o1 == (n : Int)) = false := by simpa using hq
        rw [if_neg hq] at hstep
        go_wp2_with (go_at_call 10; refine (note_core g o1 o2 o3 _ _ (hC.below ((Below.refl _ _).alloc (Nat.le_refl _) _))).mono ?_; rintro e w5 ⟨rfl, hC5, hG5⟩)
        refine ⟨⟨i + 1, by omega, by go_num, by rw [hstep]; exact hC5, (hB.alloc hB.size _).grown hG5 (by have := hB.size; simp; omega) (fun j q => by cases q; exact hge)⟩, by simp [intOf]; omega⟩
    · obtain rfl : i = l.length := by omega
      have hcl : decide ((l.length : Int) < (l.length : Int)) = false := decide_eq_false (by omega)
      rw [List.take_length] at hC
      have hF : FitM (playN n none32 l) := fit_playN n l _ FitM.none
      have hS : ∀ c, c < 2 → atS (playN n none32 l) (slotN n c) = none := fun c hc => playN_skip n hn16 l none32 (by rfl) c hc (none_at _)
      generalize playN n none32 l = m at hC hF hS
      have hm := hC.len
      go_upto_region 13 with (go_at_call 11; refine (list_core g m hF _ hC).mono ?_; rintro e w6 ⟨v6, rfl, hO, hb6⟩; have hglt := hC.lt; replace hC := hC.below hb6; replace hB := below_step hB hb6)
      have hDl : (devL m (List.range 16)).length ≤ 16 := by have := devL_len m (List.range 16); simpa using this
      obtain ⟨D, hD⟩ : ∃ D, devL m (List.range 16) = D := ⟨_, rfl⟩
      rw [hD] at hO hDl
      replace hO := Kd.R_mono (Kd.R_bound hO) (fun k hk => (by have := hk.2.1; omega : k ≠ g))
      obtain ⟨AD, cD, rfl⟩ := Kd.R_slice hO
      have h10 := hS 0 (by omega)
      have h11 := hS 1 (by omega)
      obtain ⟨e1, f1⟩ := note_ok hm hn16 (show 0 < 2 by omega) (x := x) (by omega) h10
      obtain ⟨m1, hm1⟩ : ∃ m1, noteM m n (0 : Nat) x = m1 := ⟨_, rfl⟩
      have hF1 : FitM m1 := hm1 ▸ hF.note _ _ _
      have hl1 : m1.length = 32 := by rw [← hm1, noteM_len]; exact hm
      rw [hm1] at f1
      have hs10 : slotN n 0 < m.length := by unfold slotN; omega
      have a10 : atS m1 (slotN n 0) = some x := by rw [f1, atS_set m _ _ _ hs10, if_pos rfl]
      have a11 : atS m1 (slotN n 1) = none := by rw [f1, atS_set m _ _ _ hs10, if_neg (by unfold slotN; omega)]; exact h11
      have o1 : ofR m1 n = (x, true) := by
        rw [of_nat m1 n hn16]
        rw [show slotN n 0 = 2 * n from rfl] at a10
        rw [show slotN n 1 = 2 * n + 1 from rfl] at a11
        rw [a10, a11]
        rfl
      obtain ⟨e2, f2⟩ := note_ok hl1 hn16 (show 1 < 2 by omega) (x := y) (by omega) a11
      obtain ⟨m2, hm2⟩ : ∃ m2, noteM m1 n (1 : Nat) y = m2 := ⟨_, rfl⟩
      have hF2 : FitM m2 := hm2 ▸ hF1.note _ _ _
      have hl2 : m2.length = 32 := by rw [← hm2, noteM_len]; exact hl1
      rw [hm2] at f2
      have hs11 : slotN n 1 < m1.length := by unfold slotN; omega
      have a20 : atS m2 (2 * n) = some x := by rw [f2, atS_set m1 _ _ _ hs11, if_neg (by unfold slotN; omega)]; exact a10
      have a21 : atS m2 (2 * n + 1) = some y := by rw [f2, atS_set m1 _ _ _ hs11, if_pos (show 2 * n + 1 = slotN n 1 from rfl)]
      have o2 : ofR m2 n = ((x + y) / 2, true) := by
        rw [of_nat m2 n hn16, a20, a21]
        rfl
      have hback : forgetM m2 n = m := by
        unfold forgetM
        rw [o2, if_pos rfl, Int.toNat_natCast]
        refine cp_ext (by simp [hl2, hm]) fun j => ?_
        rw [atS_set _ _ _ _ (by simp [hl2]; omega), atS_set _ _ _ _ (by omega)]
        by_cases j1 : j = 2 * n + 1
        · rw [if_pos j1, j1]; exact h11.symm
        · rw [if_neg j1]
          by_cases j0 : j = 2 * n
          · rw [if_pos j0, j0]; exact h10.symm
          · rw [if_neg j0, f2, atS_set m1 _ _ _ hs11, if_neg (by unfold slotN; omega), f1, atS_set m _ _ _ hs10, if_neg (by unfold slotN; omega)]
      have fN1 := note_at g n (0 : Nat) x m 0 m1 e1 hm1
      have fN2 := note_at g n (1 : Nat) y m1 0 m2 e2 hm2
      have fO1 := of_at g n m1 hF1 _ o1
      have fO2 := of_at g n m2 hF2 _ o2
      have fF := fun w hC => forget_core g n m2 hF2 w hC
      rw [hback, o2] at fF
      have fL := list_core g m hF
      rw [hD] at fL
      have hds := dev_same D (by omega)
      clear e1 f1 hm1 hs10 a10 a11 o1 e2 f2 hm2 hs11 a20 a21 o2 hback h10 h11 hS hF1 hF2 hF hl1 hl2 hm
      go_upto_region 14 with (fail)
      rw [hX.out, hY.out]
      clear hX hY
      go_upto_region 16 with (go_at_call 10; refine (fN1 _ hC).mono ?_; rintro e w7 ⟨rfl, hC7, hG7⟩; replace hB := hB.grown hG7 hB.size (fun j q => by cases q; exact hge); replace hO := R_keepB hO hG7 (fun _ hk => hk); clear hC hG7)
      go_upto_region 17 with (go_at_call 16; refine (fO1 _ hC7).mono ?_; rintro e w8 ⟨rfl, hb8⟩; replace hC7 := hC7.below hb8; replace hB := below_step hB hb8; replace hO := Kd.R_below hO hb8; clear hb8)
      go_upto_region 19 with (go_at_call 10; refine (fN2 _ hC7).mono ?_; rintro e w9 ⟨rfl, hC9, hG9⟩; replace hB := hB.grown hG9 hB.size (fun j q => by cases q; exact hge); replace hO := R_keepB hO hG9 (fun _ hk => hk); clear hC7 hG9)
      go_upto_region 20 with (go_at_call 16; refine (fO2 _ hC9).mono ?_; rintro e w10 ⟨rfl, hb10⟩; replace hC9 := hC9.below hb10; replace hB := below_step hB hb10; replace hO := Kd.R_below hO hb10; clear hb10)
      obtain ⟨z, hz⟩ : ∃ z, (x + y) / 2 = z := ⟨_, rfl⟩
      rw [hz]
      have hzb : 2 * z ≤ x + y ∧ x + y ≤ 2 * z + 1 := by omega
      clear hz
      go_upto_region 22 with (fail)
      all_goals
        go_wp2_with (first
          | (go_at_call 17; refine (fF _ hC9).mono ?_; rintro e w11 ⟨rfl, hC11, hG11⟩; replace hB := hB.grown hG11 hB.size (fun j q => by cases q; exact hge); replace hO := R_keepB hO hG11 (fun _ hk => hk); clear hG11)
          | (go_at_call 11; refine (fL _ hC11).mono ?_; rintro e w12 ⟨v12, rfl, hO12, hb12⟩; replace hB := below_step hB hb12; replace hO := Kd.R_below hO hb12; clear hb12; obtain ⟨A12, c12, rfl⟩ := Kd.R_slice hO12)
          | (go_at_call 12; refine (vespersref13_Deviations.calls (D.length + 1) A12 c12 D AD cD D true _ (Kd.R_reads' hO12).2.2 (Kd.R_reads' hO12).2.1 (Kd.R_reads' hO).2.2 (Kd.R_reads' hO).2.1 hds).mono ?_; rintro e w13 ⟨rfl, ⟨nd, rfl⟩⟩))
        go_ret
        exact ⟨rfl, pw_below_drewN hB nd⟩
theorem between_core (A0 : Option Addr) (c0 : Nat) (l : List S32) (v a b : Int) (hv : (Lit.int .u8 v).wf = true) (w : World) (hr0 : Kd.C k32 w A0 l.length l) (hc0 : l.length ≤ c0) :
    Calls Try.prog 5 #[.slice A0 l.length c0, .int .u8 v, .int .i64 a, .int .i64 b] w fun e w' => e = .returned (.bool true) ∧ Below w.heap.size w w' := by
  have hb : 0 ≤ v ∧ v ≤ 255 := by
    rw [show (Lit.int .u8 v).wf = (decide (IntKind.u8.min ≤ v) && decide (v ≤ IntKind.u8.max)) from rfl, show IntKind.u8.min = 0 by decide, show IntKind.u8.max = 255 by decide] at hv
    simpa using hv
  by_cases h : (l.length : Int) > 40
  · exact between_long A0 c0 l v a b h w
  · exact between_short A0 c0 l v a b (by omega) hb w hr0 hc0
end Go.Proofs.Ytfhkmokgbndeeaa.Hand
