/- What 'vesperslaw13.CaptureValues' computes, by hand. -/
import Derived.Test.YtfhkmokgbndeeaaHandBetween
set_option linter.unusedVariables false
set_option linter.unusedSimpArgs false
namespace Go.Proofs.Ytfhkmokgbndeeaa.Hand
open Go.RowKit Go.Proofs.Ytfhkmokgbndeeaa.Cap Go.Proofs.Ytfhkmokgbndeeaa.PA Go.Proofs.Ytfhkmokgbndeeaa.PB Go.Proofs.YtfhkmokgbndeeaaW.PrintWords Go.Proofs.YtfhkmokgbndeeaaW.PrintLast Go.Proofs.YtfhkmokgbndeeaaW.PrintMore
attribute [local go_sem] Oper.semAt_some

def Rng (m : Cp) (lo hi : Int) : Prop := (∀ j x, atS m j = some x → lo ≤ x ∧ x ≤ hi) ∧ lo ≤ 0 ∧ 0 ≤ hi ∧ -4294967296 ≤ lo ∧ hi ≤ 4294967296
theorem Rng.start : Rng none32 0 0 := ⟨fun j x h => (by rw [none_at] at h; cases h), by omega, by omega, by omega, by omega⟩
theorem noteE_cases (m : Cp) (hm : m.length = 32) (n ch by_ : Int) : (noteE m n ch by_ = 130 ∧ noteM m n ch by_ = m) ∨ (noteE m n ch by_ = 0 ∧ -4294967296 ≤ by_ ∧ by_ ≤ 4294967296 ∧ ∃ j, j < 32 ∧ atS m j = none ∧ noteM m n ch by_ = m.set j (some by_)) := by
  unfold noteE noteM
  by_cases h : okN n ch by_ = true ∧ atS m (slotN n.toNat ch.toNat) = none
  · rw [if_pos h, if_pos h]
    have hb : 0 ≤ n ∧ n < 16 ∧ 0 ≤ ch ∧ ch < 2 ∧ -4294967296 ≤ by_ ∧ by_ ≤ 4294967296 := by simpa [okN] using h.1
    exact .inr ⟨rfl, hb.2.2.2.2.1, hb.2.2.2.2.2, _, by unfold slotN; omega, h.2, rfl⟩
  · rw [if_neg h, if_neg h]
    exact .inl ⟨rfl, rfl⟩
theorem Rng.set {m : Cp} {lo hi : Int} (h : Rng m lo hi) (hm : m.length = 32) {j : Nat} (hj : j < 32) {x lo' hi' : Int} (hx : -4294967296 ≤ x ∧ x ≤ 4294967296) (h1 : lo' ≤ lo) (h2 : lo' ≤ x) (h3 : hi ≤ hi') (h4 : x ≤ hi') (h5 : -4294967296 ≤ lo') (h6 : hi' ≤ 4294967296) : Rng (m.set j (some x)) lo' hi' := by
  obtain ⟨a, b, c, d, e⟩ := h
  refine ⟨fun i y hy => ?_, by omega, by omega, h5, h6⟩
  rw [atS_set m j i _ (by omega)] at hy
  split at hy
  · cases hy; omega
  · have := a i y hy; omega
theorem Rng.by {m : Cp} {lo hi : Int} (h : Rng m lo hi) (n : Nat) (hb : (byN m n).2 = true) : lo ≤ (byN m n).1 ∧ (byN m n).1 ≤ hi := by
  obtain ⟨a, b, c, d, e⟩ := h
  have h1 := a (2 * n)
  have h2 := a (2 * n + 1)
  unfold byN pairN at hb ⊢
  simp only at hb ⊢
  cases q1 : atS m (2 * n) with
  | none =>
    cases q2 : atS m (2 * n + 1) with
    | none => rw [q1, q2] at hb; simp [byR] at hb
    | some y => exact h2 y q2
  | some x =>
    cases q2 : atS m (2 * n + 1) with
    | none => exact h1 x q1
    | some y =>
      have := h1 x q1
      have := h2 y q2
      simp only [byR]
      omega
theorem Rng.vals {m : Cp} {lo hi : Int} (h : Rng m lo hi) (own : Int) : ∀ x ∈ valL m own (List.range 16), lo ≤ x ∧ x ≤ hi := by
  intro x hx
  obtain ⟨n, _, hn⟩ := List.mem_filterMap.1 hx
  split at hn
  · cases hn; exact ⟨h.2.1, h.2.2.1⟩
  · split at hn
    · rename_i hb
      cases hn
      exact h.by n hb
    · cases hn
theorem vals_count (m : Cp) (own : Int) : ∀ k : Nat, (valL m own (List.range k)).length = (devL m (List.range k)).length + if 0 ≤ own ∧ own < k ∧ (byN m own.toNat).2 = false then 1 else 0
  | 0 => by rw [if_neg (by omega)]; rfl
  | k + 1 => by
    have ih := vals_count m own k
    rw [List.range_succ]
    by_cases ho : (k : Int) = own
    · rw [valL_own m own _ k ho, List.length_append, ih]
      rw [if_neg (by omega)]
      have hk : own.toNat = k := by omega
      cases hb : (byN m k).2 with
      | true => rw [devL_snoc_yes m _ k hb, if_neg (by rw [hk, hb]; simp)]; simp
      | false => rw [devL_snoc_no m _ k hb, if_pos (by rw [hk, hb]; exact ⟨by omega, by omega, rfl⟩)]; simp
    · cases hb : (byN m k).2 with
      | true =>
        rw [valL_yes m own _ k ho hb, devL_snoc_yes m _ k hb, List.length_append, List.length_append, ih]
        by_cases hc : 0 ≤ own ∧ own < (k : Int) ∧ (byN m own.toNat).2 = false
        · rw [if_pos hc, if_pos (by obtain ⟨a, b, c⟩ := hc; exact ⟨a, by omega, c⟩)]; (simp only [List.length_singleton]) <;> omega
        · rw [if_neg hc, if_neg (by rintro ⟨a, b, c⟩; exact hc ⟨a, by omega, c⟩)]; all_goals (first | (simp only [List.length_singleton]; omega) | simp)
      | false =>
        rw [valL_no m own _ k ho hb, devL_snoc_no m _ k hb, ih]
        by_cases hc : 0 ≤ own ∧ own < (k : Int) ∧ (byN m own.toNat).2 = false
        · rw [if_pos hc, if_pos (by obtain ⟨a, b, c⟩ := hc; exact ⟨a, by omega, c⟩)]
        · rw [if_neg hc, if_neg (by rintro ⟨a, b, c⟩; exact hc ⟨a, by omega, c⟩)]
theorem values_long (A0 : Option Addr) (c0 : Nat) (l : List S32) (v : Int) (hl : (l.length : Int) > 40) (w : World) : Calls Try.prog 4 #[.slice A0 l.length c0, .int .u8 v] w fun e w' => e = .returned (.bool true) ∧ Below w.heap.size w w' := by
  have hb : decide (40 < (l.length : Int)) = true := decide_eq_true hl
  go_enter Try.func4, Try.ntmps4
  go_wp2_with (go_at_call 9; refine (alive_core _).mono ?_; rintro e w1 ⟨rfl, hB⟩)
  go_ret
  exact ⟨rfl, hB⟩
set_option maxRecDepth 100000 in
set_option maxHeartbeats 4000000 in
theorem values_short (A0 : Option Addr) (c0 : Nat) (l : List S32) (v : Int) (hl : l.length ≤ 40) (hv : 0 ≤ v ∧ v ≤ 255) (w : World) (hr0 : Kd.C k32 w A0 l.length l) (hc0 : l.length ≤ c0) :
    Calls Try.prog 4 #[.slice A0 l.length c0, .int .u8 v] w fun e w' => e = .returned (.bool true) ∧ Below w.heap.size w w' := by
  have hb : decide (40 < (l.length : Int)) = false := decide_eq_false (by omega)
  go_enter Try.func4, Try.ntmps4
  go_upto_region 4 with (go_at_call 9; refine (alive_core _).mono ?_; rintro e w1 ⟨rfl, hB⟩)
  go_upto_region 5 with (fail)
  obtain ⟨W0, hW0, hC, hB0, hsz0⟩ := new_cap w1
  rw [hW0]
  clear hW0
  obtain ⟨g, hg⟩ : ∃ g, w1.heap.size = g := ⟨_, rfl⟩
  rw [hg] at hC
  rw [hg]
  have hge : w.heap.size ≤ g := by rw [← hg]; exact hB.size
  replace hB := below_step hB hB0
  clear hB0 hsz0 hg
  have hr0' := Lib.hid hr0
  clear hr0
  go_wp2_with (go_in)
  go_loopw [7, 8, 29] (fun v7 v8 v29 wr => ∃ (i : Nat) (lo hi : Int), i ≤ l.length ∧ v29 = .int .i64 i ∧ v7 = .int .i64 lo ∧ v8 = .int .i64 hi ∧ Rng (playM none32 (l.take i)) lo hi ∧ CapAt wr g (playM none32 (l.take i)) ∧ Below w.heap.size w wr)
    (fun _ _ v29 _ => l.length - (intOf v29).toNat)
  case atStart => exact ⟨0, 0, 0, Nat.zero_le _, rfl, rfl, rfl, Rng.start, hC, hB⟩
  case round =>
    clear hC hB
    obtain ⟨i, lo, hi', hi, rfl, rfl, rfl, hR, hC, hB⟩ := hrel
    by_cases hlt : i < l.length
    · have hcl : decide ((i : Int) < (l.length : Int)) = true := decide_eq_true (by omega)
      have p1 : 0 ≤ (i : Int) := by omega
      have q1 : (i : Int) < (l.length : Int) := by omega
      obtain ⟨ad, ead, hx0, hx1, hx2, hx3⟩ := at_T32 (Kd.C_below hr0'.out hB) (i : Int) p1 q1
      cases ead
      rw [Int.toNat_natCast] at hx0 hx1 hx2 hx3
      have hstep : playM none32 (l.take (i + 1)) = noteM (playM none32 (l.take i)) (rd_T32 l (i : Int)).f1 (rd_T32 l (i : Int)).f2 (rd_T32 l (i : Int)).f3 := by
        rw [List.take_succ_eq_append_getElem hlt, playM_snoc]
        simp [rd_T32, hlt]
      generalize rd_T32 l (i : Int) = o at hx0 hx1 hx2 hx3 hstep
      obtain ⟨o0, o1, o2, o3⟩ := o
      simp only at hx0 hx1 hx2 hx3 hstep
      replace p1 := eq_true p1
      replace q1 := eq_true q1
      have hm := hC.len
      generalize playM none32 (l.take i) = m at hC hR hstep hm
      rcases noteE_cases m hm o1 o2 o3 with ⟨he, hM⟩ | ⟨he, hb1, hb2, j, hj, hjn, hM⟩
      · have fN := note_at g o1 o2 o3 m 130 m he hM
        go_wp2_with (go_at_call 10; refine (fN _ (hC.below ((Below.refl _ _).alloc (Nat.le_refl _) _))).mono ?_; rintro e w5 ⟨rfl, hC5, hG5⟩)
        exact ⟨⟨i + 1, lo, hi', by omega, by go_num, rfl, rfl, by rw [hstep, hM]; exact hR, by rw [hstep, hM]; exact hC5, (hB.alloc hB.size _).grown hG5 (by have := hB.size; simp; omega) (fun j q => by cases q; exact hge)⟩, by simp [intOf]; omega⟩
      · have fN := note_at g o1 o2 o3 m 0 _ he hM
        go_upto_region 10 with (go_at_call 10; refine (fN _ (hC.below ((Below.refl _ _).alloc (Nat.le_refl _) _))).mono ?_; rintro e w5 ⟨rfl, hC5, hG5⟩)
        have hbo := blk_grown (heap_alloc_new wr (.cells #[.int .i64 o0, .int .i64 o1, .int .i64 o2, .int .i64 o3] 32)) hG5 (by intro q; cases q; have := hC.lt; omega)
        have hq3 : w5.cell? ⟨wr.heap.size, 3, none⟩ = some (.int .i64 o3) := (blk_cell hbo 3).trans rfl
        go_quiet (fail)
        go_wp2
        exact ⟨⟨i + 1, _, _, by omega, by go_num, rfl, rfl, by rw [hstep, hM]; exact hR.set hm hj ⟨hb1, hb2⟩ (by split <;> omega) (by split <;> omega) (by split <;> omega) (by split <;> omega) (by have := hR.2.2.2.1; split <;> omega) (by have := hR.2.2.2.2; split <;> omega), by rw [hstep, hM]; exact hC5.below (pw_below_drewN (Below.refl _ _) _), pw_below_drewN ((hB.alloc hB.size _).grown hG5 (by have := hB.size; simp; omega) (fun j q => by cases q; exact hge)) _⟩, by simp [intOf]; omega⟩
    · obtain rfl : i = l.length := by omega
      have hcl : decide ((l.length : Int) < (l.length : Int)) = false := decide_eq_false (by omega)
      rw [List.take_length] at hC hR
      have hF : FitM (playM none32 l) := fit_playM l _ FitM.none
      generalize playM none32 l = m at hC hF hR
      obtain ⟨n, hn, hn16⟩ : ∃ n : Nat, v % 16 = (n : Int) ∧ n < 16 := ⟨(v % 16).toNat, by omega, by omega⟩
      obtain ⟨N, hN⟩ : ∃ N, (devL m (List.range 16)).length = N := ⟨_, rfl⟩
      have hN16 : N ≤ 16 := by rw [← hN]; have := devL_len m (List.range 16); simpa using this
      have hVn := vals_count m n 16
      have hV9 := vals_count m 99 16
      rw [hN] at hVn hV9
      rw [if_neg (by omega)] at hV9
      rw [Int.toNat_natCast] at hVn
      have hRV := hR.vals n
      obtain ⟨V, hV⟩ : ∃ V, valL m n (List.range 16) = V := ⟨_, rfl⟩
      obtain ⟨V9, hV9e⟩ : ∃ V, valL m 99 (List.range 16) = V := ⟨_, rfl⟩
      rw [hV] at hVn hRV
      rw [hV9e] at hV9
      have fC := count_at g m hF (N : Int) (by rw [hN])
      have fV := values_at g n m hF V hV
      have fV9 := values_at g 99 m hF V9 hV9e
      have hO2 : ofR m n = ((byN m n).1, (byN m n).2) := by
        rw [of_nat m n hn16]
        rfl
      have fO := of_at g n m hF _ hO2
      clear hO2 hV hV9e hN hF hR
      generalize (byN m n).1 = r1 at fO
      have hlen : (V.length : Int) = if (byN m n).2 = false then (N : Int) + 1 else N := by
        rw [hVn]
        by_cases hq : (byN m n).2 = false
        · rw [if_pos ⟨by omega, by omega, hq⟩, if_pos hq]; omega
        · rw [if_neg (fun h => hq h.2.2), if_neg hq]; omega
      clear hVn
      generalize (byN m n).2 = r2 at fO hlen
      have hV17 : V.length ≤ 17 := by cases r2 <;> simp at hlen <;> omega
      go_upto_region 13 with (fail)
      rw [hn]
      clear hn hv
      go_upto_region 14 with (go_at_call 15; refine (fC _ hC).mono ?_; rintro e w6 ⟨rfl, hb6⟩; replace hC := hC.below hb6; replace hB := below_step hB hb6; clear hb6)
      go_upto_region 15 with (go_at_call 16; refine (fO _ hC).mono ?_; rintro e w7 ⟨rfl, hb7⟩; replace hC := hC.below hb7; replace hB := below_step hB hb7; clear hb7)
      obtain ⟨want, hwant⟩ : ∃ want : Int, (V.length : Int) = want := ⟨_, rfl⟩
      rcases r2 with _ | _
      all_goals
        simp only [if_true, Bool.true_eq_false, if_false] at hlen
        go_upto_region 18 with (go_at_call 14; refine (fV _ hC).mono ?_; rintro e w8 ⟨v8, rfl, hO, hb8⟩; replace hC := hC.below hb8; replace hB := below_step hB hb8; clear hb8)
        obtain ⟨Ao, co, rfl⟩ := Kd.R_slice hO
        go_wp2_with (go_in)
        go_loopw [67] (fun v67 wr => ∃ (k : Nat), k ≤ V.length ∧ v67 = .int .i64 k ∧ Kd.R (Kd.int .i64) 2 wr w7.heap.size (fun _ => True) (.slice Ao V.length co) V ∧ CapAt wr g m ∧ Below w.heap.size w wr)
          (fun v67 _ => V.length - (intOf v67).toNat)
        case atStart => exact ⟨0, Nat.zero_le _, rfl, hO, hC, hB⟩
        case round =>
          clear hO hC hB
          obtain ⟨k, hk, rfl, hO, hC, hB⟩ := hrel
          by_cases hkl : k < V.length
          · have hck : decide ((k : Int) < (V.length : Int)) = true := decide_eq_true (by omega)
            have p1 : 0 ≤ (k : Int) := by omega
            have q1 : (k : Int) < (V.length : Int) := by omega
            obtain ⟨ad, ead, hx⟩ := Kd.at_int (Kd.R_reads' hO).2.2 (k : Int) p1 q1
            cases ead
            rw [Int.toNat_natCast] at hx
            have hb3 := hRV (rd V (k : Int)) (by simp [rd, hkl])
            have d1 : decide (rd V (k : Int) < lo) = false := decide_eq_false (by omega)
            have d2 : decide (hi' < rd V (k : Int)) = false := decide_eq_false (by omega)
            generalize rd V (k : Int) = xk at hx d1 d2 hb3
            replace p1 := eq_true p1
            replace q1 := eq_true q1
            go_wp2
            exact ⟨⟨k + 1, by omega, by go_num, hO, hC, hB⟩, by simp [intOf]; omega⟩
          · obtain rfl : k = V.length := by omega
            have hck : decide ((V.length : Int) < (V.length : Int)) = false := decide_eq_false (by omega)
            go_wp2_with (first
              | (go_at_call 14; refine (fV9 _ hC).mono ?_; rintro e w9 ⟨v9, rfl, hO9, hb9⟩; replace hC := hC.below hb9; replace hB := below_step hB hb9; clear hb9; obtain ⟨A9, c9, rfl⟩ := Kd.R_slice hO9)
              | (go_at_call 15; refine (fC _ hC).mono ?_; rintro e w10 ⟨rfl, hb10⟩; replace hB := below_step hB hb10; clear hb10))
            go_ret
            exact ⟨rfl, hB⟩
theorem values_law (A0 : Option Addr) (c0 : Nat) (l : List S32) (v : Int) (hv : (Lit.int .u8 v).wf = true) (w : World) (hr0 : Kd.C k32 w A0 l.length l) (hc0 : l.length ≤ c0) :
    Calls Try.prog 4 #[.slice A0 l.length c0, .int .u8 v] w fun e w' => e = .returned (.bool true) ∧ Below w.heap.size w w' := by
  have hb : 0 ≤ v ∧ v ≤ 255 := by
    rw [show (Lit.int .u8 v).wf = (decide (IntKind.u8.min ≤ v) && decide (v ≤ IntKind.u8.max)) from rfl, show IntKind.u8.min = 0 by decide, show IntKind.u8.max = 255 by decide] at hv
    simpa using hv
  by_cases h : (l.length : Int) > 40
  · exact values_long A0 c0 l v h w
  · exact values_short A0 c0 l v (by omega) hb w hr0 hc0
end Go.Proofs.Ytfhkmokgbndeeaa.Hand
