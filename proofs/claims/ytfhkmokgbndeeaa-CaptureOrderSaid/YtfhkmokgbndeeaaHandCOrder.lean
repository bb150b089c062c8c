/- What 'vesperslaw13.CaptureOrder' computes, by hand. -/
import Derived.Test.YtfhkmokgbndeeaaHandRev
set_option linter.unusedVariables false
set_option linter.unusedSimpArgs false
namespace Go.Proofs.Ytfhkmokgbndeeaa.Hand
open Go.RowKit Go.Proofs.Ytfhkmokgbndeeaa.Cap Go.Proofs.Ytfhkmokgbndeeaa.PA Go.Proofs.Ytfhkmokgbndeeaa.PB Go.Proofs.YtfhkmokgbndeeaaW.PrintWords Go.Proofs.YtfhkmokgbndeeaaW.PrintLast Go.Proofs.YtfhkmokgbndeeaaW.PrintMore
attribute [local go_sem] Oper.semAt_some

theorem order_long (A0 : Option Addr) (c0 : Nat) (l : List S32) (v : Int) (hl : (l.length : Int) > 40) (w : World) : Calls Try.prog 3 #[.slice A0 l.length c0, .int .u8 v] w fun e w' => e = .returned (.bool true) ∧ Below w.heap.size w w' := by
  have hb : decide (40 < (l.length : Int)) = true := decide_eq_true hl
  go_enter Try.func3, Try.ntmps3
  go_wp2_with (go_at_call 9; refine (alive_core _).mono ?_; rintro e w1 ⟨rfl, hB⟩)
  go_ret
  exact ⟨rfl, hB⟩
set_option maxRecDepth 100000 in
set_option maxHeartbeats 4000000 in
theorem order_short (A0 : Option Addr) (c0 : Nat) (l : List S32) (v : Int) (hl : l.length ≤ 40) (hv : 0 ≤ v ∧ v ≤ 255) (w : World) (hr0 : Kd.C k32 w A0 l.length l) (hc0 : l.length ≤ c0) :
    Calls Try.prog 3 #[.slice A0 l.length c0, .int .u8 v] w fun e w' => e = .returned (.bool true) ∧ Below w.heap.size w w' := by
  have hb : decide (40 < (l.length : Int)) = false := decide_eq_false (by omega)
  go_enter Try.func3, Try.ntmps3
  go_upto_region 4 with (go_at_call 9; refine (alive_core _).mono ?_; rintro e w1 ⟨rfl, hB⟩)
  go_upto_region 5 with (fail)
  obtain ⟨W0, hW0, hC, hB0, hsz0⟩ := new_cap w1
  rw [hW0]
  clear hW0
  obtain ⟨g, hg⟩ : ∃ g, w1.heap.size = g := ⟨_, rfl⟩
  rw [hg] at hC
  rw [hg]
  have hge : w.heap.size ≤ g := by rw [← hg]; exact hB.size
  replace hB := below_step hB hB0
  obtain ⟨W1, hW1, hCd, hB1, hsz1⟩ := new_cap W0
  rw [hW1]
  clear hW1
  obtain ⟨gd, hgdE⟩ : ∃ gd, W0.heap.size = gd := ⟨_, rfl⟩
  rw [hgdE] at hCd
  rw [hg, hgdE] at hsz0
  have hgne : g < gd := by rw [← hgdE]; exact hC.lt
  have hged : w.heap.size ≤ gd := by omega
  replace hB := below_step hB hB1
  replace hC := hC.below hB1
  have hptr : g + 1 = gd := by omega
  rw [hptr]
  clear hB0 hB1 hsz0 hsz1 hg hgdE hptr
  have hr0' := Lib.hid hr0
  clear hr0
  go_wp2_with (go_in)
  go_loopw [8, 29] (fun v8 v29 wr => ∃ (i : Nat), i ≤ l.length ∧ v29 = .int .i64 i ∧ Kd.R k32 32 wr w.heap.size (fun k => k ≠ g ∧ k ≠ gd) v8 (accL none32 (l.take i)) ∧ CapAt wr g (playM none32 (l.take i)) ∧ CapAt wr gd none32 ∧ Below w.heap.size w wr)
    (fun _ v29 _ => l.length - (intOf v29).toNat)
  case atStart => exact ⟨0, Nat.zero_le _, rfl, Kd.R_nil _ _ _ _ _, hC, hCd, hB⟩
  case round =>
    clear hC hCd hB
    obtain ⟨i, hi, rfl, hO, hC, hCd, hB⟩ := hrel
    obtain ⟨AD, cD, rfl⟩ := Kd.R_slice hO
    by_cases hlt : i < l.length
    · have hcl : decide ((i : Int) < (l.length : Int)) = true := decide_eq_true (by omega)
      have p1 : 0 ≤ (i : Int) := by omega
      have q1 : (i : Int) < (l.length : Int) := by omega
      obtain ⟨ad, ead, hx0, hx1, hx2, hx3⟩ := at_T32 (Kd.C_below hr0'.out hB) (i : Int) p1 q1
      cases ead
      rw [Int.toNat_natCast] at hx0 hx1 hx2 hx3
      have hstep : playM none32 (l.take (i + 1)) = nM (playM none32 (l.take i)) (rd_T32 l (i : Int)) := by
        rw [List.take_succ_eq_append_getElem hlt, playM_snoc]
        simp [rd_T32, hlt, nM]
      have hstepD : accL none32 (l.take (i + 1)) = accL none32 (l.take i) ++ (bif nE (playM none32 (l.take i)) (rd_T32 l (i : Int)) == 0 then [rd_T32 l (i : Int)] else []) := by
        rw [List.take_succ_eq_append_getElem hlt, accL_snoc _ _ _ rfl]
        simp [rd_T32, hlt]
      have hDl : (accL none32 (l.take i)).length ≤ 40 := by have := accL_len (l.take i) none32; have := List.length_take_le i l; omega
      generalize rd_T32 l (i : Int) = o at hx0 hx1 hx2 hx3 hstep hstepD
      obtain ⟨o0, o1, o2, o3⟩ := o
      simp only [nM, nE] at hx0 hx1 hx2 hx3 hstep hstepD
      replace p1 := eq_true p1
      replace q1 := eq_true q1
      have hm := hC.len
      generalize playM none32 (l.take i) = m at hC hstep hstepD hm
      generalize accL none32 (l.take i) = D at hO hstepD hDl
      rcases noteE_cases m hm o1 o2 o3 with ⟨he, hM⟩ | ⟨he, hb1, hb2, j, hj, hjn, hM⟩
      · have fN := note_at g o1 o2 o3 m 130 m he hM
        rw [he, show ((130 : Int) == 0) = false from rfl, cond_false, List.append_nil] at hstepD
        go_wp2_with (go_at_call 10; refine (fN _ (hC.below ((Below.refl _ _).alloc (Nat.le_refl _) _))).mono ?_; rintro e w5 ⟨rfl, hC5, hG5⟩)
        exact ⟨⟨i + 1, by omega, by go_num, by rw [hstepD]; exact R_keepB (Kd.R_alloc hO _) hG5 (fun _ hk => hk.1), by rw [hstep, hM]; exact hC5, (hCd.below ((Below.refl _ _).alloc (Nat.le_refl _) _)).grown hG5 (by intro q; cases q; omega), (hB.alloc hB.size _).grown hG5 (by have := hB.size; simp; omega) (fun j q => by cases q; exact hge)⟩, by simp [intOf]; omega⟩
      · have fN := note_at g o1 o2 o3 m 0 _ he hM
        rw [he, show ((0 : Int) == 0) = true from rfl, cond_true] at hstepD
        go_upto_region 10 with (go_at_call 10; refine (fN _ (hC.below ((Below.refl _ _).alloc (Nat.le_refl _) _))).mono ?_; rintro e w5 ⟨rfl, hC5, hG5⟩)
        have hbo := blk_grown (heap_alloc_new wr (.cells #[.int .i64 o0, .int .i64 o1, .int .i64 o2, .int .i64 o3] 32)) hG5 (by intro q; cases q; have := hC.lt; omega)
        have hq0 : w5.cell? ⟨wr.heap.size, 0, none⟩ = some (.int .i64 o0) := (blk_cell hbo 0).trans rfl
        have hq1 : w5.cell? ⟨wr.heap.size, 1, none⟩ = some (.int .i64 o1) := (blk_cell hbo 1).trans rfl
        have hq2 : w5.cell? ⟨wr.heap.size, 2, none⟩ = some (.int .i64 o2) := (blk_cell hbo 2).trans rfl
        have hq3 : w5.cell? ⟨wr.heap.size, 3, none⟩ = some (.int .i64 o3) := (blk_cell hbo 3).trans rfl
        have hO5 := R_keepB (Kd.R_alloc hO (.cells #[.int .i64 o0, .int .i64 o1, .int .i64 o2, .int .i64 o3] 32)) hG5 (fun _ hk => hk.1)
        have hB5 := (hB.alloc hB.size (.cells #[.int .i64 o0, .int .i64 o1, .int .i64 o2, .int .i64 o3] 32)).grown hG5 (by have := hB.size; simp; omega) (fun j q => by cases q; exact hge)
        have hgl := hC5.lt
        have hCd5 := (hCd.below ((Below.refl _ _).alloc (Nat.le_refl _) (.cells #[.int .i64 o0, .int .i64 o1, .int .i64 o2, .int .i64 o3] 32))).grown hG5 (by intro q; cases q; omega)
        have hgl' := hCd5.lt
        go_wp2_with (at_builtin; refine Kd.R_append k32 (w0 := w) w.heap.size rfl (.tmp 41) (.tmp 43) 22 32 (.agg #[.int .i64 0, .int .i64 0, .int .i64 0, .int .i64 0]) 32 rfl under_ops info_op rfl (by decide) (by omega) (.slice AD D.length cD) D ⟨o0, o1, o2, o3⟩ [.int .i64 o0, .int .i64 o1, .int .i64 o2, .int .i64 o3] (fun k => k ≠ g ∧ k ≠ gd) (fun _ => False) rfl ?aX (k32_mkM _ _ _ ⟨o0, o1, o2, o3⟩) (fun _ hk => hk.elim) ?aF hO5 hB5 hB5.size ?aL ?_; (case aX => first | rfl | (go_simp; done) | (go_simp; rfl) | (simp; done)); (case aF => intro k hk; omega); (case aL => omega); intro v69 w69 ho hb hg hat)
        exact ⟨⟨i + 1, by omega, by go_num, by rw [hstepD]; exact ho, by rw [hstep, hM]; exact hC5.grown hg (fun q => (hO5.1 g q.symm).1 rfl), hCd5.grown hg (fun q => (hO5.1 gd q.symm).2 rfl), hb⟩, by simp [intOf]; omega⟩
    · obtain rfl : i = l.length := by omega
      have hcl : decide ((l.length : Int) < (l.length : Int)) = false := decide_eq_false (by omega)
      rw [List.take_length] at hC hO ⊢
      have hF : FitM (playM none32 l) := fit_playM l _ FitM.none
      have hbo := back_ok l
      have hba := back_all l
      have hDl := accL_len l none32
      generalize playM none32 l = m at hC hF hba
      generalize accL none32 l = D at hO hbo hba hDl ⊢
      have hm := hC.len
      go_wp2_with (go_in)
      go_loopw [11] (fun v11 wr => ∃ (k : Nat) (j : Int), k ≤ D.length ∧ j = (D.length : Int) - 1 - k ∧ v11 = .int .i64 j ∧ Kd.R k32 32 wr w.heap.size (fun k => k ≠ g ∧ k ≠ gd) (.slice AD D.length cD) D ∧ CapAt wr g m ∧ CapAt wr gd (playM none32 (D.reverse.take k)) ∧ Below w.heap.size w wr)
        (fun v11 _ => (intOf v11 + 1).toNat)
      case atStart => exact ⟨0, _, Nat.zero_le _, rfl, by go_num, hO, hC, hCd, hB⟩
      case round =>
        clear hO hC hCd hB
        obtain ⟨k, j, hk, hj, rfl, hO, hC, hCd, hB⟩ := hrel
        by_cases hkl : k < D.length
        · have hcl : decide (0 ≤ j) = true := decide_eq_true (by omega)
          have p1 : 0 ≤ j := by omega
          have q1 : j < (D.length : Int) := by omega
          obtain ⟨ad, ead, hx0, hx1, hx2, hx3⟩ := at_T32 (Kd.R_reads' hO).2.2 j p1 q1
          cases ead
          have he := hbo k hkl
          have hstep := back_step D k hkl
          have hjn : j.toNat = D.length - 1 - k := by omega
          have hrd : rd_T32 D j = D.getD (D.length - 1 - k) z32 := by unfold rd_T32; rw [hjn]
          have hat : ∀ W', Kd.R k32 32 W' w.heap.size (fun k => k ≠ g ∧ k ≠ gd) (.slice (some ad) D.length cD) D → W'.cell? ⟨(ad.add (j.toNat * 4)).block, (ad.add (j.toNat * 4)).off + 1, none⟩ = some (.int .i64 (rd_T32 D j).f1) ∧ W'.cell? ⟨(ad.add (j.toNat * 4)).block, (ad.add (j.toNat * 4)).off + 2, none⟩ = some (.int .i64 (rd_T32 D j).f2) ∧ W'.cell? ⟨(ad.add (j.toNat * 4)).block, (ad.add (j.toNat * 4)).off + 3, none⟩ = some (.int .i64 (rd_T32 D j).f3) := fun W' h => by
            obtain ⟨ad', ead', _, y1, y2, y3⟩ := at_T32 (Kd.R_reads' h).2.2 j p1 q1
            cases ead'
            exact ⟨y1, y2, y3⟩
          rw [hrd] at hx1 hx2 hx3 hat
          have hj' := Lib.hid hj
          clear hx0 hrd hjn hj
          generalize D.getD (D.length - 1 - k) z32 = o at hx1 hx2 hx3 hstep he hat
          obtain ⟨o0, o1, o2, o3⟩ := o
          simp only [nM, nE] at hx1 hx2 hx3 hstep he hat
          replace p1 := eq_true p1
          replace q1 := eq_true q1
          generalize playM none32 (D.reverse.take k) = mk at hCd hstep he
          have fN := note_at gd o1 o2 o3 mk 0 _ he hstep.symm
          clear he hstep
          go_upto_region 15 with (fail)
          have hN : ∀ W', Below wr.heap.size wr W' → Calls Try.prog 10 #[.pointer (some ⟨gd, 0, none⟩), .int .i64 o1, .int .i64 o2, .int .i64 o3] W' fun x w' => x = .returned (.int .i64 0) ∧ Kd.R k32 32 w' w.heap.size (fun k => k ≠ g ∧ k ≠ gd) (.slice (some ad) D.length cD) D ∧ CapAt w' g m ∧ CapAt w' gd (playM none32 (D.reverse.take (k + 1))) ∧ Below w.heap.size w w' := fun W' hb => by
            refine (fN _ (hCd.below hb)).mono ?_
            rintro e w5 ⟨rfl, h5, G5⟩
            have hb' := below_step hB hb
            exact ⟨rfl, R_keepB (Kd.R_below hO hb) G5 (fun _ hk => hk.2), (hC.below hb).grown G5 (by intro q; cases q; omega), h5, hb'.grown G5 hb'.size (fun j q => by cases q; exact hged)⟩
          go_region_held (fun W' => W'.cell? ⟨(ad.add (j.toNat * 4)).block, (ad.add (j.toNat * 4)).off + 1, none⟩ = some (.int .i64 o1) ∧ W'.cell? ⟨(ad.add (j.toNat * 4)).block, (ad.add (j.toNat * 4)).off + 2, none⟩ = some (.int .i64 o2) ∧ W'.cell? ⟨(ad.add (j.toNat * 4)).block, (ad.add (j.toNat * 4)).off + 3, none⟩ = some (.int .i64 o3)) (first | (exact hat _ (Kd.R_drew hO)) | (exact hat _ hO5)) ((go_at_call 10; refine (hN _ ?hb).mono ?_; (case hb => first | exact below_drew (Below.refl _ _) | exact Below.refl _ _); rintro e w5 ⟨rfl, hO5, hC5, hCd5, hB5⟩))
          have hj2 := hj'.out
          go_wp2
          exact ⟨⟨k + 1, j - 1, by omega, by push_cast; omega, by go_num, hO5, hC5, hCd5, hB5⟩, by simp [intOf]; omega⟩
        · obtain rfl : k = D.length := by omega
          have hcl : decide (0 ≤ j) = false := decide_eq_false (by omega)
          rw [show D.reverse.take D.length = D.reverse by rw [← List.length_reverse, List.take_length], hba] at hCd
          clear hj hbo hba hDl hkl hk
          have hW16 : (devL m (List.range 16)).length ≤ 16 := by have := devL_len m (List.range 16); simpa using this
          have fL := list_core g m hF
          have fLd := list_core gd m hF
          have fCt := count_at g m hF _ rfl
          obtain ⟨n, hn, hn16⟩ : ∃ n : Nat, v % 16 = (n : Int) ∧ n < 16 := ⟨(v % 16).toNat, by omega, by omega⟩
          have hwa := want_all m n hn16
          have hri := dev_rise m
          have hVl := valL_len m n (List.range 16)
          rw [List.length_range] at hVl
          have fV := values_at g n m hF
          obtain ⟨V, hV⟩ : ∃ V, valL m n (List.range 16) = V := ⟨_, rfl⟩
          replace fV := fV V hV
          rw [hV] at hwa hVl
          clear hV
          obtain ⟨Wl, hWl⟩ : ∃ W, devL m (List.range 16) = W := ⟨_, rfl⟩
          have hds := dev_same Wl (by rw [← hWl]; omega)
          have hls := longs_same V (by omega)
          have hri' : ∀ i, i + 1 < Wl.length → (rd_T39 Wl (i : Nat)).f0 < (rd_T39 Wl ((i + 1 : Nat) : Int)).f0 := by
            intro i hi
            subst hWl
            have := hri i hi
            unfold rd_T39
            rw [Int.toNat_natCast, Int.toNat_natCast, List.getD_eq_getElem?_getD, List.getD_eq_getElem?_getD, List.getElem?_eq_getElem hi, List.getElem?_eq_getElem (by omega)]
            exact this
          clear hri
          rw [hWl] at hW16 fL fLd hwa fCt
          clear hWl
          go_upto_region 18 with (go_at_call 11; refine (fL _ hC).mono ?_; rintro e w6 ⟨v6, rfl, hW, hb6⟩; have hglt := hC.lt; have hgdlt := hCd.lt; replace hW := Kd.R_mono (Kd.R_bound hW) (ok' := fun k => k ≠ g ∧ k ≠ gd ∧ k < w6.heap.size) (fun k hk => ⟨by have := hk.2.1; omega, by have := hk.2.1; omega, hk.2.2.1⟩); replace hC := hC.below hb6; replace hCd := hCd.below hb6; replace hB := below_step hB hb6; have hsz6 := hb6.size; clear hb6 hO)
          obtain ⟨AW, cW, rfl⟩ := Kd.R_slice hW
          obtain ⟨gB, hgB⟩ : ∃ b, wr.heap.size = b := ⟨_, rfl⟩
          rw [hgB] at hW
          obtain ⟨gW, hgW⟩ : ∃ b, w6.heap.size = b := ⟨_, rfl⟩
          rw [hgW] at hW
          have hgW1 : g < gW := by omega
          have hgW2 : gd < gW := by omega
          have hgW3 : gW ≤ w6.heap.size := by omega
          clear hgB hgW hglt hgdlt hsz6
          go_upto_region 19 with (fail)
          rw [hn]
          clear hn hv
          go_wp2_with (go_in)
          go_loopw [14, 15, 76] (fun v14 v15 v76 wr => ∃ (i : Nat), i ≤ Wl.length ∧ v76 = .int .i64 i ∧ v15 = .bool (wantL n (Wl.take i)).2 ∧ Kd.R (Kd.int .i64) 2 wr w.heap.size (fun k => gW ≤ k) v14 (wantL n (Wl.take i)).1 ∧ (wantL n (Wl.take i)).1.length ≤ 2 * i ∧ Kd.R k39 39 wr gB (fun k => k ≠ g ∧ k ≠ gd ∧ k < gW) (.slice AW Wl.length cW) Wl ∧ CapAt wr g m ∧ CapAt wr gd m ∧ gW ≤ wr.heap.size ∧ Below w.heap.size w wr)
            (fun _ _ v76 _ => Wl.length - (intOf v76).toNat)
          case atStart => exact ⟨0, Nat.zero_le _, rfl, rfl, Kd.R_nil _ _ _ _ _, Nat.zero_le _, hW, hC, hCd, hgW3, hB⟩
          case round =>
            clear hW hC hCd hB hgW3
            obtain ⟨i, hi, rfl, rfl, hO, hOl, hW, hC, hCd, hgW3, hB⟩ := hrel
            by_cases hlt : i < Wl.length
            · have hcl : decide ((i : Int) < (Wl.length : Int)) = true := decide_eq_true (by omega)
              have p1 : 0 ≤ (i : Int) := by omega
              have q1 : (i : Int) < (Wl.length : Int) := by omega
              obtain ⟨ad, ead, hx0, hx1⟩ := at_T39 (Kd.R_reads' hW).2.2 (i : Int) p1 q1
              cases ead
              rw [Int.toNat_natCast] at hx0 hx1
              have hstep : wantL n (Wl.take (i + 1)) = wantS n (wantL n (Wl.take i)) (rd_T39 Wl (i : Int)) := by
                rw [List.take_succ_eq_append_getElem hlt, wantL_snoc]
                simp [rd_T39, hlt]
              have hup : 0 < i → (rd_T39 Wl ((i : Int) - 1)).f0 < (rd_T39 Wl (i : Int)).f0 := by
                intro h
                have := hri' (i - 1) (by omega)
                rw [show ((i - 1 : Nat) : Int) = (i : Int) - 1 by omega, show ((i - 1 + 1 : Nat) : Int) = (i : Int) by omega] at this
                exact this
              generalize rd_T39 Wl (i : Int) = o at hx0 hx1 hstep hup
              obtain ⟨o0, o1⟩ := o
              simp only at hx0 hx1 hstep hup
              have hHO := Kd.R_alloc (Kd.R_mono (Kd.R_bound hO) (ok' := fun k => gW ≤ k ∧ k ≠ wr.heap.size) (fun k hk => ⟨hk.1, by have := hk.2.2.1; omega⟩)) (.cells #[.int .i64 o0, .int .i64 o1] 39)
              have hHW := Kd.R_alloc hW (.cells #[.int .i64 o0, .int .i64 o1] 39)
              have hHB := hB.alloc hB.size (.cells #[.int .i64 o0, .int .i64 o1] 39)
              have hHC := hC.below ((Below.refl _ _).alloc (Nat.le_refl _) (.cells #[.int .i64 o0, .int .i64 o1] 39))
              have hHd := hCd.below ((Below.refl _ _).alloc (Nat.le_refl _) (.cells #[.int .i64 o0, .int .i64 o1] 39))
              have hHx := heap_alloc_new wr (.cells #[.int .i64 o0, .int .i64 o1] 39)
              have hHs : gW ≤ (wr.alloc (.cells #[.int .i64 o0, .int .i64 o1] 39)).heap.size := by simp; omega
              clear hO hB hC hCd hgW3
              generalize wantL n (Wl.take i) = t at hstep hHO hOl ⊢
              obtain ⟨t1, t2⟩ := t
              simp only at hHO hOl ⊢
              rcases Nat.eq_zero_or_pos i with hi0 | hi0
              · have c0a : decide (0 < (i : Int)) = false := decide_eq_false (by omega)
                have c0b : decide (0 < i) = false := decide_eq_false (by omega)
                clear hup hi0
                replace p1 := eq_true p1
                replace q1 := eq_true q1
                go_upto_region 24 with (fail)
                go_quiet (fail)
                have hHW := Kd.R_drewN hHW nq
                have hHO := Kd.R_drewN hHO nq
                have hHB := pw_below_drewN hHB nq
                have hbq := pw_below_drewN (Below.refl (wr.alloc (.cells #[.int .i64 o0, .int .i64 o1] 39)).heap.size (wr.alloc (.cells #[.int .i64 o0, .int .i64 o1] 39))) nq
                have hHC := hHC.below hbq
                have hHd := hHd.below hbq
                have hHx := blk_below hHx hbq
                have hHs := Nat.le_trans hHs hbq.size
                clear hbq
                generalize (wr.alloc (.cells #[.int .i64 o0, .int .i64 o1] 39)).drewN nq = W2 at *
                have hz0 : W2.cell? ⟨wr.heap.size, 0, none⟩ = some (.int .i64 o0) := (blk_cell hHx 0).trans rfl
                have hz1 : W2.cell? ⟨wr.heap.size, 1, none⟩ = some (.int .i64 o1) := (blk_cell hHx 1).trans rfl
                have hlt0 := blk_lt hHx
                by_cases hn1 : (n : Int) ≤ o0
                · have d1 : decide ((n : Int) ≤ o0) = true := decide_eq_true hn1
                  by_cases hn2 : o0 = (n : Int)
                  · have d2 : (o0 == (n : Int)) = true := by simpa using hn2
                    cases t2 with
                    | true =>
                      have hS := wantS_own (a := t1) (n := (n : Int)) (x := ⟨o0, o1⟩) hn2
                      clear hn1 hn2
                      go_wp2
                      exact ⟨⟨i + 1, by omega, by go_num, by rw [hstep, hS], by rw [hstep, hS]; exact Kd.R_mono hHO (fun k hk => hk.1), by rw [hstep, hS]; show t1.length ≤ 2 * (i + 1); omega, hHW, hHC, hHd, hHs, hHB⟩, by simp [intOf]; omega⟩
                    | false =>
                      have hS := wantS_put (a := t1) (n := (n : Int)) (x := ⟨o0, o1⟩) hn1 hn2
                      clear hn1 hn2
                      go_wp2_with (at_builtin; refine Kd.R_append (Kd.int .i64) (w0 := w) w.heap.size rfl (.tmp 102) (.tmp 103) 37 2 (.int .i64 0) 8 rfl under_ls info_l rfl (by decide) (by omega) _ (t1) (0) [.int .i64 (0)] (fun k => gW ≤ k ∧ k ≠ wr.heap.size) (fun _ => False) rfl ?aX rfl (fun _ hk => hk.elim) ?aF hHO hHB hHB.size ?aL ?_; (case aX => first | rfl | (go_simp; done) | (go_simp; rfl) | (simp; done)); (case aF => intro k hk; exact ⟨by omega, by omega⟩); (case aL => first | omega | (simp; omega)); intro v68 w68 ho hb hg hat; have hby := blk_grown hHx hg (fun q => (hHO.1 _ q.symm).2 rfl); have hz1' : w68.cell? ⟨wr.heap.size, 1, none⟩ = some (.int .i64 o1) := (blk_cell hby 1).trans rfl; have hz0' : w68.cell? ⟨wr.heap.size, 0, none⟩ = some (.int .i64 o0) := (blk_cell hby 0).trans rfl; have hW1 := Kd.R_grown hHW hg (fun k hk q => by have := (hHO.1 k q.symm).1; omega); have hC1 := hHC.grown hg (fun q => by have := (hHO.1 g q.symm).1; omega); have hCd1 := hHd.grown hg (fun q => by have := (hHO.1 gd q.symm).1; omega); have hs1 := hg.size; have hlt1 := blk_lt hby)
                      exact ⟨⟨i + 1, by omega, by go_num, by rw [hstep, hS], by rw [hstep, hS]; exact Kd.R_mono ho (fun k hk => hk.1), by rw [hstep, hS]; simp only [List.length_append, List.length_singleton]; omega, hW1, hC1, hCd1, (by omega), hb⟩, by simp [intOf]; omega⟩
                  · have d2 : (o0 == (n : Int)) = false := by simpa using hn2
                    cases t2 with
                    | true =>
                      have hS := wantS_had (a := t1) (n := (n : Int)) (x := ⟨o0, o1⟩) hn2
                      clear hn1 hn2
                      go_wp2_with (at_builtin; refine Kd.R_append (Kd.int .i64) (w0 := w) w.heap.size rfl (.tmp 109) (.tmp 112) 37 2 (.int .i64 0) 8 rfl under_ls info_l rfl (by decide) (by omega) _ (t1) (o1) [.int .i64 (o1)] (fun k => gW ≤ k ∧ k ≠ wr.heap.size) (fun _ => False) rfl ?aX rfl (fun _ hk => hk.elim) ?aF hHO hHB hHB.size ?aL ?_; (case aX => first | rfl | (go_simp; done) | (go_simp; rfl) | (simp; done)); (case aF => intro k hk; exact ⟨by omega, by omega⟩); (case aL => first | omega | (simp; omega)); intro v68 w68 ho hb hg hat; have hby := blk_grown hHx hg (fun q => (hHO.1 _ q.symm).2 rfl); have hz1' : w68.cell? ⟨wr.heap.size, 1, none⟩ = some (.int .i64 o1) := (blk_cell hby 1).trans rfl; have hz0' : w68.cell? ⟨wr.heap.size, 0, none⟩ = some (.int .i64 o0) := (blk_cell hby 0).trans rfl; have hW1 := Kd.R_grown hHW hg (fun k hk q => by have := (hHO.1 k q.symm).1; omega); have hC1 := hHC.grown hg (fun q => by have := (hHO.1 g q.symm).1; omega); have hCd1 := hHd.grown hg (fun q => by have := (hHO.1 gd q.symm).1; omega); have hs1 := hg.size; have hlt1 := blk_lt hby)
                      exact ⟨⟨i + 1, by omega, by go_num, by rw [hstep, hS], by rw [hstep, hS]; exact Kd.R_mono ho (fun k hk => hk.1), by rw [hstep, hS]; simp only [List.length_append, List.length_singleton]; omega, hW1, hC1, hCd1, (by omega), hb⟩, by simp [intOf]; omega⟩
                    | false =>
                      have hS := wantS_both (a := t1) (n := (n : Int)) (x := ⟨o0, o1⟩) hn1 hn2
                      clear hn1 hn2
                      go_wp2_with (first
                        | (at_builtin; refine Kd.R_append (Kd.int .i64) (w0 := w) w.heap.size rfl (.tmp 102) (.tmp 103) 37 2 (.int .i64 0) 8 rfl under_ls info_l rfl (by decide) (by omega) _ (t1) (0) [.int .i64 (0)] (fun k => gW ≤ k ∧ k ≠ wr.heap.size) (fun _ => False) rfl ?aX rfl (fun _ hk => hk.elim) ?aF hHO hHB hHB.size ?aL ?_; (case aX => first | rfl | (go_simp; done) | (go_simp; rfl) | (simp; done)); (case aF => intro k hk; exact ⟨by omega, by omega⟩); (case aL => first | omega | (simp; omega)); intro v68 w68 ho hb hg hat; have hby := blk_grown hHx hg (fun q => (hHO.1 _ q.symm).2 rfl); have hz1' : w68.cell? ⟨wr.heap.size, 1, none⟩ = some (.int .i64 o1) := (blk_cell hby 1).trans rfl; have hz0' : w68.cell? ⟨wr.heap.size, 0, none⟩ = some (.int .i64 o0) := (blk_cell hby 0).trans rfl; have hW1 := Kd.R_grown hHW hg (fun k hk q => by have := (hHO.1 k q.symm).1; omega); have hC1 := hHC.grown hg (fun q => by have := (hHO.1 g q.symm).1; omega); have hCd1 := hHd.grown hg (fun q => by have := (hHO.1 gd q.symm).1; omega); have hs1 := hg.size; have hlt1 := blk_lt hby)
                        | (at_builtin; refine Kd.R_append (Kd.int .i64) (w0 := w) w.heap.size rfl (.tmp 109) (.tmp 112) 37 2 (.int .i64 0) 8 rfl under_ls info_l rfl (by decide) (by omega) _ (t1 ++ [0]) (o1) [.int .i64 (o1)] (fun k => gW ≤ k ∧ k ≠ wr.heap.size) (fun _ => False) rfl ?aX rfl (fun _ hk => hk.elim) ?aF ho hb hb.size ?aL ?_; (case aX => first | rfl | (go_simp; done) | (go_simp; rfl) | (simp; done)); (case aF => intro k hk; exact ⟨by omega, by omega⟩); (case aL => first | omega | (simp; omega)); intro v69 w69 ho2 hb2 hg2 hat2; have hW2 := Kd.R_grown hW1 hg2 (fun k hk q => by have := (ho.1 k q.symm).1; omega); have hC2 := hC1.grown hg2 (fun q => by have := (ho.1 g q.symm).1; omega); have hCd2 := hCd1.grown hg2 (fun q => by have := (ho.1 gd q.symm).1; omega); have hs2 := hg2.size))
                      exact ⟨⟨i + 1, by omega, by go_num, by rw [hstep, hS], by rw [hstep, hS]; exact Kd.R_mono ho2 (fun k hk => hk.1), by rw [hstep, hS]; simp only [List.length_append, List.length_singleton]; omega, hW2, hC2, hCd2, (by omega), hb2⟩, by simp [intOf]; omega⟩
                · have d1 : decide ((n : Int) ≤ o0) = false := decide_eq_false hn1
                  have hn2 : ¬ o0 = (n : Int) := by omega
                  have d2 : (o0 == (n : Int)) = false := by simpa using hn2
                  cases t2 with
                  | true =>
                    have hS := wantS_had (a := t1) (n := (n : Int)) (x := ⟨o0, o1⟩) hn2
                    clear hn1 hn2
                    go_wp2_with (at_builtin; refine Kd.R_append (Kd.int .i64) (w0 := w) w.heap.size rfl (.tmp 109) (.tmp 112) 37 2 (.int .i64 0) 8 rfl under_ls info_l rfl (by decide) (by omega) _ (t1) (o1) [.int .i64 (o1)] (fun k => gW ≤ k ∧ k ≠ wr.heap.size) (fun _ => False) rfl ?aX rfl (fun _ hk => hk.elim) ?aF hHO hHB hHB.size ?aL ?_; (case aX => first | rfl | (go_simp; done) | (go_simp; rfl) | (simp; done)); (case aF => intro k hk; exact ⟨by omega, by omega⟩); (case aL => first | omega | (simp; omega)); intro v68 w68 ho hb hg hat; have hby := blk_grown hHx hg (fun q => (hHO.1 _ q.symm).2 rfl); have hz1' : w68.cell? ⟨wr.heap.size, 1, none⟩ = some (.int .i64 o1) := (blk_cell hby 1).trans rfl; have hz0' : w68.cell? ⟨wr.heap.size, 0, none⟩ = some (.int .i64 o0) := (blk_cell hby 0).trans rfl; have hW1 := Kd.R_grown hHW hg (fun k hk q => by have := (hHO.1 k q.symm).1; omega); have hC1 := hHC.grown hg (fun q => by have := (hHO.1 g q.symm).1; omega); have hCd1 := hHd.grown hg (fun q => by have := (hHO.1 gd q.symm).1; omega); have hs1 := hg.size; have hlt1 := blk_lt hby)
                    exact ⟨⟨i + 1, by omega, by go_num, by rw [hstep, hS], by rw [hstep, hS]; exact Kd.R_mono ho (fun k hk => hk.1), by rw [hstep, hS]; simp only [List.length_append, List.length_singleton]; omega, hW1, hC1, hCd1, (by omega), hb⟩, by simp [intOf]; omega⟩
                  | false =>
                    have hS := wantS_small (a := t1) (n := (n : Int)) (x := ⟨o0, o1⟩) hn1
                    clear hn1 hn2
                    go_wp2_with (at_builtin; refine Kd.R_append (Kd.int .i64) (w0 := w) w.heap.size rfl (.tmp 109) (.tmp 112) 37 2 (.int .i64 0) 8 rfl under_ls info_l rfl (by decide) (by omega) _ (t1) (o1) [.int .i64 (o1)] (fun k => gW ≤ k ∧ k ≠ wr.heap.size) (fun _ => False) rfl ?aX rfl (fun _ hk => hk.elim) ?aF hHO hHB hHB.size ?aL ?_; (case aX => first | rfl | (go_simp; done) | (go_simp; rfl) | (simp; done)); (case aF => intro k hk; exact ⟨by omega, by omega⟩); (case aL => first | omega | (simp; omega)); intro v68 w68 ho hb hg hat; have hby := blk_grown hHx hg (fun q => (hHO.1 _ q.symm).2 rfl); have hz1' : w68.cell? ⟨wr.heap.size, 1, none⟩ = some (.int .i64 o1) := (blk_cell hby 1).trans rfl; have hz0' : w68.cell? ⟨wr.heap.size, 0, none⟩ = some (.int .i64 o0) := (blk_cell hby 0).trans rfl; have hW1 := Kd.R_grown hHW hg (fun k hk q => by have := (hHO.1 k q.symm).1; omega); have hC1 := hHC.grown hg (fun q => by have := (hHO.1 g q.symm).1; omega); have hCd1 := hHd.grown hg (fun q => by have := (hHO.1 gd q.symm).1; omega); have hs1 := hg.size; have hlt1 := blk_lt hby)
                    exact ⟨⟨i + 1, by omega, by go_num, by rw [hstep, hS], by rw [hstep, hS]; exact Kd.R_mono ho (fun k hk => hk.1), by rw [hstep, hS]; simp only [List.length_append, List.length_singleton]; omega, hW1, hC1, hCd1, (by omega), hb⟩, by simp [intOf]; omega⟩
              · have c0a : decide (0 < (i : Int)) = true := decide_eq_true (by omega)
                have c0b : decide (0 < i) = true := decide_eq_true (by omega)
                have p2 : 0 ≤ (i : Int) - 1 := by omega
                have q2 : (i : Int) - 1 < (Wl.length : Int) := by omega
                obtain ⟨ad2, ead2, hy0, _⟩ := at_T39 (Kd.R_reads' hHW).2.2 ((i : Int) - 1) p2 q2
                cases ead2
                rw [show ((i : Int) - 1).toNat = i - 1 by omega] at hy0
                have hup' := hup hi0
                have c1 : decide (o0 ≤ (rd_T39 Wl ((i : Int) - 1)).f0) = false := decide_eq_false (by omega)
                generalize (rd_T39 Wl ((i : Int) - 1)).f0 = pf at hy0 c1
                clear hup hup'
                replace p1 := eq_true p1
                replace q1 := eq_true q1
                have hwr : IntKind.i64.wrap ((i : Int) - 1) = (i : Int) - 1 := by rw [IntKind.wrap_i64]; omega
                have p2b : (1 ≤ (i : Int)) = True := eq_true (by omega)
                clear p2 hi0
                replace q2 := eq_true q2
                go_upto_region 24 with (fail)
                go_quiet (fail)
                have hHW := Kd.R_drewN hHW nq
                have hHO := Kd.R_drewN hHO nq
                have hHB := pw_below_drewN hHB nq
                have hbq := pw_below_drewN (Below.refl (wr.alloc (.cells #[.int .i64 o0, .int .i64 o1] 39)).heap.size (wr.alloc (.cells #[.int .i64 o0, .int .i64 o1] 39))) nq
                have hHC := hHC.below hbq
                have hHd := hHd.below hbq
                have hHx := blk_below hHx hbq
                have hHs := Nat.le_trans hHs hbq.size
                clear hbq
                generalize (wr.alloc (.cells #[.int .i64 o0, .int .i64 o1] 39)).drewN nq = W2 at *
                have hz0 : W2.cell? ⟨wr.heap.size, 0, none⟩ = some (.int .i64 o0) := (blk_cell hHx 0).trans rfl
                have hz1 : W2.cell? ⟨wr.heap.size, 1, none⟩ = some (.int .i64 o1) := (blk_cell hHx 1).trans rfl
                have hlt0 := blk_lt hHx
                by_cases hn1 : (n : Int) ≤ o0
                · have d1 : decide ((n : Int) ≤ o0) = true := decide_eq_true hn1
                  by_cases hn2 : o0 = (n : Int)
                  · have d2 : (o0 == (n : Int)) = true := by simpa using hn2
                    cases t2 with
                    | true =>
                      have hS := wantS_own (a := t1) (n := (n : Int)) (x := ⟨o0, o1⟩) hn2
                      clear hn1 hn2
                      go_wp2
                      exact ⟨⟨i + 1, by omega, by go_num, by rw [hstep, hS], by rw [hstep, hS]; exact Kd.R_mono hHO (fun k hk => hk.1), by rw [hstep, hS]; show t1.length ≤ 2 * (i + 1); omega, hHW, hHC, hHd, hHs, hHB⟩, by simp [intOf]; omega⟩
                    | false =>
                      have hS := wantS_put (a := t1) (n := (n : Int)) (x := ⟨o0, o1⟩) hn1 hn2
                      clear hn1 hn2
                      go_wp2_with (at_builtin; refine Kd.R_append (Kd.int .i64) (w0 := w) w.heap.size rfl (.tmp 102) (.tmp 103) 37 2 (.int .i64 0) 8 rfl under_ls info_l rfl (by decide) (by omega) _ (t1) (0) [.int .i64 (0)] (fun k => gW ≤ k ∧ k ≠ wr.heap.size) (fun _ => False) rfl ?aX rfl (fun _ hk => hk.elim) ?aF hHO hHB hHB.size ?aL ?_; (case aX => first | rfl | (go_simp; done) | (go_simp; rfl) | (simp; done)); (case aF => intro k hk; exact ⟨by omega, by omega⟩); (case aL => first | omega | (simp; omega)); intro v68 w68 ho hb hg hat; have hby := blk_grown hHx hg (fun q => (hHO.1 _ q.symm).2 rfl); have hz1' : w68.cell? ⟨wr.heap.size, 1, none⟩ = some (.int .i64 o1) := (blk_cell hby 1).trans rfl; have hz0' : w68.cell? ⟨wr.heap.size, 0, none⟩ = some (.int .i64 o0) := (blk_cell hby 0).trans rfl; have hW1 := Kd.R_grown hHW hg (fun k hk q => by have := (hHO.1 k q.symm).1; omega); have hC1 := hHC.grown hg (fun q => by have := (hHO.1 g q.symm).1; omega); have hCd1 := hHd.grown hg (fun q => by have := (hHO.1 gd q.symm).1; omega); have hs1 := hg.size; have hlt1 := blk_lt hby)
                      exact ⟨⟨i + 1, by omega, by go_num, by rw [hstep, hS], by rw [hstep, hS]; exact Kd.R_mono ho (fun k hk => hk.1), by rw [hstep, hS]; simp only [List.length_append, List.length_singleton]; omega, hW1, hC1, hCd1, (by omega), hb⟩, by simp [intOf]; omega⟩
                  · have d2 : (o0 == (n : Int)) = false := by simpa using hn2
                    cases t2 with
                    | true =>
                      have hS := wantS_had (a := t1) (n := (n : Int)) (x := ⟨o0, o1⟩) hn2
                      clear hn1 hn2
                      go_wp2_with (at_builtin; refine Kd.R_append (Kd.int .i64) (w0 := w) w.heap.size rfl (.tmp 109) (.tmp 112) 37 2 (.int .i64 0) 8 rfl under_ls info_l rfl (by decide) (by omega) _ (t1) (o1) [.int .i64 (o1)] (fun k => gW ≤ k ∧ k ≠ wr.heap.size) (fun _ => False) rfl ?aX rfl (fun _ hk => hk.elim) ?aF hHO hHB hHB.size ?aL ?_; (case aX => first | rfl | (go_simp; done) | (go_simp; rfl) | (simp; done)); (case aF => intro k hk; exact ⟨by omega, by omega⟩); (case aL => first | omega | (simp; omega)); intro v68 w68 ho hb hg hat; have hby := blk_grown hHx hg (fun q => (hHO.1 _ q.symm).2 rfl); have hz1' : w68.cell? ⟨wr.heap.size, 1, none⟩ = some (.int .i64 o1) := (blk_cell hby 1).trans rfl; have hz0' : w68.cell? ⟨wr.heap.size, 0, none⟩ = some (.int .i64 o0) := (blk_cell hby 0).trans rfl; have hW1 := Kd.R_grown hHW hg (fun k hk q => by have := (hHO.1 k q.symm).1; omega); have hC1 := hHC.grown hg (fun q => by have := (hHO.1 g q.symm).1; omega); have hCd1 := hHd.grown hg (fun q => by have := (hHO.1 gd q.symm).1; omega); have hs1 := hg.size; have hlt1 := blk_lt hby)
                      exact ⟨⟨i + 1, by omega, by go_num, by rw [hstep, hS], by rw [hstep, hS]; exact Kd.R_mono ho (fun k hk => hk.1), by rw [hstep, hS]; simp only [List.length_append, List.length_singleton]; omega, hW1, hC1, hCd1, (by omega), hb⟩, by simp [intOf]; omega⟩
                    | false =>
                      have hS := wantS_both (a := t1) (n := (n : Int)) (x := ⟨o0, o1⟩) hn1 hn2
                      clear hn1 hn2
                      go_wp2_with (first
                        | (at_builtin; refine Kd.R_append (Kd.int .i64) (w0 := w) w.heap.size rfl (.tmp 102) (.tmp 103) 37 2 (.int .i64 0) 8 rfl under_ls info_l rfl (by decide) (by omega) _ (t1) (0) [.int .i64 (0)] (fun k => gW ≤ k ∧ k ≠ wr.heap.size) (fun _ => False) rfl ?aX rfl (fun _ hk => hk.elim) ?aF hHO hHB hHB.size ?aL ?_; (case aX => first | rfl | (go_simp; done) | (go_simp; rfl) | (simp; done)); (case aF => intro k hk; exact ⟨by omega, by omega⟩); (case aL => first | omega | (simp; omega)); intro v68 w68 ho hb hg hat; have hby := blk_grown hHx hg (fun q => (hHO.1 _ q.symm).2 rfl); have hz1' : w68.cell? ⟨wr.heap.size, 1, none⟩ = some (.int .i64 o1) := (blk_cell hby 1).trans rfl; have hz0' : w68.cell? ⟨wr.heap.size, 0, none⟩ = some (.int .i64 o0) := (blk_cell hby 0).trans rfl; have hW1 := Kd.R_grown hHW hg (fun k hk q => by have := (hHO.1 k q.symm).1; omega); have hC1 := hHC.grown hg (fun q => by have := (hHO.1 g q.symm).1; omega); have hCd1 := hHd.grown hg (fun q => by have := (hHO.1 gd q.symm).1; omega); have hs1 := hg.size; have hlt1 := blk_lt hby)
                        | (at_builtin; refine Kd.R_append (Kd.int .i64) (w0 := w) w.heap.size rfl (.tmp 109) (.tmp 112) 37 2 (.int .i64 0) 8 rfl under_ls info_l rfl (by decide) (by omega) _ (t1 ++ [0]) (o1) [.int .i64 (o1)] (fun k => gW ≤ k ∧ k ≠ wr.heap.size) (fun _ => False) rfl ?aX rfl (fun _ hk => hk.elim) ?aF ho hb hb.size ?aL ?_; (case aX => first | rfl | (go_simp; done) | (go_simp; rfl) | (simp; done)); (case aF => intro k hk; exact ⟨by omega, by omega⟩); (case aL => first | omega | (simp; omega)); intro v69 w69 ho2 hb2 hg2 hat2; have hW2 := Kd.R_grown hW1 hg2 (fun k hk q => by have := (ho.1 k q.symm).1; omega); have hC2 := hC1.grown hg2 (fun q => by have := (ho.1 g q.symm).1; omega); have hCd2 := hCd1.grown hg2 (fun q => by have := (ho.1 gd q.symm).1; omega); have hs2 := hg2.size))
                      exact ⟨⟨i + 1, by omega, by go_num, by rw [hstep, hS], by rw [hstep, hS]; exact Kd.R_mono ho2 (fun k hk => hk.1), by rw [hstep, hS]; simp only [List.length_append, List.length_singleton]; omega, hW2, hC2, hCd2, (by omega), hb2⟩, by simp [intOf]; omega⟩
                · have d1 : decide ((n : Int) ≤ o0) = false := decide_eq_false hn1
                  have hn2 : ¬ o0 = (n : Int) := by omega
                  have d2 : (o0 == (n : Int)) = false := by simpa using hn2
                  cases t2 with
                  | true =>
                    have hS := wantS_had (a := t1) (n := (n : Int)) (x := ⟨o0, o1⟩) hn2
                    clear hn1 hn2
                    go_wp2_with (at_builtin; refine Kd.R_append (Kd.int .i64) (w0 := w) w.heap.size rfl (.tmp 109) (.tmp 112) 37 2 (.int .i64 0) 8 rfl under_ls info_l rfl (by decide) (by omega) _ (t1) (o1) [.int .i64 (o1)] (fun k => gW ≤ k ∧ k ≠ wr.heap.size) (fun _ => False) rfl ?aX rfl (fun _ hk => hk.elim) ?aF hHO hHB hHB.size ?aL ?_; (case aX => first | rfl | (go_simp; done) | (go_simp; rfl) | (simp; done)); (case aF => intro k hk; exact ⟨by omega, by omega⟩); (case aL => first | omega | (simp; omega)); intro v68 w68 ho hb hg hat; have hby := blk_grown hHx hg (fun q => (hHO.1 _ q.symm).2 rfl); have hz1' : w68.cell? ⟨wr.heap.size, 1, none⟩ = some (.int .i64 o1) := (blk_cell hby 1).trans rfl; have hz0' : w68.cell? ⟨wr.heap.size, 0, none⟩ = some (.int .i64 o0) := (blk_cell hby 0).trans rfl; have hW1 := Kd.R_grown hHW hg (fun k hk q => by have := (hHO.1 k q.symm).1; omega); have hC1 := hHC.grown hg (fun q => by have := (hHO.1 g q.symm).1; omega); have hCd1 := hHd.grown hg (fun q => by have := (hHO.1 gd q.symm).1; omega); have hs1 := hg.size; have hlt1 := blk_lt hby)
                    exact ⟨⟨i + 1, by omega, by go_num, by rw [hstep, hS], by rw [hstep, hS]; exact Kd.R_mono ho (fun k hk => hk.1), by rw [hstep, hS]; simp only [List.length_append, List.length_singleton]; omega, hW1, hC1, hCd1, (by omega), hb⟩, by simp [intOf]; omega⟩
                  | false =>
                    have hS := wantS_small (a := t1) (n := (n : Int)) (x := ⟨o0, o1⟩) hn1
                    clear hn1 hn2
                    go_wp2_with (at_builtin; refine Kd.R_append (Kd.int .i64) (w0 := w) w.heap.size rfl (.tmp 109) (.tmp 112) 37 2 (.int .i64 0) 8 rfl under_ls info_l rfl (by decide) (by omega) _ (t1) (o1) [.int .i64 (o1)] (fun k => gW ≤ k ∧ k ≠ wr.heap.size) (fun _ => False) rfl ?aX rfl (fun _ hk => hk.elim) ?aF hHO hHB hHB.size ?aL ?_; (case aX => first | rfl | (go_simp; done) | (go_simp; rfl) | (simp; done)); (case aF => intro k hk; exact ⟨by omega, by omega⟩); (case aL => first | omega | (simp; omega)); intro v68 w68 ho hb hg hat; have hby := blk_grown hHx hg (fun q => (hHO.1 _ q.symm).2 rfl); have hz1' : w68.cell? ⟨wr.heap.size, 1, none⟩ = some (.int .i64 o1) := (blk_cell hby 1).trans rfl; have hz0' : w68.cell? ⟨wr.heap.size, 0, none⟩ = some (.int .i64 o0) := (blk_cell hby 0).trans rfl; have hW1 := Kd.R_grown hHW hg (fun k hk q => by have := (hHO.1 k q.symm).1; omega); have hC1 := hHC.grown hg (fun q => by have := (hHO.1 g q.symm).1; omega); have hCd1 := hHd.grown hg (fun q => by have := (hHO.1 gd q.symm).1; omega); have hs1 := hg.size; have hlt1 := blk_lt hby)
                    exact ⟨⟨i + 1, by omega, by go_num, by rw [hstep, hS], by rw [hstep, hS]; exact Kd.R_mono ho (fun k hk => hk.1), by rw [hstep, hS]; simp only [List.length_append, List.length_singleton]; omega, hW1, hC1, hCd1, (by omega), hb⟩, by simp [intOf]; omega⟩
            · obtain rfl : i = Wl.length := by omega
              have hcl : decide ((Wl.length : Int) < (Wl.length : Int)) = false := decide_eq_false (by omega)
              rw [List.take_length] at hO hOl ⊢
              generalize wantL n Wl = t at hO hOl hwa ⊢
              obtain ⟨t1, t2⟩ := t
              simp only at hO hOl hwa ⊢
              cases t2 with
              | true =>
                rw [if_neg (by simp)] at hwa
                subst hwa
                obtain ⟨AV, cV, rfl⟩ := Kd.R_slice hO
                go_upto_region 33 with (fail)
                go_wp2_with (first
                  | (go_at_call 11; (with_reducible refine (fLd _ hCd).mono ?_); rintro e w12 ⟨v12, rfl, hO12, hb12⟩; replace hC := hC.below hb12; replace hB := below_step hB hb12; replace hW := Kd.R_below hW hb12; replace hO := Kd.R_below hO hb12; clear hCd hb12; obtain ⟨A12, c12, rfl⟩ := Kd.R_slice hO12)
                  | (go_at_call 12; (with_reducible refine (vespersref13_Deviations.calls (Wl.length + 1) _ cW Wl A12 c12 Wl true _ (Kd.R_reads' hW).2.2 (Kd.R_reads' hW).2.1 (Kd.R_reads' hO12).2.2 (Kd.R_reads' hO12).2.1 hds).mono ?_); rintro e w13 ⟨rfl, ⟨nd, rfl⟩⟩; replace hC := hC.below (pw_below_drewN (Below.refl _ _) nd); replace hB := pw_below_drewN hB nd; replace hW := Kd.R_drewN hW nd; replace hO := Kd.R_drewN hO nd; clear hO12)
                  | (go_at_call 14; (with_reducible refine (fV _ hC).mono ?_); rintro e w14 ⟨v14, rfl, hO14, hb14⟩; replace hC := hC.below hb14; replace hB := below_step hB hb14; replace hO := Kd.R_below hO hb14; clear hb14; obtain ⟨A14, c14, rfl⟩ := Kd.R_slice hO14)
                  | (go_at_call 13; (with_reducible refine (vespersref13_Longs.calls (t1.length + 1) A14 c14 t1 AV cV t1 true _ (Kd.R_reads' hO14).2.2 (Kd.R_reads' hO14).2.1 (Kd.R_reads' hO).2.2 (Kd.R_reads' hO).2.1 hls).mono ?_); rintro e w15 ⟨rfl, ⟨nd2, rfl⟩⟩; replace hC := hC.below (pw_below_drewN (Below.refl _ _) nd2); replace hB := pw_below_drewN hB nd2)
                  | (go_at_call 15; (with_reducible refine (fCt _ hC).mono ?_); rintro e w16 ⟨rfl, hb16⟩; replace hB := below_step hB hb16))
                go_ret
                exact ⟨rfl, hB⟩
              | false =>
                rw [if_pos rfl] at hwa
                go_upto_region 33 with (at_builtin; refine Kd.R_append (Kd.int .i64) (w0 := w) w.heap.size rfl (.tmp 117) (.tmp 118) 37 2 (.int .i64 0) 8 rfl under_ls info_l rfl (by decide) (by omega) _ t1 0 [.int .i64 0] (fun k => gW ≤ k) (fun _ => False) rfl ?aX rfl (fun _ hk => hk.elim) ?aF hO hB hB.size ?aL ?_; (case aX => first | rfl | (go_simp; done) | (go_simp; rfl) | (simp; done)); (case aF => intro k hk; omega); (case aL => omega); intro v68 w68 ho hb hg hat; have hW1 := Kd.R_grown hW hg (fun k hk q => by have := hO.1 k q.symm; omega); have hC1 := hC.grown hg (fun q => by have := hO.1 g q.symm; omega); have hCd1 := hCd.grown hg (fun q => by have := hO.1 gd q.symm; omega))
                rw [hwa] at ho
                have hO := ho
                obtain ⟨AV, cV, rfl⟩ := Kd.R_slice hO
                have hW := hW1
                have hC := hC1
                have hCd := hCd1
                have hB := hb
                clear ho hW1 hC1 hCd1 hb
                go_wp2_with (first
                  | (go_at_call 11; (with_reducible refine (fLd _ hCd).mono ?_); rintro e w12 ⟨v12, rfl, hO12, hb12⟩; replace hC := hC.below hb12; replace hB := below_step hB hb12; replace hW := Kd.R_below hW hb12; replace hO := Kd.R_below hO hb12; clear hCd hb12; obtain ⟨A12, c12, rfl⟩ := Kd.R_slice hO12)
                  | (go_at_call 12; (with_reducible refine (vespersref13_Deviations.calls (Wl.length + 1) _ cW Wl A12 c12 Wl true _ (Kd.R_reads' hW).2.2 (Kd.R_reads' hW).2.1 (Kd.R_reads' hO12).2.2 (Kd.R_reads' hO12).2.1 hds).mono ?_); rintro e w13 ⟨rfl, ⟨nd, rfl⟩⟩; replace hC := hC.below (pw_below_drewN (Below.refl _ _) nd); replace hB := pw_below_drewN hB nd; replace hW := Kd.R_drewN hW nd; replace hO := Kd.R_drewN hO nd; clear hO12)
                  | (go_at_call 14; (with_reducible refine (fV _ hC).mono ?_); rintro e w14 ⟨v14, rfl, hO14, hb14⟩; replace hC := hC.below hb14; replace hB := below_step hB hb14; replace hO := Kd.R_below hO hb14; clear hb14; obtain ⟨A14, c14, rfl⟩ := Kd.R_slice hO14)
                  | (go_at_call 13; (with_reducible refine (vespersref13_Longs.calls (V.length + 1) A14 c14 V AV cV V true _ (Kd.R_reads' hO14).2.2 (Kd.R_reads' hO14).2.1 (Kd.R_reads' hO).2.2 (Kd.R_reads' hO).2.1 hls).mono ?_); rintro e w15 ⟨rfl, ⟨nd2, rfl⟩⟩; replace hC := hC.below (pw_below_drewN (Below.refl _ _) nd2); replace hB := pw_below_drewN hB nd2)
                  | (go_at_call 15; (with_reducible refine (fCt _ hC).mono ?_); rintro e w16 ⟨rfl, hb16⟩; replace hB := below_step hB hb16))
                go_ret
                exact ⟨rfl, hB⟩
theorem order_core (A0 : Option Addr) (c0 : Nat) (l : List S32) (v : Int) (hv : (Lit.int .u8 v).wf = true) (w : World) (hr0 : Kd.C k32 w A0 l.length l) (hc0 : l.length ≤ c0) :
    Calls Try.prog 3 #[.slice A0 l.length c0, .int .u8 v] w fun e w' => e = .returned (.bool true) ∧ Below w.heap.size w w' := by
  have hb : 0 ≤ v ∧ v ≤ 255 := by
    rw [show (Lit.int .u8 v).wf = (decide (IntKind.u8.min ≤ v) && decide (v ≤ IntKind.u8.max)) from rfl, show IntKind.u8.min = 0 by decide, show IntKind.u8.max = 255 by decide] at hv
    simpa using hv
  by_cases h : (l.length : Int) > 40
  · exact order_long A0 c0 l v h w
  · exact order_short A0 c0 l v (by omega) hb w hr0 hc0
end Go.Proofs.Ytfhkmokgbndeeaa.Hand
