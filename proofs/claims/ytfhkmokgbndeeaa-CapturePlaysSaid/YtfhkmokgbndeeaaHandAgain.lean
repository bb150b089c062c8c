/- What 'vesperslaw13.CaptureAgain' computes, by hand. -/
import Derived.Test.YtfhkmokgbndeeaaHandAcc
set_option linter.unusedVariables false
set_option linter.unusedSimpArgs false
namespace Go.Proofs.Ytfhkmokgbndeeaa.Hand
open Go.RowKit Go.Proofs.Ytfhkmokgbndeeaa.Cap Go.Proofs.Ytfhkmokgbndeeaa.PA Go.Proofs.Ytfhkmokgbndeeaa.PB Go.Proofs.YtfhkmokgbndeeaaW.PrintWords Go.Proofs.YtfhkmokgbndeeaaW.PrintLast Go.Proofs.YtfhkmokgbndeeaaW.PrintMore
attribute [local go_sem] Oper.semAt_some

theorem info_op : (Try.prog.info? 32).map (fun i => (i.zero, i.size, i.bytes)) = some (some (.agg #[.int .i64 0, .int .i64 0, .int .i64 0, .int .i64 0]), 4, 32) := by kernel_rfl
theorem again_long (A0 : Option Addr) (c0 : Nat) (l : List S32) (hl : (l.length : Int) > 40) (w : World) : Calls Try.prog 8 #[.slice A0 l.length c0] w fun e w' => e = .returned (.bool true) ∧ Below w.heap.size w w' := by
  have hb : decide (40 < (l.length : Int)) = true := decide_eq_true hl
  go_enter Try.func8, Try.ntmps8
  go_wp2_with (go_at_call 9; refine (alive_core _).mono ?_; rintro e w1 ⟨rfl, hB⟩)
  go_ret
  exact ⟨rfl, hB⟩
set_option maxRecDepth 100000 in
set_option maxHeartbeats 4000000 in
theorem again_short (A0 : Option Addr) (c0 : Nat) (l : List S32) (hl : l.length ≤ 40) (w : World) (hr0 : Kd.C k32 w A0 l.length l) (hc0 : l.length ≤ c0) :
    Calls Try.prog 8 #[.slice A0 l.length c0] w fun e w' => e = .returned (.bool true) ∧ Below w.heap.size w w' := by
  have hb : decide (40 < (l.length : Int)) = false := decide_eq_false (by omega)
  go_enter Try.func8, Try.ntmps8
  go_upto_region 4 with (go_at_call 9; refine (alive_core _).mono ?_; rintro e w1 ⟨rfl, hB⟩)
  go_upto_region 5 with (fail)
  obtain ⟨W0, hW0, hC, hB0, hsz0⟩ := new_cap w1
  rw [hW0]
  clear hW0
  obtain ⟨g, hg⟩ : ∃ g, w1.heap.size = g := ⟨_, rfl⟩
  rw [hg] at hC
  rw [hg]
  have hge : w.heap.size ≤ g := by rw [← hg]; exact hB.size
  replace hB := below_step hB hB0
  clear hB0 hsz0 hg
  have hr0' := Lib.hid hr0
  clear hr0
  go_wp2_with (go_in)
  go_loopw [5, 25] (fun v5 v25 wr => ∃ (i : Nat), i ≤ l.length ∧ v25 = .int .i64 i ∧ Kd.R k32 32 wr w.heap.size (fun k => k ≠ g) v5 (accL none32 (l.take i)) ∧ CapAt wr g (playM none32 (l.take i)) ∧ Below w.heap.size w wr)
    (fun _ v25 _ => l.length - (intOf v25).toNat)
  case atStart => exact ⟨0, Nat.zero_le _, rfl, Kd.R_nil _ _ _ _ _, hC, hB⟩
  case round =>
    clear hC hB
    obtain ⟨i, hi, rfl, hO, hC, hB⟩ := hrel
    obtain ⟨AD, cD, rfl⟩ := Kd.R_slice hO
    by_cases hlt : i < l.length
    · have hcl : decide ((i : Int) < (l.length : Int)) = true := decide_eq_true (by omega)
      have p1 : 0 ≤ (i : Int) := by omega
      have q1 : (i : Int) < (l.length : Int) := by omega
      obtain ⟨ad, ead, hx0, hx1, hx2, hx3⟩ := at_T32 (Kd.C_below hr0'.out hB) (i : Int) p1 q1
      cases ead
      rw [Int.toNat_natCast] at hx0 hx1 hx2 hx3
      have hstep : playM none32 (l.take (i + 1)) = nM (playM none32 (l.take i)) (rd_T32 l (i : Int)) := by
        rw [List.take_succ_eq_append_getElem hlt, playM_snoc]
        simp [rd_T32, hlt, nM]
      have hstepD : accL none32 (l.take (i + 1)) = accL none32 (l.take i) ++ (bif nE (playM none32 (l.take i)) (rd_T32 l (i : Int)) == 0 then [rd_T32 l (i : Int)] else []) := by
        rw [List.take_succ_eq_append_getElem hlt, accL_snoc _ _ _ rfl]
        simp [rd_T32, hlt]
      have hDl : (accL none32 (l.take i)).length ≤ 40 := by have := accL_len (l.take i) none32; have := List.length_take_le i l; omega
      generalize rd_T32 l (i : Int) = o at hx0 hx1 hx2 hx3 hstep hstepD
      obtain ⟨o0, o1, o2, o3⟩ := o
      simp only [nM, nE] at hx0 hx1 hx2 hx3 hstep hstepD
      replace p1 := eq_true p1
      replace q1 := eq_true q1
      have hm := hC.len
      generalize playM none32 (l.take i) = m at hC hstep hstepD hm
      generalize accL none32 (l.take i) = D at hO hstepD hDl
      rcases noteE_cases m hm o1 o2 o3 with ⟨he, hM⟩ | ⟨he, hb1, hb2, j, hj, hjn, hM⟩
      · have fN := note_at g o1 o2 o3 m 130 m he hM
        rw [he, show ((130 : Int) == 0) = false from rfl, cond_false, List.append_nil] at hstepD
        go_wp2_with (go_at_call 10; refine (fN _ (hC.below ((Below.refl _ _).alloc (Nat.le_refl _) _))).mono ?_; rintro e w5 ⟨rfl, hC5, hG5⟩)
        exact ⟨⟨i + 1, by omega, by go_num, by rw [hstepD]; exact R_keepB (Kd.R_alloc hO _) hG5 (fun _ hk => hk), by rw [hstep, hM]; exact hC5, (hB.alloc hB.size _).grown hG5 (by have := hB.size; simp; omega) (fun j q => by cases q; exact hge)⟩, by simp [intOf]; omega⟩
      · have fN := note_at g o1 o2 o3 m 0 _ he hM
        rw [he, show ((0 : Int) == 0) = true from rfl, cond_true] at hstepD
        go_upto_region 10 with (go_at_call 10; refine (fN _ (hC.below ((Below.refl _ _).alloc (Nat.le_refl _) _))).mono ?_; rintro e w5 ⟨rfl, hC5, hG5⟩)
        have hbo := blk_grown (heap_alloc_new wr (.cells #[.int .i64 o0, .int .i64 o1, .int .i64 o2, .int .i64 o3] 32)) hG5 (by intro q; cases q; have := hC.lt; omega)
        have hq0 : w5.cell? ⟨wr.heap.size, 0, none⟩ = some (.int .i64 o0) := (blk_cell hbo 0).trans rfl
        have hq1 : w5.cell? ⟨wr.heap.size, 1, none⟩ = some (.int .i64 o1) := (blk_cell hbo 1).trans rfl
        have hq2 : w5.cell? ⟨wr.heap.size, 2, none⟩ = some (.int .i64 o2) := (blk_cell hbo 2).trans rfl
        have hq3 : w5.cell? ⟨wr.heap.size, 3, none⟩ = some (.int .i64 o3) := (blk_cell hbo 3).trans rfl
        have hO5 := R_keepB (Kd.R_alloc hO (.cells #[.int .i64 o0, .int .i64 o1, .int .i64 o2, .int .i64 o3] 32)) hG5 (fun _ hk => hk)
        have hB5 := (hB.alloc hB.size (.cells #[.int .i64 o0, .int .i64 o1, .int .i64 o2, .int .i64 o3] 32)).grown hG5 (by have := hB.size; simp; omega) (fun j q => by cases q; exact hge)
        have hgl := hC5.lt
        go_wp2_with (at_builtin; refine Kd.R_append k32 (w0 := w) w.heap.size rfl (.tmp 37) (.tmp 39) 22 32 (.agg #[.int .i64 0, .int .i64 0, .int .i64 0, .int .i64 0]) 32 rfl under_ops info_op rfl (by decide) (by omega) (.slice AD D.length cD) D ⟨o0, o1, o2, o3⟩ [.int .i64 o0, .int .i64 o1, .int .i64 o2, .int .i64 o3] (fun k => k ≠ g) (fun _ => False) rfl ?aX (k32_mkM _ _ _ ⟨o0, o1, o2, o3⟩) (fun _ hk => hk.elim) ?aF hO5 hB5 hB5.size ?aL ?_; (case aX => first | rfl | (go_simp; done) | (go_simp; rfl) | (simp; done)); (case aF => intro k hk; omega); (case aL => omega); intro v69 w69 ho hb hg hat)
        exact ⟨⟨i + 1, by omega, by go_num, by rw [hstepD]; exact ho, by rw [hstep, hM]; exact hC5.grown hg (fun q => hO5.1 g q.symm rfl), hb⟩, by simp [intOf]; omega⟩
    · obtain rfl : i = l.length := by omega
      have hcl : decide ((l.length : Int) < (l.length : Int)) = false := decide_eq_false (by omega)
      rw [List.take_length] at hC hO ⊢
      have hF : FitM (playM none32 l) := fit_playM l _ FitM.none
      have hpa := play_acc l none32 rfl
      have hok := acc_ok l none32 rfl
      have hDl := accL_len l none32
      generalize playM none32 l = m at hC hF hpa
      generalize accL none32 l = D at hO hpa hok hDl ⊢
      have hm := hC.len
      have hW16 : (devL m (List.range 16)).length ≤ 16 := by have := devL_len m (List.range 16); simpa using this
      have hfs := forget_step hm
      have hfa := forget_all hm
      have fL := list_core g m hF
      obtain ⟨Wl, hWl⟩ : ∃ W, devL m (List.range 16) = W := ⟨_, rfl⟩
      have hds := dev_same Wl (by rw [← hWl]; omega)
      have fCl := clear_core g m hF
      have fCt := count_at g none32 FitM.none 0 (by rw [devL_nodes]; rfl)
      rw [hWl] at hW16 fL hfs hfa fCl
      go_upto_region 13 with (first
        | (go_at_call 11; refine (fL _ hC).mono ?_; rintro e w6 ⟨v6, rfl, hW, hb6⟩; have hglt := hC.lt; replace hW := Kd.R_mono (Kd.R_bound hW) (ok' := fun k => k ≠ g ∧ k < w6.heap.size) (fun k hk => ⟨by have := hk.2.1; omega, hk.2.2.1⟩); replace hC := hC.below hb6; replace hB := below_step hB hb6; replace hO := Kd.R_below hO hb6; clear hb6)
        | (go_at_call 22; refine (copy_core g m _ hC).mono ?_; rintro e w7 ⟨rfl, hCd, hb7⟩; have hgd := hC.lt; replace hC := hC.below hb7; have hB7 := hB.size; replace hB := below_step hB hb7; replace hO := Kd.R_below (Kd.R_bound hO) hb7; replace hW := Kd.R_below hW hb7; clear hb7))
      replace hO := Kd.R_mono hO (ok' := fun k => k ≠ g ∧ k < w6.heap.size) (fun k hk => ⟨hk.1, hk.2.2.1⟩)
      obtain ⟨AW, cW, rfl⟩ := Kd.R_slice hW
      obtain ⟨gd, hgdE⟩ : ∃ gd, w6.heap.size = gd := ⟨_, rfl⟩
      have hged : w.heap.size ≤ gd := by rw [← hgdE]; exact hB7
      have hgne : g < gd := by rw [← hgdE]; exact hgd
      rw [hgdE] at hO hW hCd
      rw [hgdE]
      replace hO := Kd.R_mono hO (ok' := fun k => k ≠ g ∧ k ≠ gd) (fun k hk => ⟨hk.1, by omega⟩)
      replace hW := Kd.R_mono hW (ok' := fun k => k ≠ g ∧ k ≠ gd) (fun k hk => ⟨hk.1, by omega⟩)
      obtain ⟨gB, hgB⟩ : ∃ b, wr.heap.size = b := ⟨_, rfl⟩
      rw [hgB] at hW
      clear hgdE hgd hB7 hgB
      obtain ⟨N, hN⟩ : ∃ N : Int, (Wl.length : Int) = N := ⟨_, rfl⟩
      rw [hN] at fCl
      have hWl' := Lib.hid hWl
      clear hWl fL
      go_upto_region 15 with (first
        | (go_at_call 23; refine (fCl _ hC).mono ?_; rintro e w8 ⟨rfl, hC8, hG8⟩; replace hB := hB.grown hG8 hB.size (fun j q => by cases q; exact hge); replace hO := R_keepB hO hG8 (fun _ hk => hk.1); replace hW := R_keepB hW hG8 (fun _ hk => hk.1); replace hCd := hCd.grown hG8 (by intro q; cases q; omega); clear hC hG8)
        | (go_at_call 15; refine (fCt _ hC8).mono ?_; rintro e w9 ⟨rfl, hb9⟩; replace hC8 := hC8.below hb9; replace hCd := hCd.below hb9; replace hB := below_step hB hb9; replace hO := Kd.R_below hO hb9; replace hW := Kd.R_below hW hb9; clear hb9))
      clear hN
      go_wp2_with (go_in)
      go_loopw [54] (fun v54 wr => ∃ (k : Nat), k ≤ Wl.length ∧ v54 = .int .i64 k ∧ Kd.R k39 39 wr gB (fun k => k ≠ g ∧ k ≠ gd) (.slice AW Wl.length cW) Wl ∧ Kd.R k32 32 wr w.heap.size (fun k => k ≠ g ∧ k ≠ gd) (.slice AD D.length cD) D ∧ CapAt wr g none32 ∧ CapAt wr gd (forgetL m (Wl.take k)) ∧ Below w.heap.size w wr)
        (fun v54 _ => Wl.length - (intOf v54).toNat)
      case atStart => exact ⟨0, Nat.zero_le _, rfl, hW, hO, hC8, hCd, hB⟩
      case round =>
        clear hW hO hC8 hCd hB
        obtain ⟨k, hk, rfl, hW, hO, hC, hCd, hB⟩ := hrel
        by_cases hkl : k < Wl.length
        · have hck : decide ((k : Int) < (Wl.length : Int)) = true := decide_eq_true (by omega)
          have p1 : 0 ≤ (k : Int) := by omega
          have q1 : (k : Int) < (Wl.length : Int) := by omega
          obtain ⟨ad, ead, hx0, hx1⟩ := at_T39 (Kd.R_reads' hW).2.2 (k : Int) p1 q1
          cases ead
          rw [Int.toNat_natCast] at hx0 hx1
          obtain ⟨hf1, hf2⟩ := hfs k hkl
          have hstep : forgetL m (Wl.take (k + 1)) = forgetM (forgetL m (Wl.take k)) (Wl[k]).f0 := by
            rw [List.take_succ_eq_append_getElem hkl, forgetL_snoc]
          have hrd : rd_T39 Wl (k : Int) = Wl[k] := by simp [rd_T39, hkl]
          rw [hrd] at hx0 hx1
          generalize Wl[k] = o at hx0 hx1 hstep hf1 hf2
          obtain ⟨o0, o1⟩ := o
          simp only at hx0 hx1 hstep hf1 hf2
          replace p1 := eq_true p1
          replace q1 := eq_true q1
          have hFk : FitM (forgetL m (Wl.take k)) := fit_forgetL _ _ hF
          generalize forgetL m (Wl.take k) = mk at hCd hstep hf1 hf2 hFk
          have fF1 := fun w hC => forget_core gd o0 mk hFk w hC
          have fF2 := fun w hC => forget_core gd o0 (forgetM mk o0) (hFk.forget _) w hC
          rw [hf1] at fF1
          rw [hf2, forgetM_idle hf2] at fF2
          rw [← hstep] at fF1 fF2
          clear hf1 hf2 hstep
          have hHO := Kd.R_alloc hO (.cells #[.int .i64 o0, .int .i64 o1] 39)
          have hHW := Kd.R_alloc hW (.cells #[.int .i64 o0, .int .i64 o1] 39)
          have hHB := hB.alloc hB.size (.cells #[.int .i64 o0, .int .i64 o1] 39)
          have hHC := hC.below ((Below.refl _ _).alloc (Nat.le_refl _) (.cells #[.int .i64 o0, .int .i64 o1] 39))
          have hHd := hCd.below ((Below.refl _ _).alloc (Nat.le_refl _) (.cells #[.int .i64 o0, .int .i64 o1] 39))
          have hHx := heap_alloc_new wr (.cells #[.int .i64 o0, .int .i64 o1] 39)
          have hgw := hCd.lt
          clear hO hW hB hC hCd
          go_wp2_with (first
            | (go_at_call 17; refine (fF1 _ hHd).mono ?_; rintro e w8 ⟨rfl, hCd1, hG1⟩; have hbx := blk_grown hHx hG1 (by intro q; cases q; omega); have hy0 : w8.cell? ⟨wr.heap.size, 0, none⟩ = some (.int .i64 o0) := (blk_cell hbx 0).trans rfl; replace hHO := R_keepB hHO hG1 (fun _ hk => hk.2); replace hHW := R_keepB hHW hG1 (fun _ hk => hk.2); replace hHB := hHB.grown hG1 hHB.size (fun j q => by cases q; exact hged); replace hHC := hHC.grown hG1 (by intro q; cases q; omega); clear hHd hG1)
            | (go_at_call 17; refine (fF2 _ hCd1).mono ?_; rintro e w9 ⟨rfl, hCd2, hG2⟩; replace hHO := R_keepB hHO hG2 (fun _ hk => hk.2); replace hHW := R_keepB hHW hG2 (fun _ hk => hk.2); replace hHB := hHB.grown hG2 hHB.size (fun j q => by cases q; exact hged); replace hHC := hHC.grown hG2 (by intro q; cases q; omega); clear hG2))
          exact ⟨⟨k + 1, by omega, by go_num, hHW, hHO, hHC, hCd2, hHB⟩, by simp [intOf]; omega⟩
        · obtain rfl : k = Wl.length := by omega
          have hck : decide ((Wl.length : Int) < (Wl.length : Int)) = false := decide_eq_false (by omega)
          rw [List.take_length, hfa] at hCd
          go_wp2_with (go_in)
          go_loopw [72] (fun v72 wr => ∃ (k : Nat), k ≤ D.length ∧ v72 = .int .i64 k ∧ Kd.R k39 39 wr gB (fun k => k ≠ g ∧ k ≠ gd) (.slice AW Wl.length cW) Wl ∧ Kd.R k32 32 wr w.heap.size (fun k => k ≠ g ∧ k ≠ gd) (.slice AD D.length cD) D ∧ CapAt wr g (playM none32 (D.take k)) ∧ CapAt wr gd (playM none32 (D.take k)) ∧ Below w.heap.size w wr)
            (fun v72 _ => D.length - (intOf v72).toNat)
          case atStart => exact ⟨0, Nat.zero_le _, rfl, hW, hO, hC, hCd, hB⟩
          case round =>
            clear hW hO hC hCd hB
            obtain ⟨k, hk, rfl, hW, hO, hC, hCd, hB⟩ := hrel
            by_cases hkl : k < D.length
            · have hck : decide ((k : Int) < (D.length : Int)) = true := decide_eq_true (by omega)
              have p1 : 0 ≤ (k : Int) := by omega
              have q1 : (k : Int) < (D.length : Int) := by omega
              obtain ⟨ad, ead, hx0, hx1, hx2, hx3⟩ := at_T32 (Kd.R_reads' hO).2.2 (k : Int) p1 q1
              cases ead
              rw [Int.toNat_natCast] at hx0 hx1 hx2 hx3
              have he := hok k hkl
              have hstep : playM none32 (D.take (k + 1)) = nM (playM none32 (D.take k)) D[k] := by
                rw [List.take_succ_eq_append_getElem hkl, playM_snoc]
                rfl
              have hrd : rd_T32 D (k : Int) = D[k] := by simp [rd_T32, hkl]
              rw [hrd] at hx0 hx1 hx2 hx3
              generalize D[k] = o at hx0 hx1 hx2 hx3 hstep he
              obtain ⟨o0, o1, o2, o3⟩ := o
              simp only [nM, nE] at hx0 hx1 hx2 hx3 hstep he
              replace p1 := eq_true p1
              replace q1 := eq_true q1
              generalize playM none32 (D.take k) = mk at hC hCd hstep he
              have fN1 := note_at g o1 o2 o3 mk 0 _ he hstep.symm
              have fN2 := note_at gd o1 o2 o3 mk 0 _ he hstep.symm
              clear he hstep
              have hHO := Kd.R_alloc hO (.cells #[.int .i64 o0, .int .i64 o1, .int .i64 o2, .int .i64 o3] 32)
              have hHW := Kd.R_alloc hW (.cells #[.int .i64 o0, .int .i64 o1, .int .i64 o2, .int .i64 o3] 32)
              have hHB := hB.alloc hB.size (.cells #[.int .i64 o0, .int .i64 o1, .int .i64 o2, .int .i64 o3] 32)
              have hHC := hC.below ((Below.refl _ _).alloc (Nat.le_refl _) (.cells #[.int .i64 o0, .int .i64 o1, .int .i64 o2, .int .i64 o3] 32))
              have hHd := hCd.below ((Below.refl _ _).alloc (Nat.le_refl _) (.cells #[.int .i64 o0, .int .i64 o1, .int .i64 o2, .int .i64 o3] 32))
              have hHx := heap_alloc_new wr (.cells #[.int .i64 o0, .int .i64 o1, .int .i64 o2, .int .i64 o3] 32)
              have hgw := hCd.lt
              clear hO hW hB hC hCd
              go_wp2_with (first
                | (go_at_call 10; (with_reducible refine (fN1 _ hHC).mono ?_); rintro e w8 ⟨rfl, hC1, hG1⟩; have hbx := blk_grown hHx hG1 (by intro q; cases q; omega); have hy1 : w8.cell? ⟨wr.heap.size, 1, none⟩ = some (.int .i64 o1) := (blk_cell hbx 1).trans rfl; have hy2 : w8.cell? ⟨wr.heap.size, 2, none⟩ = some (.int .i64 o2) := (blk_cell hbx 2).trans rfl; have hy3 : w8.cell? ⟨wr.heap.size, 3, none⟩ = some (.int .i64 o3) := (blk_cell hbx 3).trans rfl; replace hHO := R_keepB hHO hG1 (fun _ hk => hk.1); replace hHW := R_keepB hHW hG1 (fun _ hk => hk.1); replace hHB := hHB.grown hG1 hHB.size (fun j q => by cases q; exact hge); replace hHd := hHd.grown hG1 (by intro q; cases q; omega); clear hHC hG1)
                | (go_at_call 10; (with_reducible refine (fN2 _ hHd).mono ?_); rintro e w9 ⟨rfl, hC2, hG2⟩; replace hHO := R_keepB hHO hG2 (fun _ hk => hk.2); replace hHW := R_keepB hHW hG2 (fun _ hk => hk.2); replace hHB := hHB.grown hG2 hHB.size (fun j q => by cases q; exact hged); replace hC1 := hC1.grown hG2 (by intro q; cases q; omega); clear hG2))
              exact ⟨⟨k + 1, by omega, by go_num, hHW, hHO, hC1, hC2, hHB⟩, by simp [intOf]; omega⟩
            · obtain rfl : k = D.length := by omega
              have hck : decide ((D.length : Int) < (D.length : Int)) = false := decide_eq_false (by omega)
              rw [List.take_length, hpa] at hC hCd
              have fL1 := list_core g m hF
              have fL2 := list_core gd m hF
              rw [hWl'.out] at fL1 fL2
              go_wp2_with (first
                | (go_at_call 11; (with_reducible refine (fL1 _ hC).mono ?_); rintro e w12 ⟨v12, rfl, hO12, hb12⟩; replace hCd := hCd.below hb12; replace hB := below_step hB hb12; replace hW := Kd.R_below hW hb12; clear hC hb12; obtain ⟨A12, c12, rfl⟩ := Kd.R_slice hO12)
                | (go_at_call 12; (with_reducible refine (vespersref13_Deviations.calls (Wl.length + 1) A12 c12 Wl AW cW Wl true _ (Kd.R_reads' hO12).2.2 (Kd.R_reads' hO12).2.1 (Kd.R_reads' hW).2.2 (Kd.R_reads' hW).2.1 hds).mono ?_); rintro e w13 ⟨rfl, ⟨nd, rfl⟩⟩; replace hCd := hCd.below (pw_below_drewN (Below.refl _ _) nd); replace hB := pw_below_drewN hB nd; replace hW := Kd.R_drewN hW nd; clear hO12)
                | (go_at_call 11; (with_reducible refine (fL2 _ hCd).mono ?_); rintro e w14 ⟨v14, rfl, hO14, hb14⟩; replace hB := below_step hB hb14; replace hW := Kd.R_below hW hb14; clear hCd hb14; obtain ⟨A14, c14, rfl⟩ := Kd.R_slice hO14)
                | (go_at_call 12; (with_reducible refine (vespersref13_Deviations.calls (Wl.length + 1) A14 c14 Wl AW cW Wl true _ (Kd.R_reads' hO14).2.2 (Kd.R_reads' hO14).2.1 (Kd.R_reads' hW).2.2 (Kd.R_reads' hW).2.1 hds).mono ?_); rintro e w15 ⟨rfl, ⟨nd, rfl⟩⟩; replace hB := pw_below_drewN hB nd))
              go_ret
              exact ⟨rfl, hB⟩
theorem again_core (A0 : Option Addr) (c0 : Nat) (l : List S32) (w : World) (hr0 : Kd.C k32 w A0 l.length l) (hc0 : l.length ≤ c0) :
    Calls Try.prog 8 #[.slice A0 l.length c0] w fun e w' => e = .returned (.bool true) ∧ Below w.heap.size w w' := by
  by_cases h : (l.length : Int) > 40
  · exact again_long A0 c0 l h w
  · exact again_short A0 c0 l (by omega) w hr0 hc0
end Go.Proofs.Ytfhkmokgbndeeaa.Hand
