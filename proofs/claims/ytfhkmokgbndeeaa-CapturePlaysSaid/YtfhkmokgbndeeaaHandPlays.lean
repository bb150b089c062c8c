/- What 'vesperslaw13.CapturePlays' computes, by hand. -/
import Derived.Test.YtfhkmokgbndeeaaHandDo2
set_option linter.unusedVariables false
set_option linter.unusedSimpArgs false
namespace Go.Proofs.Ytfhkmokgbndeeaa.Hand
open Go.RowKit Go.Proofs.Ytfhkmokgbndeeaa.Cap Go.Proofs.Ytfhkmokgbndeeaa.PA Go.Proofs.Ytfhkmokgbndeeaa.PB Go.Proofs.YtfhkmokgbndeeaaW.PrintWords Go.Proofs.YtfhkmokgbndeeaaW.PrintLast Go.Proofs.YtfhkmokgbndeeaaW.PrintMore
open Go.Proofs.Ytfhkmokgbndeeaa.PC (S68 k68 z68 rd_T68 at_T68 k68_mkM k68_open)
attribute [local go_sem] Oper.semAt_some

theorem own_blk {α : Type} {d : Kd α} {e base : Nat} {ok : Nat → Prop} {w : World} {A : Option Addr} {n c : Nat} {xs : List α} (h : d.R e w base ok (.slice A n c) xs) (h0 : 0 < xs.length) : ∃ b cs, A = some ⟨b, 0, none⟩ ∧ base ≤ b ∧ w.heap[b]? = some (.cells cs e (0, 0)) ∧ xs.length * d.sz ≤ cs.size := by
  obtain ⟨_, inner, hown, _⟩ := h
  obtain ⟨hl, h | ⟨g, cap, cur, hv, hg, hb, hc, _, hs, _⟩⟩ := hown
  · omega
  · cases hv
    exact ⟨g, cur, rfl, hg, hb, by rw [hs]; exact Nat.mul_le_mul_right _ hc⟩
theorem putAt_size' (cur : Array Value) (o : Nat) (ds : Array Value) (h : o + ds.size ≤ cur.size) : (putAt cur o ds).size = cur.size := by
  simp [putAt]
  omega
theorem size_dev : (Try.prog.info? 39).map (·.size) = some 2 := by kernel_rfl
def RelA (A8 : Option Addr) (lo hi n : Nat) (wr : World) : Prop := 0 < n → ∃ b cs, A8 = some ⟨b, 0, none⟩ ∧ lo ≤ b ∧ b < hi ∧ wr.heap[b]? = some (.cells cs 39 (0, 0)) ∧ n * 2 ≤ cs.size
def RelV (A9 : Option Addr) (lo n : Nat) (wr : World) : Prop := 0 < n → ∃ b cs, A9 = some ⟨b, 0, none⟩ ∧ lo ≤ b ∧ wr.heap[b]? = some (.cells cs 2 (0, 0)) ∧ ∀ j, j < n → ∃ x, cs[j]? = some (.int .i64 x)
theorem plays_long (A0 : Option Addr) (c0 : Nat) (l : List S32) (own : Int) (hl : (l.length : Int) > 100) (w : World) : Calls Try.prog 6 #[.slice A0 l.length c0, .int .i64 own] w fun e w' => e = .returned (.bool true) ∧ Below w.heap.size w w' := by
  have hb : decide (100 < (l.length : Int)) = true := decide_eq_true hl
  go_enter Try.func6, Try.ntmps6
  go_wp2
  go_ret
  exact ⟨rfl, Below.refl _ _⟩
set_option maxRecDepth 100000 in
set_option maxHeartbeats 4000000 in
theorem plays_short (A0 : Option Addr) (c0 : Nat) (l : List S32) (own : Int) (hl : l.length ≤ 100) (w : World) (hr0 : Kd.C k32 w A0 l.length l) (hc0 : l.length ≤ c0) :
    Calls Try.prog 6 #[.slice A0 l.length c0, .int .i64 own] w fun e w' => e = .returned (.bool true) ∧ Below w.heap.size w w' := by
  have hb : decide (100 < (l.length : Int)) = false := decide_eq_false (by omega)
  go_enter Try.func6, Try.ntmps6
  go_upto_region 4 with (fail)
  obtain ⟨W0, hW0, hC, hB, hsz⟩ := new_cap w
  rw [hW0]
  clear hW0
  have hx1 := heap_alloc_new W0 (.cells #[.slice none 0 0] 54)
  have hA1 := (Below.refl W0.heap.size W0).alloc (Nat.le_refl _) (.cells #[.slice none 0 0] 54)
  have hz1 : (W0.alloc (.cells #[.slice none 0 0] 54)).heap.size = W0.heap.size + 1 := by simp
  generalize W0.alloc (.cells #[.slice none 0 0] 54) = W1 at *
  have hx2 := heap_alloc_new W1 (.cells #[.pointer (some ⟨w.heap.size, 0, none⟩), .pointer (some ⟨w.heap.size + 1, 0, none⟩)] 56)
  have hA2 := (Below.refl W1.heap.size W1).alloc (Nat.le_refl _) (.cells #[.pointer (some ⟨w.heap.size, 0, none⟩), .pointer (some ⟨w.heap.size + 1, 0, none⟩)] 56)
  generalize W1.alloc (.cells #[.pointer (some ⟨w.heap.size, 0, none⟩), .pointer (some ⟨w.heap.size + 1, 0, none⟩)] 56) = W2 at *
  obtain ⟨gp, hgp⟩ : ∃ x, w.heap.size + 1 + 1 = x := ⟨_, rfl⟩
  have hP : ∃ gc gr v m l, PlayAt W2 gp gc gr w.heap.size v m l := ⟨w.heap.size, w.heap.size + 1, _, none32, [], ⟨by rw [hz1, hsz, hgp] at hx2; exact hx2, (hC.below hA1).below hA2, ⟨blk_below (by rw [hsz] at hx1; exact hx1) hA2, Kd.R_nil _ _ _ _ _, fun h => h.2.2 rfl⟩, none_refIs, FitM.none, ⟨by omega, by omega, by omega⟩, ⟨by omega, by omega, by omega⟩⟩⟩
  have hB2 := below_step (below_step hB hA1) hA2
  rw [hgp]
  clear hx1 hA1 hz1 hx2 hA2 hC hB hsz hgp
  have hr0' := Lib.hid hr0
  clear hr0
  go_wp2_with (go_in)
  go_loopw [26] (fun v26 wr => ∃ (i : Nat), i ≤ l.length ∧ v26 = .int .i64 i ∧ (∃ gc gr v m l', PlayAt wr gp gc gr w.heap.size v m l') ∧ Below w.heap.size w wr)
    (fun v26 _ => l.length - (intOf v26).toNat)
  case atStart => exact ⟨0, Nat.zero_le _, rfl, hP, hB2⟩
  case round =>
    clear hP hB2
    obtain ⟨i, hi, rfl, ⟨gc, gr, v, m, l', hP⟩, hB⟩ := hrel
    by_cases hlt : i < l.length
    · have hcl : decide ((i : Int) < (l.length : Int)) = true := decide_eq_true (by omega)
      have p1 : 0 ≤ (i : Int) := by omega
      have q1 : (i : Int) < (l.length : Int) := by omega
      have hcell := fun (W : World) (hb : Below w.heap.size w W) => at_T32 (Kd.C_below hr0'.out hb) (i : Int) p1 q1
      obtain ⟨ad, ead, hx0, hx1, hx2, hx3⟩ := hcell wr hB
      cases ead
      have hnode : ∀ W, Below w.heap.size w W → W.cell? ⟨(ad.add (i * 4)).block, (ad.add (i * 4)).off + 1, none⟩ = some (.int .i64 (rd_T32 l (i : Int)).f1) := by
        intro W hb
        obtain ⟨ad', ead', _, h1, _, _⟩ := hcell W hb
        cases ead'
        rw [Int.toNat_natCast] at h1
        exact h1
      rw [Int.toNat_natCast] at hx0 hx1 hx2 hx3
      clear hcell
      generalize rd_T32 l (i : Int) = o at hx0 hx1 hx2 hx3 hnode
      obtain ⟨o0, o1, o2, o3⟩ := o
      simp only at hx0 hx1 hx2 hx3 hnode
      replace p1 := eq_true p1
      replace q1 := eq_true q1
      go_upto_region 9 with (go_at_call 18; refine (do_core gp gc gr w.heap.size v m l' o0 o1 o2 o3 _ hP).mono ?_; rintro e w5 ⟨rfl, hB5, ⟨gc, gr, v, m, l', hP⟩⟩; replace hB := hB.trans hB5; clear hB5)
      have hcl0 := @blk_cell
      have hall : ∀ (W : World) (gc gr base : Nat) (v : Value) (m : Cp) (l' : List S68), PlayAt W gp gc gr base v m l' → W.cell? ⟨gp, 0, none⟩ = some (.pointer (some ⟨gc, 0, none⟩)) ∧ W.cell? ⟨gp, 1, none⟩ = some (.pointer (some ⟨gr, 0, none⟩)) := fun W gc gr base v m l' h => ⟨(blk_cell h.blk 0).trans rfl, (blk_cell h.blk 1).trans rfl⟩
      clear hcl0 hx0 hx1 hx2 hx3
      have hdr : ∀ W : World, Below W.heap.size W W.drew := fun W => below_drew (Below.refl _ _)
      obtain ⟨⟨r1, r2⟩, hr⟩ : ∃ r, ofR m o1 = r := ⟨_, rfl⟩
      have fO := of_at gc o1 m hP.fit _ hr
      have fR := rof_core gr w.heap.size (okP gp gc gr) v l' o1 hP.is.fit (hP.is.toOf.many o1)
      rw [refIs_of hP.is o1, hr] at fR
      have fL := list_core gc m hP.fit
      have fV := values_core gc own m hP.fit
      have fRL := rlist_core gr w.heap.size (okP gp gc gr) v l' m hP.is.toOf
      have fRV := rvalues_core gr w.heap.size (okP gp gc gr) v l' m own hP.is.toOf
      have fCt := count_at gc m hP.fit _ rfl
      have hDl := devL_len m (List.range 16)
      have hVl := valL_len m own (List.range 16)
      rw [List.length_range] at hDl hVl
      clear hr
      generalize devL m (List.range 16) = D at fL fRL fCt hDl
      generalize valL m own (List.range 16) = V at fV fRV hVl
      have hds := dev_same D (by omega)
      have hls := longs_same V (by omega)
      have hS0 : w5.drew.cell? ⟨gp, 0, none⟩ = some (.pointer (some ⟨gc, 0, none⟩)) ∧ w5.drew.cell? ⟨(ad.add (i * 4)).block, (ad.add (i * 4)).off + 1, none⟩ = some (.int .i64 o1) := ⟨(hall _ _ _ _ _ _ _ (hP.below (hdr _))).1, hnode _ hB.drew⟩
      go_region_held3 (fun W => W.cell? ⟨gp, 0, none⟩ = some (.pointer (some ⟨gc, 0, none⟩)) ∧ W.cell? ⟨(ad.add (i * 4)).block, (ad.add (i * 4)).off + 1, none⟩ = some (.int .i64 o1)) (first | (exact hS6) | (exact hS0)) ((first
        | (go_at_call 16; (with_reducible refine (fO w5.drew (hP.below (hdr _)).cap).mono ?_); rintro e w6 ⟨rfl, hb6⟩; have hP6 := (hP.below (hdr _)).below hb6; have hB6 := below_step hB.drew hb6; have hS6 : w6.cell? ⟨gp, 0, none⟩ = some (.pointer (some ⟨gc, 0, none⟩)) ∧ w6.cell? ⟨(ad.add (i * 4)).block, (ad.add (i * 4)).off + 1, none⟩ = some (.int .i64 o1) := ⟨(hall _ _ _ _ _ _ _ hP6).1, hnode _ hB6⟩)))
      clear hS0 hS6 hP hB fO
      go_upto_region 10 with (fail)
      have hS1 : w6.drew.cell? ⟨gp, 1, none⟩ = some (.pointer (some ⟨gr, 0, none⟩)) ∧ w6.drew.cell? ⟨(ad.add (i * 4)).block, (ad.add (i * 4)).off + 1, none⟩ = some (.int .i64 o1) := ⟨(hall _ _ _ _ _ _ _ (hP6.below (hdr _))).2, hnode _ hB6.drew⟩
      go_region_held3 (fun W => W.cell? ⟨gp, 1, none⟩ = some (.pointer (some ⟨gr, 0, none⟩)) ∧ W.cell? ⟨(ad.add (i * 4)).block, (ad.add (i * 4)).off + 1, none⟩ = some (.int .i64 o1)) (first | (exact hS7) | (exact hS1)) ((first
        | (go_at_call 19; (with_reducible refine (fR w6.drew (hP6.below (hdr _)).ref).mono ?_); rintro e w7 ⟨rfl, hw7⟩; have hP7 : PlayAt w7 gp gc gr w.heap.size v m l' := hw7 ▸ hP6.below (hdr _); have hB7 : Below w.heap.size w w7 := hw7 ▸ hB6.drew; have hS7 : w7.cell? ⟨gp, 1, none⟩ = some (.pointer (some ⟨gr, 0, none⟩)) ∧ w7.cell? ⟨(ad.add (i * 4)).block, (ad.add (i * 4)).off + 1, none⟩ = some (.int .i64 o1) := hw7 ▸ hS1; clear hw7)))
      clear hS1 hS7 hP6 hB6 fR
      go_upto_region 11 with (fail)
      have hS2 := (hall _ _ _ _ _ _ _ (hP7.below (hdr _))).1
      go_region_held3 (fun W => W.cell? ⟨gp, 0, none⟩ = some (.pointer (some ⟨gc, 0, none⟩))) (first | (exact hS9) | (exact hS8) | (exact hS2)) ((first
        | (go_at_call 11; (with_reducible refine (fL w7.drew (hP7.below (hdr _)).cap).mono ?_); rintro e w8 ⟨v8, rfl, hO8, hb8⟩; obtain ⟨A8, c8, rfl⟩ := Kd.R_slice hO8; have hP8 := (hP7.below (hdr _)).below hb8; have hB8 := below_step hB7.drew hb8; have hS8 := (hall _ _ _ _ _ _ _ hP8).1)
        | (go_at_call 14; (with_reducible refine (fV w8 hP8.cap).mono ?_); rintro e w9 ⟨v9, rfl, hO9, hb9⟩; obtain ⟨A9, c9, rfl⟩ := Kd.R_slice hO9; have hP9 := hP8.below hb9; have hB9 := below_step hB8 hb9; have hS9 := (hall _ _ _ _ _ _ _ hP9).1; have hO89 := Kd.R_below hO8 hb9)))
      clear hS2 hS8 hS9 hP8 hB8 fL fV
      have hE : (r1 == r1) = true := by simp
      go_upto_region 12 with (fail)
      have hS3 := hall _ _ _ _ _ _ _ (hP9.below (hdr _))
      go_region_held3 (fun W => W.cell? ⟨gp, 0, none⟩ = some (.pointer (some ⟨gc, 0, none⟩)) ∧ W.cell? ⟨gp, 1, none⟩ = some (.pointer (some ⟨gr, 0, none⟩))) (first | (exact hS15) | (exact hS14) | (exact hS13) | (exact hS12) | (exact hS11) | (exact hS10) | (exact hS3)) ((first
        | (go_at_call 15; (with_reducible refine (fCt w9.drew (hP9.below (hdr _)).cap).mono ?_); rintro e w10 ⟨rfl, hb10⟩; have hP10 := (hP9.below (hdr _)).below hb10; have hB10 := below_step hB9.drew hb10; have hS10 := hall _ _ _ _ _ _ _ hP10; have hA10 := Kd.R_below (Kd.R_drew hO89) hb10; have hV10 := Kd.R_below (Kd.R_drew hO9) hb10)
        | (go_at_call 20; (with_reducible refine (fRL w10 hP10.ref).mono ?_); rintro e w11 ⟨v11, rfl, hO11, hb11⟩; obtain ⟨A11, c11, rfl⟩ := Kd.R_slice hO11; have hP11 := hP10.below hb11; have hB11 := below_step hB10 hb11; have hS11 := hall _ _ _ _ _ _ _ hP11; have hA11 := Kd.R_below hA10 hb11; have hV11 := Kd.R_below hV10 hb11)
        | (go_at_call 20; (with_reducible refine (fRL w11 hP11.ref).mono ?_); rintro e w12 ⟨v12, rfl, hO12, hb12⟩; obtain ⟨A12, c12, rfl⟩ := Kd.R_slice hO12; have hP12 := hP11.below hb12; have hB12 := below_step hB11 hb12; have hS12 := hall _ _ _ _ _ _ _ hP12; have hA12 := Kd.R_below hA11 hb12; have hV12 := Kd.R_below hV11 hb12)
        | (go_at_call 12; (with_reducible refine (vespersref13_Deviations.calls (D.length + 1) _ c8 D A12 c12 D true w12 (Kd.R_reads' hA12).2.2 (Kd.R_reads' hA12).2.1 (Kd.R_reads' hO12).2.2 (Kd.R_reads' hO12).2.1 hds).mono ?_); rintro e w13 ⟨rfl, hd13⟩; have hb13 : Below w12.heap.size w12 w13 := (by obtain ⟨nd, hnd⟩ := hd13; rw [hnd]; exact pw_below_drewN (Below.refl _ _) nd); clear hd13; have hP13 := hP12.below hb13; have hB13 := below_step hB12 hb13; have hS13 := hall _ _ _ _ _ _ _ hP13; have hA13 := Kd.R_below hA12 hb13; have hV13 := Kd.R_below hV12 hb13)
        | (go_at_call 21; (with_reducible refine (fRV w13 hP13.ref).mono ?_); rintro e w14 ⟨v14, rfl, hO14, hb14⟩; obtain ⟨A14, c14, rfl⟩ := Kd.R_slice hO14; have hP14 := hP13.below hb14; have hB14 := below_step hB13 hb14; have hS14 := hall _ _ _ _ _ _ _ hP14; have hA14 := Kd.R_below hA13 hb14; have hV14 := Kd.R_below hV13 hb14)
        | (go_at_call 13; (with_reducible refine (vespersref13_Longs.calls (V.length + 1) _ c9 V A14 c14 V true w14 (Kd.R_reads' hV14).2.2 (Kd.R_reads' hV14).2.1 (Kd.R_reads' hO14).2.2 (Kd.R_reads' hO14).2.1 hls).mono ?_); rintro e w15 ⟨rfl, hd15⟩; have hb15 : Below w14.heap.size w14 w15 := (by obtain ⟨nd, hnd⟩ := hd15; rw [hnd]; exact pw_below_drewN (Below.refl _ _) nd); clear hd15; have hP15 := hP14.below hb15; have hB15 := below_step hB14 hb15; have hS15 := hall _ _ _ _ _ _ _ hP15; have hA15 := Kd.R_below hA14 hb15; have hV15 := Kd.R_below hV14 hb15)))
      have hPf := hP7.below (hdr _)
      have h9 : Below w8.heap.size w8 w9 := hb9
      have h15 : Below w8.heap.size w8 w15 := below_step (below_step (below_step (below_step (below_step (below_step hb9.drew hb10) hb11) hb12) hb13) hb14) hb15
      have hF := below_step hb8 h15
      have hlo := hb8.size
      have hRA : RelA A8 w7.drew.heap.size w8.heap.size D.length w15 := fun h0 => by
        obtain ⟨b, cs, h1, h2, h3, h4⟩ := own_blk hO8 h0
        exact ⟨b, cs, h1, h2, blk_lt h3, blk_below h3 h15, h4⟩
      have hRV : RelV A9 w8.heap.size V.length w15 := fun h0 => by
        obtain ⟨b, cs, h1, h2, h3, h4⟩ := own_blk hV15 h0
        refine ⟨b, cs, h1, h2, h3, fun j hj => ?_⟩
        obtain ⟨ad', ea, hc⟩ := Kd.at_int (Kd.R_reads' hV15).2.2 (j : Int) (by omega) (by omega)
        rw [h1] at ea
        cases ea
        rw [Int.toNat_natCast] at hc
        exact ⟨rd V (j : Int), (blk_cell h3 j).symm.trans (by rcases Nat.eq_zero_or_pos j with q | q; (subst q; simpa [Addr.add] using hc); (have q2 : ¬ j = 0 := Nat.ne_of_gt q; simpa [Addr.add, q2] using hc))⟩
      have hB15' := hB15
      generalize w7.drew = Wf at hPf hF hRA hlo
      clear hO8 hO89 hO9 hb8 hb9 h9 h15 hb10 hb11 hb12 hb13 hb14 hb15 hB7 hP7 hP9 hB9 hS3 hP10 hB10 hS10 hA10 hV10 hP11 hB11 hS11 hA11 hV11 hO11 hP12 hB12 hS12 hA12 hV12 hO12 hP13 hB13 hS13 hA13 hV13 hP14 hB14 hS14 hA14 hV14 hO14 hP15 hS15 hA15 hV15 fRL fRV fCt hds hls hnode hB15
      go_wp2_with (go_in)
      go_loopw [118] (fun v118 wr => ∃ (k : Nat), k ≤ D.length ∧ v118 = .int .i64 k ∧ RelA A8 Wf.heap.size w8.heap.size D.length wr ∧ RelV A9 w8.heap.size V.length wr ∧ Below Wf.heap.size Wf wr ∧ Below w.heap.size w wr)
        (fun v118 _ => D.length - (intOf v118).toNat)
      case atStart => exact ⟨0, Nat.zero_le _, rfl, hRA, hRV, hF, hB15'⟩
      case round =>
        clear hRA hRV hF hB15'
        obtain ⟨k, hk, rfl, hRA, hRV, hF, hB⟩ := hrel
        by_cases hkl : k < D.length
        · have hck : decide ((k : Int) < (D.length : Int)) = true := decide_eq_true (by omega)
          have p3 : (0 ≤ (k : Int)) = True := eq_true (by omega)
          have q3 : ((k : Int) < (D.length : Int)) = True := eq_true (by omega)
          obtain ⟨b, cs, rfl, hb1, hb2, hbk, hcs⟩ := hRA (by omega)
          go_wp2_with (refine wpList_store_blk rfl 39 (.tmp 124) (.tmp 123) rfl b (k * 2) #[.int .i64 99, .int .i64 0] ?aX rfl hbk ?aL size_dev ?aO ?_; (case aX => first | rfl | (go_simp; done) | (simp; done)); (case aL => simp; omega); (case aO => simp [Value.oneCell']); intro w' hbk' hg')
          exact ⟨⟨k + 1, by omega, by go_num, fun _ => ⟨b, _, rfl, hb1, hb2, hbk', by rw [putAt_size' _ _ _ (by simp; omega)]; exact hcs⟩, fun h0 => (by obtain ⟨b', cs', h1, h2, h3, h4⟩ := hRV h0; exact ⟨b', cs', h1, h2, blk_grown h3 hg' (by intro q; cases q; omega), h4⟩), hF.grown hg' (by have := hF.size; omega) (fun j q => by cases q; omega), hB.grown hg' hB.size (fun j q => by cases q; have := hPf.low; have := blk_lt hPf.blk; omega)⟩, by simp [intOf]; omega⟩
        · obtain rfl : k = D.length := by omega
          have hck : decide ((D.length : Int) < (D.length : Int)) = false := decide_eq_false (by omega)
          clear hRA
          go_wp2_with (go_in)
          go_loopw [128] (fun v128 wr => ∃ (k : Nat), k ≤ V.length ∧ v128 = .int .i64 k ∧ RelV A9 w8.heap.size V.length wr ∧ Below Wf.heap.size Wf wr ∧ Below w.heap.size w wr)
            (fun v128 _ => V.length - (intOf v128).toNat)
          case atStart => exact ⟨0, Nat.zero_le _, rfl, hRV, hF, hB⟩
          case round =>
            clear hRV hF hB
            obtain ⟨k, hk, rfl, hRV, hF, hB⟩ := hrel
            by_cases hkl : k < V.length
            · have hck : decide ((k : Int) < (V.length : Int)) = true := decide_eq_true (by omega)
              have p3 : (0 ≤ (k : Int)) = True := eq_true (by omega)
              have q3 : ((k : Int) < (V.length : Int)) = True := eq_true (by omega)
              obtain ⟨b, cs, rfl, hb1, hbk, hcs⟩ := hRV (by omega)
              obtain ⟨x, hx⟩ := hcs k hkl
              have hcell : wr.cell? ⟨b, k, none⟩ = some (.int .i64 x) := (blk_cell hbk k).trans hx
              have hfz := blk_frozen hbk k
              have hput : ∀ u : Int, ∀ j, j < V.length → ∃ x, (cs.setIfInBounds k (.int .i64 u))[j]? = some (.int .i64 x) := by
                intro u j hj
                by_cases q : j = k
                · subst q
                  exact ⟨u, by simp [(Array.getElem?_eq_some_iff.1 hx).1]⟩
                · obtain ⟨y, hy⟩ := hcs j hj
                  exact ⟨y, by rw [Array.getElem?_setIfInBounds_ne (fun e => q e.symm)]; exact hy⟩
              go_wp2
              exact ⟨⟨k + 1, by omega, by go_num, fun _ => ⟨b, _, rfl, hb1, blk_put hbk k _ rfl, hput _⟩, hF.setCell (p := ⟨b, k, none⟩) (by show Wf.heap.size ≤ b; omega) _, hB.setCell (p := ⟨b, k, none⟩) (by show w.heap.size ≤ b; have := hPf.low; have := blk_lt hPf.blk; omega) _⟩, by simp [intOf]; omega⟩
            · obtain rfl : k = V.length := by omega
              have hck : decide ((V.length : Int) < (V.length : Int)) = false := decide_eq_false (by omega)
              go_wp2
              exact ⟨⟨i + 1, by omega, by go_num, ⟨gc, gr, v, m, l', hPf.below hF⟩, hB⟩, by simp [intOf]; omega⟩
    · obtain rfl : i = l.length := by omega
      have hcl : decide ((l.length : Int) < (l.length : Int)) = false := decide_eq_false (by omega)
      have hall : ∀ (W : World) (gc gr base : Nat) (v : Value) (m : Cp) (l' : List S68), PlayAt W gp gc gr base v m l' → W.cell? ⟨gp, 0, none⟩ = some (.pointer (some ⟨gc, 0, none⟩)) ∧ W.cell? ⟨gp, 1, none⟩ = some (.pointer (some ⟨gr, 0, none⟩)) := fun W gc gr base v m l' h => ⟨(blk_cell h.blk 0).trans rfl, (blk_cell h.blk 1).trans rfl⟩
      have hdr : ∀ W : World, Below W.heap.size W W.drew := fun W => below_drew (Below.refl _ _)
      have fRL := rlist_core gr w.heap.size (okP gp gc gr) v l' m hP.is.toOf
      have fCt := count_at gc m hP.fit _ rfl
      generalize devL m (List.range 16) = D at fRL fCt
      have hS3 := hall _ _ _ _ _ _ _ (hP.below (hdr _))
      go_upto_region 25 with (fail)
      go_region_held3 (fun W => W.cell? ⟨gp, 0, none⟩ = some (.pointer (some ⟨gc, 0, none⟩)) ∧ W.cell? ⟨gp, 1, none⟩ = some (.pointer (some ⟨gr, 0, none⟩))) (first | (exact hS11) | (exact hS10) | (exact hS3)) ((first
        | (go_at_call 15; (with_reducible refine (fCt wr.drew (hP.below (hdr _)).cap).mono ?_); rintro e w10 ⟨rfl, hb10⟩; have hP10 := (hP.below (hdr _)).below hb10; have hB10 := below_step hB.drew hb10; have hS10 := hall _ _ _ _ _ _ _ hP10)
        | (go_at_call 20; (with_reducible refine (fRL w10 hP10.ref).mono ?_); rintro e w11 ⟨v11, rfl, hO11, hb11⟩; obtain ⟨A11, c11, rfl⟩ := Kd.R_slice hO11; have hP11 := hP10.below hb11; have hB11 := below_step hB10 hb11; have hS11 := hall _ _ _ _ _ _ _ hP11)))
      all_goals
        go_wp2
        go_ret
        exact ⟨rfl, hB11⟩
theorem plays_core (A0 : Option Addr) (c0 : Nat) (l : List S32) (own : Int) (w : World) (hr0 : Kd.C k32 w A0 l.length l) (hc0 : l.length ≤ c0) :
    Calls Try.prog 6 #[.slice A0 l.length c0, .int .i64 own] w fun e w' => e = .returned (.bool true) ∧ Below w.heap.size w w' := by
  by_cases h : (l.length : Int) > 100
  · exact plays_long A0 c0 l own h w
  · exact plays_short A0 c0 l own (by omega) w hr0 hc0
end Go.Proofs.Ytfhkmokgbndeeaa.Hand
