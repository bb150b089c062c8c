/- A cluster with one fault: the law's walk, by hand. -/
import Derived.Test.YtcfloaplbmpoaaaHandSame
import Derived.Test.YtcfloaplbmpoaaaClusFaults
set_option linter.unusedVariables false
set_option linter.unusedSimpArgs false
namespace Go.Proofs.Ytcfloaplbmpoaaa.Hand
open Go.RowKit Go.Shelf Go.Proofs.Ytcfloaplbmpoaaa.Grp Go.Proofs.Ytcfloaplbmpoaaa.Cl Go.Proofs.Ytcfloaplbmpoaaa.PA Go.Proofs.Ytcfloaplbmpoaaa.PB Go.Proofs.YtcfloaplbmpoaaaW.PrintWords Go.Proofs.YtcfloaplbmpoaaaW.PrintLast Go.Proofs.YtcfloaplbmpoaaaW.PrintMore
attribute [local go_sem] Oper.semAt_some
theorem runF_step {n wh bad k t turns : Nat} {lose : Bool} {l : List Q} (h : runF n wh bad lose (k + 1) t turns l = true) : ∃ l' tb tu, slot (t % n) (bif t == n + wh && !lose then bad else 99) (t == n + wh && lose) l = some l' ∧ (Nat.blt (n + wh) t && t % n == bad) = tb ∧ (bif tb then turns + 1 else turns) = tu ∧ (tb && lose && tu == 1 && (nth l' bad).z == 0) = false ∧ same bad (2 ^ n - 1) (Nat.blt (n + wh) t && (lose || Nat.blt 0 tu)) l' = true ∧ runF n wh bad lose k (t + 1) tu l' = true := by
  rw [runF] at h
  cases hs : slot (t % n) (bif t == n + wh && !lose then bad else 99) (t == n + wh && lose) l with
  | none => simp only [hs] at h; cases h
  | some l' =>
    simp only [hs, Bool.and_eq_true] at h
    obtain ⟨⟨h1, h2⟩, h3⟩ := h
    rw [Bool.not_eq_true'] at h1
    exact ⟨l', _, _, rfl, rfl, rfl, h1, h2, h3⟩
theorem start_mem {n all : Nat} {q : Q} (h : q ∈ Cl.start n all) : q = ⟨all, 0, 0, 0⟩ := List.eq_of_mem_replicate h
theorem start_len (n all : Nat) : (Cl.start n all).length = n := by simp [Cl.start]
theorem zl_start {n all : Nat} {cur : Array Value} (hz : ∀ (i : Nat) (x : Int), (List.replicate n (0 : Int))[i]? = some x → cur[i]? = some (Value.int .i64 x)) : ZL (Cl.start n all) cur := by
  intro i q h
  have hi : i < n := by have := (List.getElem?_eq_some_iff.1 h).1; rw [start_len] at this; exact this
  rw [start_mem (List.mem_of_getElem? h)]
  exact hz i 0 (by simp [hi])
set_option maxRecDepth 100000 in
set_option maxHeartbeats 8000000 in
theorem faults_core (many at_ who : Int) (send : Bool) (h1 : 0 ≤ many ∧ many ≤ 255) (h2 : 0 ≤ at_ ∧ at_ ≤ 255) (h3 : 0 ≤ who ∧ who ≤ 255) (w : World) :
    Calls Try.prog 6 #[.int .u8 many, .int .u8 at_, .int .u8 who, .bool send] w fun e w' => e = .returned (.bool true) ∧ Below w.heap.size w w' := by
  have HB := Aside0.mk (Below.refl w.heap.size w)
  have A1 : vesperslaw18_alive.f = some true := rfl
  go_enter Try.func6, Try.ntmps6
  go_upto_region 3 with (go_at_call 23; refine (vesperslaw18_alive.calls true _ A1).mono ?_; rintro e w1 ⟨rfl, hb⟩; have n0_ := Aside0.mk (below_step HB.out hb); clear HB; have HB := n0_; clear n0_ hb)
  obtain ⟨n, hn⟩ : ∃ n : Nat, 4 + many % 7 = (n : Int) := ⟨(4 + many % 7).toNat, by omega⟩
  have hn4 : 4 ≤ n := by omega
  have hn3 : 3 ≤ n := by omega
  have hn10 : n ≤ 10 := by omega
  have hn16 : n ≤ 16 := by omega
  rw [hn]
  clear hn h1
  go_upto_region 4 with (first | ((with_reducible refine gate_dst (N := 26) rfl ?_); refine Kd.R_make (Kd.int .i64) (w0 := w) w.heap.size 3 rfl (N := 26) rfl 53 _ _ rfl (n : Int) rfl rfl Try.underlying53 (.int .i64 0) 8 info_int rfl (by decide) (by omega) 0 (ok := fun _ => True) (okp := fun _ => True) rfl (fun _ hk => hk) trivial (by omega) (by omega) HB.out HB.out.size ?_; intro vz w2 ho hb hg_ hnew_; have n0_ := Aside0.mk hb; have n1_ := Aside0.mk ho; clear HB hb ho hg_ hnew_; have HB := n0_; have HO := n1_; clear n0_ n1_; obtain ⟨bz, cz, cuz, rfl, hz1, hz2, hz3⟩ := zl_of_R HO.out (by simp; omega)) | ((with_reducible refine gate_dst (N := 28) rfl ?_); refine box_event ?hg (N := 28) ?hd (cs := #[.slice none 0 0, .slice (some ⟨bz, 0, none⟩) n cz]) (t := 55) ?hr ?_; (case hd => rfl); (case hg => rfl); (case hr => first | (go_simp; done) | (go_simp; rfl)); intro g hg w3 hbox hb; have n0_ := Aside0.mk (below_step HB.out hb); have n1_ := Aside0.mk hbox; have n2_ := Aside0.mk (show w.heap.size ≤ g by rw [hg]; exact HB.out.size); have n3_ := Aside0.mk (blk_below hz2 hb); clear HB hb hbox hg; have HB := n0_; have BG := n1_; have GE := n2_; have BZ := n3_; clear n0_ n1_ n2_ n3_))
  have GEZ := Aside0.mk hz1
  have HZ := Aside0.mk hz3
  clear hz1 hz2 hz3 HO
  go_upto_region 5 with (go_at_call 24; refine (first_core n hn3 hn16 _).mono ?_; rintro e w' ⟨rfl, rfl⟩)
  obtain ⟨all, hall⟩ : ∃ a : Nat, 2 ^ n - 1 = a := ⟨_, rfl⟩
  rw [hall]
  have HALL := Aside0.mk hall
  clear hall
  go_wp2
  go_loopw [32] (fun v32 wr => ∃ (i : Nat) (v : Value), v32 = .int .i64 (i : Int) ∧ Aside0 (i ≤ n) ∧ Aside0 (wr.heap[g]? = some (.cells #[v, .slice (some ⟨bz, 0, none⟩) n cz] 55 (0, 0))) ∧ Aside0 (wr.heap[bz]? = some (.cells cuz 3 (0, 0))) ∧ Aside0 (wr.ownsRow w.heap.size 25 4 v i (flat all i)) ∧ Aside0 (v.oneCell' = true) ∧ Aside0 (Below w.heap.size w wr)) (fun v32 _ => n - (intOf v32).toNat)
  case atStart => exact ⟨0, _, rfl, ⟨by omega⟩, BG, BZ, ⟨World.ownsRow_nil _ _ _ _⟩, ⟨rfl⟩, HB⟩
  case round =>
    clear BG BZ HB
    obtain ⟨i, v, rfl, HI, BG, BZ, HO, HV1, HB⟩ := hrel
    by_cases c : i < n
    · have cb : decide ((i : Int) < (n : Int)) = true := decide_eq_true (by omega)
      have hcg_0 : wr.cell? ⟨g, 0, none⟩ = some v := (blk_cell BG.out 0).trans rfl
      have hfg_0 := blk_frozen BG.out 0
      go_wp2_with ((with_reducible refine gate_builtin (b := .append) (xs := #[.tmp 39, .tmp 43]) rfl ?_); at_builtin; refine print_append_cells (w0 := w) w.heap.size rfl (.tmp 39) (.tmp 43) 50 25 (.agg #[.int .i64 0, .int .u16 0, .int .i64 0, .int .i64 0]) 4 32 rfl Try.underlying50 info_view rfl (by decide) (by decide) v i (flat all i) [.int .i64 i, .int .u16 all, .int .i64 0, .int .i64 0] rfl ?aX rfl (by simp [Value.oneCell']) HO.out HB.out HB.out.size (by omega) ?_; (case aX => first | rfl | (go_simp; done) | (go_simp; rfl) | (simp; done)); intro v1 w4 hown hb hg hat; obtain ⟨gv, cv, ev⟩ := own_slice hown (by omega); subst ev; have n0_ := Aside0.mk hb; have n1_ := Aside0.mk hown; have n2_ := Aside0.mk (blk_grown BG.out hg (own_ne HO.out BG.out (by decide))); have n3_ := Aside0.mk (blk_grown BZ.out hg (own_ne HO.out BZ.out (by decide))); clear HB HO BG BZ hb hown hg hat hcg_0 hfg_0; have HB := n0_; have HO := n1_; have BG := n2_; have BZ := n3_; clear n0_ n1_ n2_ n3_; have hcg_0 : w4.cell? ⟨g, 0, none⟩ = some v := (blk_cell BG.out 0).trans rfl; have hfg_0 := blk_frozen BG.out 0)
      go_roundw
      case rel => exact ⟨i + 1, _, by first | rfl | (simp; done), ⟨by omega⟩, ⟨blk_put BG.out 0 _ rfl⟩, ⟨blk_far BZ.out (ne_type BZ.out BG.out (by decide)) _⟩, ⟨own_far HO.out BG.out (by decide) 0 _⟩, ⟨rfl⟩, ⟨HB.out.setCell GE.out _⟩⟩
      case measure => simp [intOf]; omega
    · have cb : decide ((i : Int) < (n : Int)) = false := decide_eq_false (by omega)
      obtain rfl : i = n := by have := HI.out; omega
      obtain ⟨bl, cl, cur, rfl, hbl, hcur, _, _, hcs, htk⟩ := HO.out.2.resolve_left (fun h => by have := h.2; omega)
      have BL := Aside0.mk hcur
      have HTK := Aside0.mk htk
      have GEL := Aside0.mk hbl
      clear hcur htk hbl hcs HO HV1
      have n0_ := Aside0.mk (CL.mk (start_len i all) BG.out ⟨cur, BL.out, vl_of_flat HTK.out (start_len _ _) (fun q hq => by rw [start_mem hq]; exact ⟨rfl, rfl, rfl⟩)⟩ ⟨cuz, BZ.out, zl_start HZ.out⟩ : CL wr g bl bz cl cz i (Cl.start i all) (Cl.start i all))
      clear BG BZ BL HTK HZ
      have HC := n0_
      clear n0_
      have hi0 : ((i : Int) == 0) = false := beq_eq_false_iff_ne.mpr (by omega)
      have hiz : ¬ ((i : Int) = 0) := by omega
      obtain ⟨wh, hwh⟩ : ∃ k : Nat, at_ % (i : Int) = (k : Int) := ⟨(at_ % (i : Int)).toNat, by have := Int.emod_nonneg at_ hiz; omega⟩
      have hwi : wh < i := by have := Int.emod_lt_of_pos at_ (show (0 : Int) < i by omega); omega
      have HWH := Aside0.mk hwh
      clear hwh
      go_upto_region 11 with (fail)
      rw [HWH.out]
      clear h2
      go_upto_region 12 with (fail)
      obtain ⟨bad, HBAD⟩ : ∃ bad : Nat, Aside0 (bad < i ∧ (send = true → bad = wh) ∧ (send = false → bad ≠ wh ∧ ((wh : Int) + 1 + who % ((i : Int) - 1)) % (i : Int) = (bad : Int))) := by
        cases send with
        | true => exact ⟨wh, ⟨hwi, fun _ => rfl, fun h => (by cases h)⟩⟩
        | false =>
          obtain ⟨r, hr⟩ : ∃ r : Nat, who % ((i : Int) - 1) = (r : Int) := ⟨(who % ((i : Int) - 1)).toNat, by have := Int.emod_nonneg who (show (i : Int) - 1 ≠ 0 by omega); omega⟩
          have hr2 : (r : Int) < (i : Int) - 1 := by rw [← hr]; exact Int.emod_lt_of_pos who (by omega)
          refine ⟨(wh + 1 + r) % i, ⟨Nat.mod_lt _ (by omega), fun h => (by cases h), fun _ => ⟨?_, ?_⟩⟩⟩
          · by_cases h : wh + 1 + r < i
            · rw [Nat.mod_eq_of_lt h]; omega
            · rw [Nat.mod_eq_sub_mod (by omega), Nat.mod_eq_of_lt (by omega)]; omega
          · rw [hr]; rfl
      go_upto_if 54 with (fail)
      go_cut [15] (fun v15 wd => wd = wr ∧ v15 = .int .i64 (bad : Int))
      case first =>
        cases send with
        | true =>
          have hbw : (wh : Int) = (bad : Int) := by rw [HBAD.out.2.1 rfl]
          have HBW := Aside0.mk hbw
          clear hbw
          go_wp2
          go_meet
          case rel => exact ⟨by first | rfl | trivial, by rw [HBW.out]⟩
        | false =>
          have hbw := (HBAD.out.2.2 rfl).2
          have HBW := Aside0.mk hbw
          clear hbw
          have hj0 : ((i : Int) - 1 == 0) = false := beq_eq_false_iff_ne.mpr (by omega)
          have hjz : ¬ ((i : Int) - 1 = 0) := by omega
          have hr0 : 0 ≤ who % ((i : Int) - 1) := Int.emod_nonneg who hjz
          have hr1 : who % ((i : Int) - 1) < (i : Int) - 1 := Int.emod_lt_of_pos who (by omega)
          go_wp2
          go_meet
          case rel => exact ⟨by first | rfl | trivial, by rw [HBW.out]⟩
      case rest =>
      obtain ⟨rfl, rfl⟩ := hcut
      have hbad : bad < i := HBAD.out.1
      have hrun : runF i wh bad send (4 * i) 0 0 (Cl.start i all) = true := by
        rw [← HALL.out]
        cases send with
        | true => rw [HBAD.out.2.1 rfl]; exact run_send hn4 hn10 hwi
        | false => exact run_deaf hn4 hn10 hwi hbad (HBAD.out.2.2 rfl).1
      have HRUN := Aside0.mk hrun
      clear hrun h3
      have hall16 : all < 65536 := by
        have h_ := HALL.out
        have : 2 ^ i ≤ 2 ^ 16 := Nat.pow_le_pow_right (by decide) hn16
        omega
      go_wp2
      go_loopw [16, 17] (fun v16 v17 wq => ∃ (t turns : Nat) (L : List Q), v17 = .int .i64 (t : Int) ∧ v16 = .int .i64 (turns : Int) ∧ Aside0 (t ≤ 4 * i ∧ turns ≤ t) ∧ Aside0 (runF i wh bad send (4 * i - t) t turns L = true) ∧ Aside0 (∀ q ∈ L, q.v < 65536 ∧ q.z ≤ t) ∧ Aside0 (CL wq g bl bz cl cz i L L) ∧ Aside0 (Below w.heap.size w wq)) (fun _ v17 _ => 4 * i - (intOf v17).toNat)
      case atStart => exact ⟨0, 0, _, rfl, rfl, ⟨by omega⟩, HRUN, ⟨fun q hq => by rw [start_mem hq]; exact ⟨hall16, Nat.le_refl _⟩⟩, HC, HB⟩
      case round =>
        clear HC HB HRUN
        obtain ⟨t, turns, L, rfl, rfl, HT, HRUN, HV, HC, HB⟩ := hrel
        by_cases ct : t < 4 * i
        · have ctb : decide ((t : Int) < 4 * (i : Int)) = true := decide_eq_true (by omega)
          have htu : turns ≤ t := HT.out.2
          obtain ⟨m, hm⟩ : ∃ m, 4 * i - t = m + 1 := ⟨4 * i - t - 1, by omega⟩
          have hrun := HRUN.out
          rw [hm] at hrun
          obtain ⟨L', tb, tu, hsl, htb, htun, hlost, hsame, hrun'⟩ := runF_step hrun
          rw [HALL.out] at hsame
          obtain ⟨nw, hnw⟩ : ∃ b, (t == i + wh) = b := ⟨_, rfl⟩
          obtain ⟨af, haf⟩ : ∃ b, Nat.blt (i + wh) t = b := ⟨_, rfl⟩
          rw [hnw] at hsl
          rw [haf] at htb hsame
          have hnwI : ((t : Int) == (i : Int) + (wh : Int)) = nw := by rw [← hnw, ← beq_cast]; rfl
          have hafI : decide ((i : Int) + (wh : Int) < (t : Int)) = af := by
            rw [← haf]
            cases h : Nat.blt (i + wh) t with
            | true => rw [Nat.blt_eq] at h; exact decide_eq_true (by omega)
            | false =>
              have : ¬ i + wh < t := fun h2 => by rw [← Nat.blt_eq] at h2; rw [h2] at h; cases h
              exact decide_eq_false (by omega)
          have htbI : ((t : Int) % (i : Int) == (bad : Int)) = (t % i == bad) := by rw [emod_cast, beq_cast]
          have HSL := Aside0.mk hsl
          have HTB := Aside0.mk htb
          have HTU := Aside0.mk htun
          have HLO := Aside0.mk hlost
          have HSAME := Aside0.mk hsame
          have HRUN' := Aside0.mk hrun'
          have HAF := Aside0.mk hafI
          have HTI := Aside0.mk htbI
          have HM := Aside0.mk hm
          clear hsl htb htun hlost hsame hrun' hrun hm HRUN hnw haf hafI htbI
          go_upto_region 19 with (fail)
          go_cut [80] (fun v80 wd => wd = wr ∧ v80 = .bool (nw && !send))
          case first =>
            cases nw <;> cases send <;> (go_wp2; go_meet; (case rel => exact ⟨by first | rfl | trivial, rfl⟩))
          case rest =>
          obtain ⟨rfl, rfl⟩ := hcut
          obtain ⟨dI, dN, hd, hdn, HDI⟩ : ∃ (dI : Int) (dN : Nat), (∀ x : Nat, x < 16 → ((x : Int) == dI) = (x == dN)) ∧ (bif nw && !send then bad else 99) = dN ∧ Aside0 ((if (nw && !send) = true then (bad : Int) else -1) = dI) := by
            cases hx : (nw && !send) with
            | true => exact ⟨(bad : Int), bad, fun x _ => beq_cast x bad, rfl, ⟨rfl⟩⟩
            | false => exact ⟨-1, 99, no_deaf, rfl, ⟨rfl⟩⟩
          have HD := Aside0.mk hd
          have hsl := HSL.out
          rw [hdn] at hsl
          have HSL2 := Aside0.mk hsl
          clear hd hsl hdn HSL
          go_upto_if 80 with (fail)
          go_cut [18] (fun v18 wd => wd = wc ∧ v18 = .int .i64 dI)
          case first =>
            cases hx : (nw && !send) with
            | true =>
              have hdd := HDI.out
              rw [hx, if_pos rfl] at hdd
              have HDD := Aside0.mk hdd
              clear hdd hx
              go_wp2
              go_meet
              case rel => exact ⟨by first | rfl | trivial, by rw [HDD.out]⟩
            | false =>
              have hdd := HDI.out
              rw [hx, if_neg (by decide)] at hdd
              have HDD := Aside0.mk hdd
              clear hdd hx
              go_wp2
              go_meet
              case rel => exact ⟨by first | rfl | trivial, by rw [HDD.out]⟩
          case rest =>
          obtain ⟨rfl, rfl⟩ := hcut
          go_upto_region 21 with (fail)
          go_cut [92] (fun v92 wd => v92 = .bool false ∧ Aside0 (CL wd g bl bz cl cz i L' L') ∧ Aside0 (∀ q ∈ L', q.v < 65536 ∧ q.z ≤ t + 1) ∧ Aside0 (Below w.heap.size w wd))
          case first =>
            have hi0 : ((i : Int) == 0) = false := beq_eq_false_iff_ne.mpr (by omega)
            have hiz : ¬ ((i : Int) = 0) := by omega
            have ht6 : t < 1000000 := by omega
            cases nw with
            | true =>
              have hsl := HSL2.out
              rw [Bool.true_and] at hsl
              have HSL := Aside0.mk hsl
              clear hsl HSL2
              go_wp2_with (go_at_call 25; (with_reducible refine (slot_at g bl bz cl cz w.heap.size (t % i) i _ dI dN send L L' _ HC.out GE.out GEL.out GEZ.out HB.out.size hn16 t ht6 HV.out (Nat.mod_lt _ (by omega)) HD.out HSL.out (by first | rfl | (simp; done))).mono ?_); rintro e w5 ⟨rfl, hc, hv, hb, hs⟩; have n0_ := Aside0.mk hc; have n1_ := Aside0.mk hv; have n2_ := Aside0.mk (HB.out.trans hb); clear HC HV HB hc hv hb hs; have HC := n0_; have HV := n1_; have HB := n2_; clear n0_ n1_ n2_)
              go_meet
              case rel => exact ⟨by first | rfl | trivial, HC, HV, HB⟩
            | false =>
              have hsl := HSL2.out
              rw [Bool.false_and] at hsl
              have HSL := Aside0.mk hsl
              clear hsl HSL2
              go_wp2_with (go_at_call 25; (with_reducible refine (slot_at g bl bz cl cz w.heap.size (t % i) i _ dI dN false L L' _ HC.out GE.out GEL.out GEZ.out HB.out.size hn16 t ht6 HV.out (Nat.mod_lt _ (by omega)) HD.out HSL.out (by first | rfl | (simp; done))).mono ?_); rintro e w5 ⟨rfl, hc, hv, hb, hs⟩; have n0_ := Aside0.mk hc; have n1_ := Aside0.mk hv; have n2_ := Aside0.mk (HB.out.trans hb); clear HC HV HB hc hv hb hs; have HC := n0_; have HV := n1_; have HB := n2_; clear n0_ n1_ n2_)
              go_meet
              case rel => exact ⟨by first | rfl | trivial, HC, HV, HB⟩
          case rest =>
          clear HC HV HB
          obtain ⟨rfl, HC, HV, HB⟩ := hcut
          have htule : tu ≤ t + 1 := by
            have h_ := HTU.out
            cases tb <;> simp only [cond_true, cond_false] at h_ <;> omega
          go_upto_region 23 with (fail)
          go_cut [104] (fun v104 wd => wd = wc ∧ v104 = .bool tb)
          case first =>
            have hi0 : ((i : Int) == 0) = false := beq_eq_false_iff_ne.mpr (by omega)
            have hiz : ¬ ((i : Int) = 0) := by omega
            cases af with
            | true =>
              have hA := HAF.out
              have hT := HTI.out
              have hB := HTB.out
              rw [Bool.true_and] at hB
              rw [hB] at hT
              clear hB
              go_wp2
              go_meet
              case rel => exact ⟨by first | rfl | trivial, by first | rfl | trivial⟩
            | false =>
              have hA := HAF.out
              have hB := HTB.out
              rw [Bool.false_and] at hB
              have HB2 := Aside0.mk hB
              clear hB
              go_wp2
              go_meet
              case rel => exact ⟨by first | rfl | trivial, by rw [← HB2.out]⟩
          case rest =>
          obtain ⟨rfl, rfl⟩ := hcut
          go_upto_if 104 with (fail)
          go_cut [16] (fun v16 wd => wd = wc ∧ v16 = .int .i64 (tu : Int))
          case first =>
            cases tb with
            | false =>
              have h_ := HTU.out
              rw [cond_false] at h_
              have HE := Aside0.mk h_
              clear h_
              go_wp2
              go_meet
              case rel => exact ⟨by first | rfl | trivial, by rw [HE.out]⟩
            | true =>
              have h_ := HTU.out
              rw [cond_true] at h_
              have HE := Aside0.mk (show (turns : Int) + 1 = (tu : Int) by omega)
              cases send with
              | false =>
                clear h_
                go_wp2
                go_meet
                case rel => exact ⟨by first | rfl | trivial, by first | rw [HE.out] | (rw [← HE.out])⟩
              | true =>
                by_cases h1 : turns = 0
                · have hl := HLO.out
                  have e1 : (tu == 1) = true := beq_iff_eq.mpr (by omega)
                  rw [e1, Bool.true_and, Bool.true_and, Bool.true_and] at hl
                  have hq : L'[bad]? = some (nth L' bad) := by
                    have hlt : bad < L'.length := by rw [HC.out.len]; exact hbad
                    rw [nth_of (List.getElem?_eq_getElem hlt)]
                    exact List.getElem?_eq_getElem hlt
                  have hct := HC.out.told hq
                  have hz : (((nth L' bad).z : Int) == 0) = false := by rw [show (0 : Int) = ((0 : Nat) : Int) from rfl, beq_cast]; exact hl
                  generalize (nth L' bad).z = zz at hct hz
                  have hcg_1 := HC.out.c1
                  have ht1 : ((turns : Int) + 1 == 1) = true := beq_iff_eq.mpr (by omega)
                  clear hl e1 hq h_ h1
                  go_wp2
                  go_meet
                  case rel => exact ⟨by first | rfl | trivial, by first | rw [HE.out] | (rw [← HE.out])⟩
                · have ht1 : ((turns : Int) + 1 == 1) = false := beq_eq_false_iff_ne.mpr (by omega)
                  clear h_ h1
                  go_wp2
                  go_meet
                  case rel => exact ⟨by first | rfl | trivial, by first | rw [HE.out] | (rw [← HE.out])⟩
          case rest =>
          obtain ⟨rfl, rfl⟩ := hcut
          go_upto_region 27 with (fail)
          go_cut [138] (fun v138 wd => wd = wc ∧ v138 = .bool false)
          case first =>
            cases af with
            | false =>
              have hA := HAF.out
              have HS : Aside0 (same bad all false L' = true) := ⟨by have h_ := HSAME.out; rw [Bool.false_and] at h_; exact h_⟩
              clear HSAME
              go_wp2_with (go_at_call 26; (with_reducible refine (same_core g bl bz cl cz i bad all false L' _ HC.out hn16 (by omega) hbad (fun q hq => (HV.out q hq).1) HS.out).mono ?_); rintro e w' ⟨rfl, rfl⟩)
              go_meet
              case rel => exact ⟨by first | rfl | trivial, by first | rfl | trivial⟩
            | true =>
              have hA := HAF.out
              cases send with
              | true =>
                have HS : Aside0 (same bad all true L' = true) := ⟨by have h_ := HSAME.out; rw [Bool.true_and, Bool.true_or] at h_; exact h_⟩
                clear HSAME
                go_wp2_with (go_at_call 26; (with_reducible refine (same_core g bl bz cl cz i bad all true L' _ HC.out hn16 (by omega) hbad (fun q hq => (HV.out q hq).1) HS.out).mono ?_); rintro e w' ⟨rfl, rfl⟩)
                go_meet
                case rel => exact ⟨by first | rfl | trivial, by first | rfl | trivial⟩
              | false =>
                by_cases h1 : 0 < tu
                · have e1 : Nat.blt 0 tu = true := by rw [Nat.blt_eq]; exact h1
                  have ht1 : decide ((0 : Int) < (tu : Int)) = true := decide_eq_true (by omega)
                  have HS : Aside0 (same bad all true L' = true) := ⟨by have h_ := HSAME.out; rw [Bool.true_and, Bool.false_or, e1] at h_; exact h_⟩
                  clear HSAME e1
                  go_wp2_with (go_at_call 26; (with_reducible refine (same_core g bl bz cl cz i bad all true L' _ HC.out hn16 (by omega) hbad (fun q hq => (HV.out q hq).1) HS.out).mono ?_); rintro e w' ⟨rfl, rfl⟩)
                  go_meet
                  case rel => exact ⟨by first | rfl | trivial, by first | rfl | trivial⟩
                · have e1 : Nat.blt 0 tu = false := by
                    cases h : Nat.blt 0 tu with
                    | false => rfl
                    | true => rw [Nat.blt_eq] at h; exact absurd h h1
                  have ht1 : decide ((0 : Int) < (tu : Int)) = false := decide_eq_false (by omega)
                  have HS : Aside0 (same bad all false L' = true) := ⟨by have h_ := HSAME.out; rw [Bool.true_and, Bool.false_or, e1] at h_; exact h_⟩
                  clear HSAME e1
                  go_wp2_with (go_at_call 26; (with_reducible refine (same_core g bl bz cl cz i bad all false L' _ HC.out hn16 (by omega) hbad (fun q hq => (HV.out q hq).1) HS.out).mono ?_); rintro e w' ⟨rfl, rfl⟩)
                  go_meet
                  case rel => exact ⟨by first | rfl | trivial, by first | rfl | trivial⟩
          case rest =>
          obtain ⟨rfl, rfl⟩ := hcut
          go_wp2
          go_roundw
          case rel => exact ⟨t + 1, tu, L', by first | rfl | (simp; done), by first | rfl | trivial, ⟨by omega, htule⟩, ⟨by rw [show 4 * i - (t + 1) = m by have := HM.out; omega]; exact HRUN'.out⟩, HV, HC, HB⟩
          case measure => simp [intOf]; omega
        · have ctb : decide ((t : Int) < 4 * (i : Int)) = false := decide_eq_false (by omega)
          go_wp2
          go_ret
          exact ⟨rfl, HB.out⟩
theorem wf8_ {v : Int} (hv : (Lit.int .u8 v).wf = true) : 0 ≤ v ∧ v ≤ 255 := by
  simp [Lit.wf, IntKind.min, IntKind.max, IntKind.bits, IntKind.signed] at hv
  omega
end Go.Proofs.Ytcfloaplbmpoaaa.Hand
