/- What 'vesperslaw20.ProtocolOrder' computes, by hand. -/
import Derived.Test.YtbbiihifhdcniaaHandMay
import Derived.Test.YtbbiihifhdcniaaPureProto0
import Derived.Test.YtbbiihifhdcniaaHandStore
set_option linter.unusedVariables false
set_option linter.unusedSimpArgs false
namespace Go.Proofs.Ytbbiihifhdcniaa.Hand
open Go.RowKit Go.Proofs.Ytbbiihifhdcniaa.PA Go.Proofs.Ytbbiihifhdcniaa.Pure Go.Proofs.YtbbiihifhdcniaaW.PrintWords Go.Proofs.YtbbiihifhdcniaaW.PrintLast Go.Proofs.YtbbiihifhdcniaaW.PrintMore
attribute [local go_sem] Oper.semAt_some

/-- What is known of the array. -/
structure SI (was : Int) (b1 b2 b3 b4 : Bool) : Prop where
  h1 : 1 ≤ was → was ≤ 4 → b1 = true
  h2 : 2 ≤ was → was ≤ 4 → b2 = true
  h3 : was = 3 → b3 = true
  h4 : was = 4 → b4 = true
theorem runL_at : ∀ (l : List Int) (s : Int) (i : Nat) (h : i < (runL s l).length), nextO (lastS s ((runL s l).take i)) (l.getD i 0) = some ((runL s l)[i])
  | [], s, i, h => by simp [runL] at h
  | e :: t, s, i, h => by
    unfold runL at h
    cases hn : nextO s e with
    | none => rw [hn] at h; simp at h
    | some n =>
      have e1 : runL s (e :: t) = n :: runL n t := by show (match nextO s e with | none => [] | some n => n :: runL n t) = _; rw [hn]
      rw [hn] at h
      cases i with
      | zero => simp [e1, lastS, hn]
      | succ i =>
        simp only [e1, List.take_succ_cons, lastS_cons, List.getD_cons_succ, List.getElem_cons_succ]
        exact runL_at t n i (by simpa using h)
def stepOk (was s : Int) : Bool := (s == 0) || (s == 1) || (was != 6 && ((s == 2 && (was == 1 || was == 3)) || (s == 3 && (was == 2 || was == 3)) || (s == 4 && was == 2) || (s == 5 && (was == 3 || was == 4)) || (s == 6)))
theorem step_fin : ∀ s : Fin 7, ∀ e : Fin 10, (nextO (s.1 : Int) (e.1 : Int)).all (fun t => stepOk (s.1 : Int) t) = true := by decide
theorem step_ok {was e s : Int} (h : nextO was e = some s) : stepOk was s = true := by
  by_cases hd : 0 ≤ was ∧ was < 7 ∧ 0 ≤ e ∧ e < 10
  · obtain ⟨a, b, c, d⟩ := hd
    obtain ⟨x, rfl⟩ := Int.eq_ofNat_of_zero_le a
    obtain ⟨y, rfl⟩ := Int.eq_ofNat_of_zero_le c
    have := step_fin ⟨x, by omega⟩ ⟨y, by omega⟩
    simp only [h] at this
    simpa using this
  · rw [nextO_out hd] at h
    cases h
/-- The ways of a round. -/
theorem ways {was s : Int} {b1 b2 b3 b4 : Bool} (h : stepOk was s = true) (hI : SI was b1 b2 b3 b4) : s = 0 ∨ s = 1 ∨
    (s = 2 ∧ (was == 6) = false ∧ b1 = true) ∨ (s = 3 ∧ (was == 6) = false ∧ b1 = true ∧ b2 = true) ∨ (s = 4 ∧ (was == 6) = false ∧ b1 = true ∧ b2 = true) ∨
    (s = 5 ∧ (was == 6) = false ∧ b1 = true ∧ b2 = true ∧ b4 = true) ∨ (s = 5 ∧ (was == 6) = false ∧ b1 = true ∧ b2 = true ∧ b4 = false ∧ b3 = true) ∨ (s = 6 ∧ (was == 6) = false) := by
  simp only [stepOk, Bool.or_eq_true, Bool.and_eq_true, beq_iff_eq, bne_iff_ne, ne_eq] at h
  obtain ⟨k1, k2, k3, k4⟩ := hI
  have e6 : ¬ was = 6 → (was == 6) = false := fun q => by simpa using q
  rcases h with (h | h) | ⟨h6, ((((⟨rfl, h | h⟩ | ⟨rfl, h | h⟩) | ⟨rfl, h⟩) | ⟨rfl, h | h⟩) | rfl)⟩
  · exact .inl h
  · exact .inr (.inl h)
  all_goals (have q6 := e6 h6)
  · exact .inr (.inr (.inl ⟨rfl, q6, k1 (by omega) (by omega)⟩))
  · exact .inr (.inr (.inl ⟨rfl, q6, k1 (by omega) (by omega)⟩))
  · exact .inr (.inr (.inr (.inl ⟨rfl, q6, k1 (by omega) (by omega), k2 (by omega) (by omega)⟩)))
  · exact .inr (.inr (.inr (.inl ⟨rfl, q6, k1 (by omega) (by omega), k2 (by omega) (by omega)⟩)))
  · exact .inr (.inr (.inr (.inr (.inl ⟨rfl, q6, k1 (by omega) (by omega), k2 (by omega) (by omega)⟩))))
  · cases h4 : b4 with
    | true => exact .inr (.inr (.inr (.inr (.inr (.inl ⟨rfl, q6, k1 (by omega) (by omega), k2 (by omega) (by omega), rfl⟩)))))
    | false => exact .inr (.inr (.inr (.inr (.inr (.inr (.inl ⟨rfl, q6, k1 (by omega) (by omega), k2 (by omega) (by omega), rfl, k3 h⟩))))))
  · exact .inr (.inr (.inr (.inr (.inr (.inl ⟨rfl, q6, k1 (by omega) (by omega), k2 (by omega) (by omega), k4 h⟩)))))
  · exact .inr (.inr (.inr (.inr (.inr (.inr (.inr ⟨rfl, q6⟩))))))
theorem order_long (A0 : Option Addr) (c0 : Nat) (l : List Int) (hl : (l.length : Int) > 100) (w : World) : Calls Try.prog 3 #[.slice A0 l.length c0] w fun e w' => e = .returned (.bool true) ∧ Below w.heap.size w w' := by
  have hb : decide (100 < (l.length : Int)) = true := decide_eq_true hl
  go_enter Try.func3, Try.ntmps3
  go_wp2_with (go_at_call 6; refine (vesperslaw20_alive.calls true _ alive_eq).mono ?_; rintro e w1 ⟨rfl, hB⟩)
  go_ret
  exact ⟨rfl, hB⟩
set_option maxRecDepth 100000 in
set_option maxHeartbeats 4000000 in
theorem order_short (A0 : Option Addr) (c0 : Nat) (l : List Int) (hl : l.length ≤ 100) (hw : ∀ x ∈ l, fitI x) (w : World) (hr0 : Kd.C (Kd.int .i64) w A0 l.length l) (hc0 : l.length ≤ c0) :
    Calls Try.prog 3 #[.slice A0 l.length c0] w fun e w' => e = .returned (.bool true) ∧ Below w.heap.size w w' := by
  have hb : decide (100 < (l.length : Int)) = false := decide_eq_false (by omega)
  obtain ⟨L, hL⟩ : ∃ L, runL 0 l = L := ⟨_, rfl⟩
  have hrun : protocol_Run.f (l.length + 1) 0 l = some (L, (L.length : Int)) := by rw [run_eq l (by omega) hw 0 (by decide) _ (by omega), hL]
  have hLl : L.length ≤ 100 := by have := runL_len l 0; rw [hL] at this; omega
  have hHL := Lib.hid hL
  have hHW := Lib.hid hw
  clear hL hw
  go_enter Try.func3, Try.ntmps3
  go_upto_region 5 with (first
    | (go_at_call 6; refine (vesperslaw20_alive.calls true _ alive_eq).mono ?_; rintro e w1 ⟨rfl, hB⟩)
    | (go_at_call 7; refine (protocol_Run.calls (l.length + 1) 0 A0 c0 l L (L.length : Int) _ (Kd.C_below hr0 hB) hc0 hrun).mono ?_; rintro e w2 ⟨v2, rfl, hO, hB2⟩))
  obtain ⟨Ao, co, eo⟩ := Kd.R_slice hO
  subst eo
  have hBw : Below w.heap.size w w2 := below_step hB hB2
  clear hB hB2 hr0
  go_wp2
  obtain ⟨g, hg⟩ : ∃ g, w2.heap.size = g := ⟨_, rfl⟩
  rw [hg]
  have hge : w.heap.size ≤ g := by rw [← hg]; exact hBw.size
  go_loopw [6, 34] (fun v6 v34 wr => ∃ (i : Nat) (b0 b1 b2 b3 b4 b5 b6 : Bool), i ≤ L.length ∧ v34 = .int .i64 i ∧ v6 = .int .i64 (lastS 0 (L.take i)) ∧ wr.heap[g]? = some (.cells #[.bool b0, .bool b1, .bool b2, .bool b3, .bool b4, .bool b5, .bool b6] 26 (0, 0)) ∧ SI (lastS 0 (L.take i)) b1 b2 b3 b4 ∧
      Kd.R (Kd.int .i64) 3 wr w1.heap.size (fun k => k ≠ g) (.slice Ao L.length co) L ∧ Below w.heap.size w wr)
    (fun _ v34 _ => L.length - (intOf v34).toNat)
  case atStart =>
    refine ⟨0, false, false, false, false, false, false, false, Nat.zero_le _, rfl, rfl, by rw [← hg]; exact heap_alloc_new _ _, ⟨fun h => by simp [lastS] at h, fun h => by simp [lastS] at h, fun h => by simp [lastS] at h, fun h => by simp [lastS] at h⟩, ?_, hBw.alloc hBw.size _⟩
    exact Kd.R_mono (Kd.R_alloc (Kd.R_elderB hO g (by omega)) _) (fun k hk => hk.2)
  case round =>
    clear hO hBw
    obtain ⟨i, b0, b1, b2, b3, b4, b5, b6, hi, rfl, rfl, hbk, hSI, hO, hBw⟩ := hrel
    by_cases hlt : i < L.length
    · have hcl : decide ((i : Int) < (L.length : Int)) = true := decide_eq_true (by omega)
      have p1 : 0 ≤ (i : Int) := by omega
      have q1 : (i : Int) < (L.length : Int) := by omega
      obtain ⟨ad, ead, hx⟩ := Kd.at_int (Kd.R_reads' hO).2.2 (i : Int) p1 q1
      cases ead
      rw [Int.toNat_natCast] at hx
      have hstep : nextO (lastS 0 (L.take i)) (l.getD i 0) = some (rd L (i : Int)) := by
        have h1 := runL_at l 0 i (by rw [hHL.out]; exact hlt)
        simp only [hHL.out] at h1
        rw [h1]
        simp [rd, hlt]
      have hlast : lastS 0 (L.take (i + 1)) = rd L (i : Int) := by
        rw [show rd L (i : Int) = L[i] by simp [rd, hlt]]
        unfold lastS
        rw [List.take_succ_eq_append_getElem hlt, List.getLast?_concat]
        rfl
      have hq_ := ways (step_ok hstep) hSI
      clear hstep hSI
      replace p1 := eq_true p1
      replace q1 := eq_true q1
      rcases hq_ with hs | hs | ⟨hs, h6, rfl⟩ | ⟨hs, h6, rfl, rfl⟩ | ⟨hs, h6, rfl, rfl⟩ | ⟨hs, h6, rfl, rfl, rfl⟩ | ⟨hs, h6, rfl, rfl, rfl, rfl⟩ | ⟨hs, h6⟩
      · rw [hs] at hx hlast
        clear hs
        go_upto_region 16 with ((with_reducible refine gate_store rfl ?_); refine wpList_store_blk rfl 26 _ _ rfl g 0 #[.bool false, .bool false, .bool false, .bool false, .bool false, .bool false, .bool false] rfl rfl hbk (by simp) (by kernel_rfl) (by simp [Value.oneCell']) ?_; intro w5 hb5 hg5)
        replace hbk : w5.heap[g]? = some (.cells #[.bool false, .bool false, .bool false, .bool false, .bool false, .bool false, .bool false] 26 (0, 0)) := hb5
        replace hO := R_keepB hO hg5 (fun _ hk => hk)
        replace hBw := hBw.grown hg5 hBw.size (fun j ej => by cases ej; exact hge)
        clear hb5 hg5
        have hf := blk_frozen hbk 0
        have hc := (blk_cell hbk 0).trans rfl
        go_upto_region 17 with (fail)
        replace hbk : (w5.setCell ⟨g, 0, none⟩ (.bool true)).heap[g]? = some (.cells #[.bool true, .bool false, .bool false, .bool false, .bool false, .bool false, .bool false] 26 (0, 0)) := blk_put (cs := #[.bool false, .bool false, .bool false, .bool false, .bool false, .bool false, .bool false]) hbk 0 _ rfl
        replace hO := Kd.R_far hO (p := ⟨g, 0, none⟩) (fun _ hk => hk) (.bool true)
        replace hBw := below_set (j := 0) (v := .bool true) hBw hge
        clear hf hc
        obtain ⟨w6, hw6⟩ : ∃ w6, w5.setCell ⟨g, 0, none⟩ (.bool true) = w6 := ⟨_, rfl⟩
        rw [hw6] at hbk hO hBw
        rw [hw6]
        clear hw6
        have hc1 : w6.cell? ⟨g, 1, none⟩ = some (.bool false) := (blk_cell hbk 1).trans rfl
        have hc2 : w6.cell? ⟨g, 2, none⟩ = some (.bool false) := (blk_cell hbk 2).trans rfl
        have hc3 : w6.cell? ⟨g, 3, none⟩ = some (.bool false) := (blk_cell hbk 3).trans rfl
        have hc4 : w6.cell? ⟨g, 4, none⟩ = some (.bool false) := (blk_cell hbk 4).trans rfl
        go_wp2_with (go_at_call 8; (first | (refine (may_at _ _ true (by decide) _).mono ?_) | (refine (may_at _ _ false (by decide) _).mono ?_)); rintro e w9 ⟨rfl, hb9⟩; replace hbk := blk_below hbk hb9; replace hO := Kd.R_below hO hb9; replace hBw := below_step hBw hb9; clear hb9)
        all_goals exact ⟨⟨i + 1, true, false, false, false, false, false, false, by omega, by go_num, by rw [hlast], hbk, by rw [hlast]; exact ⟨fun h h' => by first | rfl | omega, fun h h' => by first | rfl | omega, fun h => by first | rfl | omega, fun h => by first | rfl | omega⟩, hO, hBw⟩, by simp [intOf]; omega⟩
      · rw [hs] at hx hlast
        clear hs
        go_upto_region 16 with ((with_reducible refine gate_store rfl ?_); refine wpList_store_blk rfl 26 _ _ rfl g 0 #[.bool false, .bool false, .bool false, .bool false, .bool false, .bool false, .bool false] rfl rfl hbk (by simp) (by kernel_rfl) (by simp [Value.oneCell']) ?_; intro w5 hb5 hg5)
        replace hbk : w5.heap[g]? = some (.cells #[.bool false, .bool false, .bool false, .bool false, .bool false, .bool false, .bool false] 26 (0, 0)) := hb5
        replace hO := R_keepB hO hg5 (fun _ hk => hk)
        replace hBw := hBw.grown hg5 hBw.size (fun j ej => by cases ej; exact hge)
        clear hb5 hg5
        have hf := blk_frozen hbk 1
        have hc := (blk_cell hbk 1).trans rfl
        go_upto_region 17 with (fail)
        replace hbk : (w5.setCell ⟨g, 1, none⟩ (.bool true)).heap[g]? = some (.cells #[.bool false, .bool true, .bool false, .bool false, .bool false, .bool false, .bool false] 26 (0, 0)) := blk_put (cs := #[.bool false, .bool false, .bool false, .bool false, .bool false, .bool false, .bool false]) hbk 1 _ rfl
        replace hO := Kd.R_far hO (p := ⟨g, 1, none⟩) (fun _ hk => hk) (.bool true)
        replace hBw := below_set (j := 1) (v := .bool true) hBw hge
        clear hf hc
        obtain ⟨w6, hw6⟩ : ∃ w6, w5.setCell ⟨g, 1, none⟩ (.bool true) = w6 := ⟨_, rfl⟩
        rw [hw6] at hbk hO hBw
        rw [hw6]
        clear hw6
        have hc1 : w6.cell? ⟨g, 1, none⟩ = some (.bool true) := (blk_cell hbk 1).trans rfl
        have hc2 : w6.cell? ⟨g, 2, none⟩ = some (.bool false) := (blk_cell hbk 2).trans rfl
        have hc3 : w6.cell? ⟨g, 3, none⟩ = some (.bool false) := (blk_cell hbk 3).trans rfl
        have hc4 : w6.cell? ⟨g, 4, none⟩ = some (.bool false) := (blk_cell hbk 4).trans rfl
        go_wp2_with (go_at_call 8; (first | (refine (may_at _ _ true (by decide) _).mono ?_) | (refine (may_at _ _ false (by decide) _).mono ?_)); rintro e w9 ⟨rfl, hb9⟩; replace hbk := blk_below hbk hb9; replace hO := Kd.R_below hO hb9; replace hBw := below_step hBw hb9; clear hb9)
        all_goals exact ⟨⟨i + 1, false, true, false, false, false, false, false, by omega, by go_num, by rw [hlast], hbk, by rw [hlast]; exact ⟨fun h h' => by first | rfl | omega, fun h h' => by first | rfl | omega, fun h => by first | rfl | omega, fun h => by first | rfl | omega⟩, hO, hBw⟩, by simp [intOf]; omega⟩
      · rw [hs] at hx hlast
        clear hs
        have h6p := eq_false (show ¬ (lastS 0 (L.take i) = 6) by simpa using h6)
        have hf := blk_frozen hbk 2
        have hc := (blk_cell hbk 2).trans rfl
        go_upto_region 17 with (fail)
        replace hbk : (wr.setCell ⟨g, 2, none⟩ (.bool true)).heap[g]? = some (.cells #[.bool b0, .bool true, .bool true, .bool b3, .bool b4, .bool b5, .bool b6] 26 (0, 0)) := blk_put (cs := #[.bool b0, .bool true, .bool b2, .bool b3, .bool b4, .bool b5, .bool b6]) hbk 2 _ rfl
        replace hO := Kd.R_far hO (p := ⟨g, 2, none⟩) (fun _ hk => hk) (.bool true)
        replace hBw := below_set (j := 2) (v := .bool true) hBw hge
        clear hf hc
        obtain ⟨w6, hw6⟩ : ∃ w6, wr.setCell ⟨g, 2, none⟩ (.bool true) = w6 := ⟨_, rfl⟩
        rw [hw6] at hbk hO hBw
        rw [hw6]
        clear hw6
        have hc1 : w6.cell? ⟨g, 1, none⟩ = some (.bool true) := (blk_cell hbk 1).trans rfl
        have hc2 : w6.cell? ⟨g, 2, none⟩ = some (.bool true) := (blk_cell hbk 2).trans rfl
        have hc3 : w6.cell? ⟨g, 3, none⟩ = some (.bool b3) := (blk_cell hbk 3).trans rfl
        have hc4 : w6.cell? ⟨g, 4, none⟩ = some (.bool b4) := (blk_cell hbk 4).trans rfl
        go_wp2_with (go_at_call 8; (first | (refine (may_at _ _ true (by decide) _).mono ?_) | (refine (may_at _ _ false (by decide) _).mono ?_)); rintro e w9 ⟨rfl, hb9⟩; replace hbk := blk_below hbk hb9; replace hO := Kd.R_below hO hb9; replace hBw := below_step hBw hb9; clear hb9)
        all_goals exact ⟨⟨i + 1, b0, true, true, b3, b4, b5, b6, by omega, by go_num, by rw [hlast], hbk, by rw [hlast]; exact ⟨fun h h' => by first | rfl | omega, fun h h' => by first | rfl | omega, fun h => by first | rfl | omega, fun h => by first | rfl | omega⟩, hO, hBw⟩, by simp [intOf]; omega⟩
      · rw [hs] at hx hlast
        clear hs
        have h6p := eq_false (show ¬ (lastS 0 (L.take i) = 6) by simpa using h6)
        have hf := blk_frozen hbk 3
        have hc := (blk_cell hbk 3).trans rfl
        go_upto_region 17 with (fail)
        replace hbk : (wr.setCell ⟨g, 3, none⟩ (.bool true)).heap[g]? = some (.cells #[.bool b0, .bool true, .bool true, .bool true, .bool b4, .bool b5, .bool b6] 26 (0, 0)) := blk_put (cs := #[.bool b0, .bool true, .bool true, .bool b3, .bool b4, .bool b5, .bool b6]) hbk 3 _ rfl
        replace hO := Kd.R_far hO (p := ⟨g, 3, none⟩) (fun _ hk => hk) (.bool true)
        replace hBw := below_set (j := 3) (v := .bool true) hBw hge
        clear hf hc
        obtain ⟨w6, hw6⟩ : ∃ w6, wr.setCell ⟨g, 3, none⟩ (.bool true) = w6 := ⟨_, rfl⟩
        rw [hw6] at hbk hO hBw
        rw [hw6]
        clear hw6
        have hc1 : w6.cell? ⟨g, 1, none⟩ = some (.bool true) := (blk_cell hbk 1).trans rfl
        have hc2 : w6.cell? ⟨g, 2, none⟩ = some (.bool true) := (blk_cell hbk 2).trans rfl
        have hc3 : w6.cell? ⟨g, 3, none⟩ = some (.bool true) := (blk_cell hbk 3).trans rfl
        have hc4 : w6.cell? ⟨g, 4, none⟩ = some (.bool b4) := (blk_cell hbk 4).trans rfl
        go_wp2_with (go_at_call 8; (first | (refine (may_at _ _ true (by decide) _).mono ?_) | (refine (may_at _ _ false (by decide) _).mono ?_)); rintro e w9 ⟨rfl, hb9⟩; replace hbk := blk_below hbk hb9; replace hO := Kd.R_below hO hb9; replace hBw := below_step hBw hb9; clear hb9)
        all_goals exact ⟨⟨i + 1, b0, true, true, true, b4, b5, b6, by omega, by go_num, by rw [hlast], hbk, by rw [hlast]; exact ⟨fun h h' => by first | rfl | omega, fun h h' => by first | rfl | omega, fun h => by first | rfl | omega, fun h => by first | rfl | omega⟩, hO, hBw⟩, by simp [intOf]; omega⟩
      · rw [hs] at hx hlast
        clear hs
        have h6p := eq_false (show ¬ (lastS 0 (L.take i) = 6) by simpa using h6)
        have hf := blk_frozen hbk 4
        have hc := (blk_cell hbk 4).trans rfl
        go_upto_region 17 with (fail)
        replace hbk : (wr.setCell ⟨g, 4, none⟩ (.bool true)).heap[g]? = some (.cells #[.bool b0, .bool true, .bool true, .bool b3, .bool true, .bool b5, .bool b6] 26 (0, 0)) := blk_put (cs := #[.bool b0, .bool true, .bool true, .bool b3, .bool b4, .bool b5, .bool b6]) hbk 4 _ rfl
        replace hO := Kd.R_far hO (p := ⟨g, 4, none⟩) (fun _ hk => hk) (.bool true)
        replace hBw := below_set (j := 4) (v := .bool true) hBw hge
        clear hf hc
        obtain ⟨w6, hw6⟩ : ∃ w6, wr.setCell ⟨g, 4, none⟩ (.bool true) = w6 := ⟨_, rfl⟩
        rw [hw6] at hbk hO hBw
        rw [hw6]
        clear hw6
        have hc1 : w6.cell? ⟨g, 1, none⟩ = some (.bool true) := (blk_cell hbk 1).trans rfl
        have hc2 : w6.cell? ⟨g, 2, none⟩ = some (.bool true) := (blk_cell hbk 2).trans rfl
        have hc3 : w6.cell? ⟨g, 3, none⟩ = some (.bool b3) := (blk_cell hbk 3).trans rfl
        have hc4 : w6.cell? ⟨g, 4, none⟩ = some (.bool true) := (blk_cell hbk 4).trans rfl
        go_wp2_with (go_at_call 8; (first | (refine (may_at _ _ true (by decide) _).mono ?_) | (refine (may_at _ _ false (by decide) _).mono ?_)); rintro e w9 ⟨rfl, hb9⟩; replace hbk := blk_below hbk hb9; replace hO := Kd.R_below hO hb9; replace hBw := below_step hBw hb9; clear hb9)
        all_goals exact ⟨⟨i + 1, b0, true, true, b3, true, b5, b6, by omega, by go_num, by rw [hlast], hbk, by rw [hlast]; exact ⟨fun h h' => by first | rfl | omega, fun h h' => by first | rfl | omega, fun h => by first | rfl | omega, fun h => by first | rfl | omega⟩, hO, hBw⟩, by simp [intOf]; omega⟩
      · rw [hs] at hx hlast
        clear hs
        have h6p := eq_false (show ¬ (lastS 0 (L.take i) = 6) by simpa using h6)
        have hf := blk_frozen hbk 5
        have hc := (blk_cell hbk 5).trans rfl
        go_upto_region 17 with (fail)
        replace hbk : (wr.setCell ⟨g, 5, none⟩ (.bool true)).heap[g]? = some (.cells #[.bool b0, .bool true, .bool true, .bool b3, .bool true, .bool true, .bool b6] 26 (0, 0)) := blk_put (cs := #[.bool b0, .bool true, .bool true, .bool b3, .bool true, .bool b5, .bool b6]) hbk 5 _ rfl
        replace hO := Kd.R_far hO (p := ⟨g, 5, none⟩) (fun _ hk => hk) (.bool true)
        replace hBw := below_set (j := 5) (v := .bool true) hBw hge
        clear hf hc
        obtain ⟨w6, hw6⟩ : ∃ w6, wr.setCell ⟨g, 5, none⟩ (.bool true) = w6 := ⟨_, rfl⟩
        rw [hw6] at hbk hO hBw
        rw [hw6]
        clear hw6
        have hc1 : w6.cell? ⟨g, 1, none⟩ = some (.bool true) := (blk_cell hbk 1).trans rfl
        have hc2 : w6.cell? ⟨g, 2, none⟩ = some (.bool true) := (blk_cell hbk 2).trans rfl
        have hc3 : w6.cell? ⟨g, 3, none⟩ = some (.bool b3) := (blk_cell hbk 3).trans rfl
        have hc4 : w6.cell? ⟨g, 4, none⟩ = some (.bool true) := (blk_cell hbk 4).trans rfl
        go_wp2_with (go_at_call 8; (first | (refine (may_at _ _ true (by decide) _).mono ?_) | (refine (may_at _ _ false (by decide) _).mono ?_)); rintro e w9 ⟨rfl, hb9⟩; replace hbk := blk_below hbk hb9; replace hO := Kd.R_below hO hb9; replace hBw := below_step hBw hb9; clear hb9)
        all_goals exact ⟨⟨i + 1, b0, true, true, b3, true, true, b6, by omega, by go_num, by rw [hlast], hbk, by rw [hlast]; exact ⟨fun h h' => by first | rfl | omega, fun h h' => by first | rfl | omega, fun h => by first | rfl | omega, fun h => by first | rfl | omega⟩, hO, hBw⟩, by simp [intOf]; omega⟩
      · rw [hs] at hx hlast
        clear hs
        have h6p := eq_false (show ¬ (lastS 0 (L.take i) = 6) by simpa using h6)
        have hf := blk_frozen hbk 5
        have hc := (blk_cell hbk 5).trans rfl
        go_upto_region 17 with (fail)
        replace hbk : (wr.setCell ⟨g, 5, none⟩ (.bool true)).heap[g]? = some (.cells #[.bool b0, .bool true, .bool true, .bool true, .bool false, .bool true, .bool b6] 26 (0, 0)) := blk_put (cs := #[.bool b0, .bool true, .bool true, .bool true, .bool false, .bool b5, .bool b6]) hbk 5 _ rfl
        replace hO := Kd.R_far hO (p := ⟨g, 5, none⟩) (fun _ hk => hk) (.bool true)
        replace hBw := below_set (j := 5) (v := .bool true) hBw hge
        clear hf hc
        obtain ⟨w6, hw6⟩ : ∃ w6, wr.setCell ⟨g, 5, none⟩ (.bool true) = w6 := ⟨_, rfl⟩
        rw [hw6] at hbk hO hBw
        rw [hw6]
        clear hw6
        have hc1 : w6.cell? ⟨g, 1, none⟩ = some (.bool true) := (blk_cell hbk 1).trans rfl
        have hc2 : w6.cell? ⟨g, 2, none⟩ = some (.bool true) := (blk_cell hbk 2).trans rfl
        have hc3 : w6.cell? ⟨g, 3, none⟩ = some (.bool true) := (blk_cell hbk 3).trans rfl
        have hc4 : w6.cell? ⟨g, 4, none⟩ = some (.bool false) := (blk_cell hbk 4).trans rfl
        go_wp2_with (go_at_call 8; (first | (refine (may_at _ _ true (by decide) _).mono ?_) | (refine (may_at _ _ false (by decide) _).mono ?_)); rintro e w9 ⟨rfl, hb9⟩; replace hbk := blk_below hbk hb9; replace hO := Kd.R_below hO hb9; replace hBw := below_step hBw hb9; clear hb9)
        all_goals exact ⟨⟨i + 1, b0, true, true, true, false, true, b6, by omega, by go_num, by rw [hlast], hbk, by rw [hlast]; exact ⟨fun h h' => by first | rfl | omega, fun h h' => by first | rfl | omega, fun h => by first | rfl | omega, fun h => by first | rfl | omega⟩, hO, hBw⟩, by simp [intOf]; omega⟩
      · rw [hs] at hx hlast
        clear hs
        have h6p := eq_false (show ¬ (lastS 0 (L.take i) = 6) by simpa using h6)
        have hf := blk_frozen hbk 6
        have hc := (blk_cell hbk 6).trans rfl
        go_upto_region 17 with (fail)
        replace hbk : (wr.setCell ⟨g, 6, none⟩ (.bool true)).heap[g]? = some (.cells #[.bool b0, .bool b1, .bool b2, .bool b3, .bool b4, .bool b5, .bool true] 26 (0, 0)) := blk_put (cs := #[.bool b0, .bool b1, .bool b2, .bool b3, .bool b4, .bool b5, .bool b6]) hbk 6 _ rfl
        replace hO := Kd.R_far hO (p := ⟨g, 6, none⟩) (fun _ hk => hk) (.bool true)
        replace hBw := below_set (j := 6) (v := .bool true) hBw hge
        clear hf hc
        obtain ⟨w6, hw6⟩ : ∃ w6, wr.setCell ⟨g, 6, none⟩ (.bool true) = w6 := ⟨_, rfl⟩
        rw [hw6] at hbk hO hBw
        rw [hw6]
        clear hw6
        have hc1 : w6.cell? ⟨g, 1, none⟩ = some (.bool b1) := (blk_cell hbk 1).trans rfl
        have hc2 : w6.cell? ⟨g, 2, none⟩ = some (.bool b2) := (blk_cell hbk 2).trans rfl
        have hc3 : w6.cell? ⟨g, 3, none⟩ = some (.bool b3) := (blk_cell hbk 3).trans rfl
        have hc4 : w6.cell? ⟨g, 4, none⟩ = some (.bool b4) := (blk_cell hbk 4).trans rfl
        go_wp2_with (go_at_call 8; (first | (refine (may_at _ _ true (by decide) _).mono ?_) | (refine (may_at _ _ false (by decide) _).mono ?_)); rintro e w9 ⟨rfl, hb9⟩; replace hbk := blk_below hbk hb9; replace hO := Kd.R_below hO hb9; replace hBw := below_step hBw hb9; clear hb9)
        all_goals exact ⟨⟨i + 1, b0, b1, b2, b3, b4, b5, true, by omega, by go_num, by rw [hlast], hbk, by rw [hlast]; exact ⟨fun h h' => by first | rfl | omega, fun h h' => by first | rfl | omega, fun h => by first | rfl | omega, fun h => by first | rfl | omega⟩, hO, hBw⟩, by simp [intOf]; omega⟩
    · obtain rfl : i = L.length := by omega
      have hcl : decide ((L.length : Int) < (L.length : Int)) = false := decide_eq_false (by omega)
      go_wp2
      go_ret
      exact ⟨rfl, hBw⟩
theorem order_core (A0 : Option Addr) (c0 : Nat) (l : List Int) (hw : ∀ x ∈ l, fitI x) (w : World) (hr0 : Kd.C (Kd.int .i64) w A0 l.length l) (hc0 : l.length ≤ c0) :
    Calls Try.prog 3 #[.slice A0 l.length c0] w fun e w' => e = .returned (.bool true) ∧ Below w.heap.size w w' := by
  by_cases h : (l.length : Int) > 100
  · exact order_long A0 c0 l h w
  · exact order_short A0 c0 l (by omega) hw w hr0 hc0
end Go.Proofs.Ytbbiihifhdcniaa.Hand
