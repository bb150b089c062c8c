/- The reference's List and Values. -/
import Derived.Test.YtfhkmokgbndeeaaHandRef
set_option linter.unusedVariables false
set_option linter.unusedSimpArgs false
namespace Go.Proofs.Ytfhkmokgbndeeaa.Hand
open Go.RowKit Go.Proofs.Ytfhkmokgbndeeaa.Cap Go.Proofs.Ytfhkmokgbndeeaa.PA Go.Proofs.Ytfhkmokgbndeeaa.PB Go.Proofs.YtfhkmokgbndeeaaW.PrintWords Go.Proofs.YtfhkmokgbndeeaaW.PrintLast Go.Proofs.YtfhkmokgbndeeaaW.PrintMore
open Go.Proofs.Ytfhkmokgbndeeaa.PC (S68 k68 z68 rd_T68 at_T68 k68_mkM)
attribute [local go_sem] Oper.semAt_some

/-- What the list has to do with the 32 slots, as far as the walks ask. -/
structure RefOf (m : Cp) (l : List S68) : Prop where
  fit : FitL l
  many : ∀ n, manyP n l ≤ 2
  of : ∀ n : Nat, n < 16 → ofL l n = byN m n
set_option maxRecDepth 100000 in
set_option maxHeartbeats 4000000 in
theorem rlist_core (g base : Nat) (ok : Nat → Prop) (v : Value) (l : List S68) (m : Cp) (hf : RefOf m l) (w : World) (hR : RefAt w g base ok v l) :
    Calls Try.prog 20 #[.pointer (some ⟨g, 0, none⟩)] w fun e w' => ∃ v', e = .returned v' ∧ Kd.R k39 39 w' w.heap.size (fun _ => True) v' (devL m (List.range 16)) ∧ Below w.heap.size w w' := by
  go_enter Try.func20, Try.ntmps20
  go_wp2_with (go_in)
  go_loopw [3, 4] (fun v3 v4 wr => ∃ (i : Nat), i ≤ 16 ∧ v4 = .int .i64 i ∧ Kd.R k39 39 wr w.heap.size (fun _ => True) v3 (devL m (List.range i)) ∧ Below w.heap.size w wr)
    (fun _ v4 _ => 16 - (intOf v4).toNat)
  case atStart => exact ⟨0, Nat.zero_le _, rfl, Kd.R_nil _ _ _ _ _, Below.refl _ _⟩
  case round =>
    obtain ⟨i, hi, rfl, hO, hB⟩ := hrel
    by_cases hlt : i < 16
    · have hcl : decide ((i : Int) < 16) = true := decide_eq_true (by omega)
      have fO := rof_core g base ok v l (i : Int) hf.fit (hf.many _)
      rw [hf.of i hlt] at fO
      have hlen := devL_len m (List.range i)
      rw [List.length_range] at hlen
      have h1 := devL_snoc_yes m (List.range i) i
      have h2 := devL_snoc_no m (List.range i) i
      rw [← List.range_succ] at h1 h2
      generalize (byN m i).1 = r1 at fO h1
      generalize (byN m i).2 = r2 at fO h1 h2
      generalize devL m (List.range i) = D at hO hlen h1 h2
      cases r2 with
      | true =>
        have hst := h1 rfl
        clear h1 h2
        go_wp2_with (first
          | (go_at_call 19; (with_reducible refine (fO _ (hR.below hB)).mono ?_); rintro e w5 ⟨rfl, rfl⟩)
          | (at_builtin; refine Kd.R_append k39 (w0 := w) w.heap.size rfl (.tmp 18) (.tmp 22) 35 39 (.agg #[.int .i64 0, .int .i64 0]) 16 rfl under_devs info_dev rfl (by decide) (by omega) _ D ⟨(i : Int), r1⟩ [.int .i64 (i : Int), .int .i64 r1] (fun _ => True) (fun _ => False) rfl ?aX (k39_mkM _ _ _ ⟨(i : Int), r1⟩) (fun _ hk => hk.elim) ?aF hO hB hB.size ?aL ?_; (case aX => first | rfl | (go_simp; done) | (go_simp; rfl) | (simp; done)); (case aF => intro k hk; trivial); (case aL => omega); intro v69 w69 ho hb hg hat))
        exact ⟨⟨i + 1, by omega, by go_num, by rw [hst]; exact ho, hb⟩, by simp [intOf]; omega⟩
      | false =>
        have hst := h2 rfl
        clear h1 h2
        go_wp2_with (go_at_call 19; (with_reducible refine (fO _ (hR.below hB)).mono ?_); rintro e w5 ⟨rfl, rfl⟩)
        exact ⟨⟨i + 1, by omega, by go_num, by rw [hst]; exact hO, hB⟩, by simp [intOf]; omega⟩
    · obtain rfl : i = 16 := by omega
      go_wp2
      go_ret
      exact ⟨_, rfl, hO, hB⟩
set_option maxRecDepth 100000 in
set_option maxHeartbeats 4000000 in
theorem rvalues_core (g base : Nat) (ok : Nat → Prop) (v : Value) (l : List S68) (m : Cp) (own : Int) (hf : RefOf m l) (w : World) (hR : RefAt w g base ok v l) :
    Calls Try.prog 21 #[.pointer (some ⟨g, 0, none⟩), .int .i64 own] w fun e w' => ∃ v', e = .returned v' ∧ Kd.R (Kd.int .i64) 2 w' w.heap.size (fun _ => True) v' (valL m own (List.range 16)) ∧ Below w.heap.size w w' := by
  go_enter Try.func21, Try.ntmps21
  go_wp2_with (go_in)
  go_loopw [5, 6] (fun v5 v6 wr => ∃ (i : Nat), i ≤ 16 ∧ v6 = .int .i64 i ∧ Kd.R (Kd.int .i64) 2 wr w.heap.size (fun _ => True) v5 (valL m own (List.range i)) ∧ Below w.heap.size w wr)
    (fun _ v6 _ => 16 - (intOf v6).toNat)
  case atStart => exact ⟨0, Nat.zero_le _, rfl, Kd.R_nil _ _ _ _ _, Below.refl _ _⟩
  case round =>
    obtain ⟨i, hi, rfl, hO, hB⟩ := hrel
    by_cases hlt : i < 16
    · have hcl : decide ((i : Int) < 16) = true := decide_eq_true (by omega)
      have fO := rof_core g base ok v l (i : Int) hf.fit (hf.many _)
      rw [hf.of i hlt] at fO
      have hlen := valL_len m own (List.range i)
      rw [List.length_range] at hlen
      have h0 := valL_own m own (List.range i) i
      have h1 := valL_yes m own (List.range i) i
      have h2 := valL_no m own (List.range i) i
      rw [← List.range_succ] at h0 h1 h2
      generalize (byN m i).1 = r1 at fO h1
      generalize (byN m i).2 = r2 at fO h1 h2
      generalize valL m own (List.range i) = D at hO hlen h0 h1 h2
      by_cases ho : (i : Int) = own
      · have hob : ((i : Int) == own) = true := by simpa using ho
        have hst := h0 ho
        clear h0 h1 h2 ho
        go_wp2_with (first
          | (go_at_call 19; (with_reducible refine (fO _ (hR.below hB)).mono ?_); rintro e w5 ⟨rfl, rfl⟩)
          | (at_builtin; refine Kd.R_append (Kd.int .i64) (w0 := w) w.heap.size rfl (.tmp 22) (.tmp 23) 37 2 (.int .i64 0) 8 rfl under_ls info_l rfl (by decide) (by omega) _ D 0 [.int .i64 0] (fun _ => True) (fun _ => False) rfl ?aX rfl (fun _ hk => hk.elim) ?aF hO hB hB.size ?aL ?_; (case aX => first | rfl | (go_simp; done) | (go_simp; rfl) | (simp; done)); (case aF => intro k hk; trivial); (case aL => omega); intro v69 w69 ho hb hg hat))
        exact ⟨⟨i + 1, by omega, by go_num, by rw [hst]; exact ho, hb⟩, by simp [intOf]; omega⟩
      · have hob : ((i : Int) == own) = false := by simpa using ho
        cases r2 with
        | true =>
          have hst := h1 ho rfl
          clear h0 h1 h2 ho
          go_wp2_with (first
            | (go_at_call 19; (with_reducible refine (fO _ (hR.below hB)).mono ?_); rintro e w5 ⟨rfl, rfl⟩)
            | (at_builtin; refine Kd.R_append (Kd.int .i64) (w0 := w) w.heap.size rfl (.tmp 26) (.tmp 28) 37 2 (.int .i64 0) 8 rfl under_ls info_l rfl (by decide) (by omega) _ D r1 [.int .i64 r1] (fun _ => True) (fun _ => False) rfl ?aX rfl (fun _ hk => hk.elim) ?aF hO hB hB.size ?aL ?_; (case aX => first | rfl | (go_simp; done) | (go_simp; rfl) | (simp; done)); (case aF => intro k hk; trivial); (case aL => omega); intro v69 w69 ho hb hg hat))
          exact ⟨⟨i + 1, by omega, by go_num, by rw [hst]; exact ho, hb⟩, by simp [intOf]; omega⟩
        | false =>
          have hst := h2 ho rfl
          clear h0 h1 h2 ho
          go_wp2_with (go_at_call 19; (with_reducible refine (fO _ (hR.below hB)).mono ?_); rintro e w5 ⟨rfl, rfl⟩)
          exact ⟨⟨i + 1, by omega, by go_num, by rw [hst]; exact hO, hB⟩, by simp [intOf]; omega⟩
    · obtain rfl : i = 16 := by omega
      go_wp2
      go_ret
      exact ⟨_, rfl, hO, hB⟩
end Go.Proofs.Ytfhkmokgbndeeaa.Hand
