/- The reference's Forget and Clear. -/
import Derived.Test.YtfhkmokgbndeeaaHandRef3
set_option linter.unusedVariables false
set_option linter.unusedSimpArgs false
namespace Go.Proofs.Ytfhkmokgbndeeaa.Hand
open Go.RowKit Go.Proofs.Ytfhkmokgbndeeaa.Cap Go.Proofs.Ytfhkmokgbndeeaa.PA Go.Proofs.Ytfhkmokgbndeeaa.PB Go.Proofs.YtfhkmokgbndeeaaW.PrintWords Go.Proofs.YtfhkmokgbndeeaaW.PrintLast Go.Proofs.YtfhkmokgbndeeaaW.PrintMore
open Go.Proofs.Ytfhkmokgbndeeaa.PC (S68 k68 z68 rd_T68 at_T68 k68_mkM)
attribute [local go_sem] Oper.semAt_some

theorem refIs_of {m : Cp} {l : List S68} (h : RefIs m l) (n : Int) : ofL l n = ofR m n := by
  by_cases hn : 0 ≤ n ∧ n < 16
  · obtain ⟨k, rfl⟩ := Int.eq_ofNat_of_zero_le hn.1
    rw [h.of k (by omega), of_nat m k (by omega)]
    rfl
  · have e : l.filter (fun x => x.f0 == n) = [] := by
      rw [List.filter_eq_nil_iff]
      intro x hx
      have := okN_b (h.ok x hx)
      simp only [beq_iff_eq]
      omega
    unfold ofL manyP ofR
    rw [e, if_neg hn]
    rfl
def but (n : Int) (l : List S68) : List S68 := l.filter (fun x => !(x.f0 == n))
theorem but_snoc (n : Int) (l : List S68) (x : S68) : but n (l ++ [x]) = if x.f0 = n then but n l else but n l ++ [x] := by
  unfold but
  rw [List.filter_append]
  by_cases h : x.f0 = n <;> simp [h]
theorem but_len (n : Int) (l : List S68) : (but n l).length ≤ l.length := List.length_filter_le _ _
theorem refAt_new {w wr : World} {g base : Nat} {ok : Nat → Prop} {v : Value} {l : List S68} (hR : RefAt w g base ok v l) (hok : ∀ k, w.heap.size ≤ k → ok k) (hbg : base ≤ g) (hB : Below w.heap.size w wr) {v' : Value} {l' : List S68} (hO : Kd.R k68 68 wr w.heap.size (fun _ => True) v' l') :
    RefAt (wr.setCell ⟨g, 0, none⟩ v') g base ok v' l' ∧ Below base w (wr.setCell ⟨g, 0, none⟩ v') ∧ Keeps ok g w (wr.setCell ⟨g, 0, none⟩ v') := by
  have hgl := hR.lt
  have hby := blk_below hR.blk hB
  refine ⟨⟨blk_put hby 0 _ rfl, Kd.R_far (p := ⟨g, 0, none⟩) (Kd.R_lower (Kd.R_mono (Kd.R_bound hO) (fun k hk => hok k hk.2.1)) (by omega)) (fun k hk e => hR.ne ((show k = g from e) ▸ hk)) _, hR.ne⟩, (hB.mono (by omega)).setCell hbg _, fun k hk hkg hko => (Below.heap_setCell _ _ _ k (fun e => hkg e)).trans (hB.block k hk)⟩
set_option maxRecDepth 100000 in
set_option maxHeartbeats 4000000 in
theorem rforget_core (g base : Nat) (ok : Nat → Prop) (v : Value) (l : List S68) (m : Cp) (n : Int) (hI : RefIs m l) (w : World) (hok : ∀ k, w.heap.size ≤ k → ok k) (hbg : base ≤ g) (hR : RefAt w g base ok v l) :
    Calls Try.prog 28 #[.pointer (some ⟨g, 0, none⟩), .int .i64 n] w fun e w' => e = .returned (.bool (ofR m n).2) ∧ (∃ v' l', RefAt w' g base ok v' l' ∧ RefIs (forgetM m n) l') ∧ Below base w w' ∧ Keeps ok g w w' := by
  obtain ⟨A, c, rfl⟩ := Kd.R_slice hR.row
  have hrd := (Kd.R_reads' hR.row).2.2
  have hl := hI.length
  have hgl := hR.lt
  have fO := rof_core g base ok (.slice A l.length c) l n hI.fit (hI.toOf.many n)
  rw [refIs_of hI n] at fO
  have hdr := hI.drop n
  generalize (ofR m n).2 = r2 at fO ⊢
  generalize (ofR m n).1 = r1 at fO
  go_enter Try.func28, Try.ntmps28
  go_upto_region 2 with (go_at_call 19; (with_reducible refine (fO _ hR).mono ?_); rintro e w5 ⟨rfl, rfl⟩)
  go_wp2_with (go_in)
  go_loopw [7, 8] (fun v7 v8 wr => ∃ (i : Nat), i ≤ l.length ∧ v8 = .int .i64 i ∧ Kd.R k68 68 wr w5.heap.size (fun _ => True) v7 (but n (l.take i)) ∧ Below w5.heap.size w5 wr)
    (fun _ v8 _ => l.length - (intOf v8).toNat)
  case atStart => exact ⟨0, Nat.zero_le _, rfl, Kd.R_nil _ _ _ _ _, Below.refl _ _⟩
  case round =>
    obtain ⟨i, hi, rfl, hO, hB⟩ := hrel
    have hc0 : wr.cell? ⟨g, 0, none⟩ = some (.slice A l.length c) := (blk_cell (blk_below hR.blk hB) 0).trans rfl
    have hf0 := blk_frozen (blk_below hR.blk hB) 0
    by_cases hlt : i < l.length
    · have hcl : decide ((i : Int) < (l.length : Int)) = true := decide_eq_true (by omega)
      have p1 : 0 ≤ (i : Int) := by omega
      have q1 : (i : Int) < (l.length : Int) := by omega
      obtain ⟨ad, ead, hx0, hx1, hx2⟩ := at_T68 (Kd.C_below hrd hB) (i : Int) p1 q1
      cases ead
      rw [Int.toNat_natCast] at hx0 hx1 hx2
      have hst : but n (l.take (i + 1)) = if (rd_T68 l (i : Int)).f0 = n then but n (l.take i) else but n (l.take i) ++ [rd_T68 l (i : Int)] := by
        rw [List.take_succ_eq_append_getElem hlt, but_snoc]
        simp [rd_T68, hlt]
      have hlen : (but n (l.take i)).length ≤ 32 := by have := but_len n (l.take i); have := List.length_take_le i l; omega
      generalize rd_T68 l (i : Int) = o at hx0 hx1 hx2 hst
      generalize but n (l.take i) = D at hO hst hlen
      obtain ⟨o0, o1, o2⟩ := o
      simp only at hx0 hx1 hx2 hst
      replace p1 := eq_true p1
      replace q1 := eq_true q1
      by_cases hq : o0 = n
      · have hqb : (o0 == n) = true := by simpa using hq
        rw [if_pos hq] at hst
        clear hq
        go_wp2
        exact ⟨⟨i + 1, by omega, by go_num, by rw [hst]; exact hO, hB⟩, by simp [intOf]; omega⟩
      · have hqb : (o0 == n) = false := by simpa using hq
        rw [if_neg hq] at hst
        clear hq
        obtain ⟨A7, c7, rfl⟩ := Kd.R_slice hO
        have hBs := hB.size
        go_wp2_with (at_builtin; refine Kd.R_append k68 (w0 := w5) w5.heap.size rfl (.tmp 34) (.tmp 42) 52 68 (.agg #[.int .i64 0, .int .i64 0, .int .i64 0]) 24 ?b1 ?b2 ?b3 ?b4 ?a1 ?a2 (.slice A7 D.length c7) D ⟨o0, o1, o2⟩ [.int .i64 o0, .int .i64 o1, .int .i64 o2] (fun _ => True) (fun _ => False) ?a3 ?aX ?aP ?a4 ?aF ?aR ?aB ?aS ?aL ?_; (case b1 => exact rfl); (case b2 => exact under_ones); (case b4 => exact rfl); (case b3 => exact info_one); (case a1 => decide); (case a2 => omega); (case a3 => exact rfl); (case aP => exact (k68_mkM _ _ _ ⟨o0, o1, o2⟩)); (case a4 => exact (fun _ hk => hk.elim)); (case aF => exact (fun _ _ => trivial)); (case aR => exact hO); (case aB => exact hB); (case aX => first | rfl | (go_simp; done) | (go_simp; rfl) | (simp; done)); (case aS => exact hBs); (case aL => omega); intro v69 w69 ho hb hg hat)
        exact ⟨⟨i + 1, by omega, by go_num, by rw [hst]; exact ho, hb⟩, by simp [intOf]; omega⟩
    · obtain rfl : i = l.length := by omega
      have hcl : decide ((l.length : Int) < (l.length : Int)) = false := decide_eq_false (by omega)
      rw [List.take_length] at hO
      obtain ⟨A7, c7, rfl⟩ := Kd.R_slice hO
      have hN := refAt_new hR hok hbg hB hO
      go_wp2
      go_ret
      exact ⟨rfl, ⟨_, _, hN.1, hdr⟩, hN.2.1, hN.2.2⟩
theorem rclear_core (g base : Nat) (ok : Nat → Prop) (v : Value) (l : List S68) (m : Cp) (hI : RefIs m l) (w : World) (hok : ∀ k, w.heap.size ≤ k → ok k) (hbg : base ≤ g) (hR : RefAt w g base ok v l) :
    Calls Try.prog 29 #[.pointer (some ⟨g, 0, none⟩)] w fun e w' => e = .returned (.int .i64 ((devL m (List.range 16)).length : Int)) ∧ (∃ v' l', RefAt w' g base ok v' l' ∧ RefIs none32 l') ∧ Below base w w' ∧ Keeps ok g w w' := by
  go_enter Try.func29, Try.ntmps29
  go_upto_region 2 with (go_at_call 20; (with_reducible refine (rlist_core g base ok v l m hI.toOf _ hR).mono ?_); rintro e w5 ⟨v5, rfl, hO, hB⟩; obtain ⟨A5, c5, rfl⟩ := Kd.R_slice hO)
  have hc0 : w5.cell? ⟨g, 0, none⟩ = some v := (blk_cell (blk_below hR.blk hB) 0).trans rfl
  have hf0 := blk_frozen (blk_below hR.blk hB) 0
  have hN := refAt_new hR hok hbg hB (Kd.R_nil k68 68 w5 w.heap.size (fun _ => True))
  obtain ⟨A, c, rfl⟩ := Kd.R_slice hR.row
  go_wp2
  go_ret
  exact ⟨rfl, ⟨_, _, hN.1, none_refIs⟩, hN.2.1, hN.2.2⟩
end Go.Proofs.Ytfhkmokgbndeeaa.Hand
