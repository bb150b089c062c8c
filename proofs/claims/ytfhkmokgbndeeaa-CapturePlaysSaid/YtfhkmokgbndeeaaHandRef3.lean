/- The reference's Note, Forget, Clear. -/
import Derived.Test.YtfhkmokgbndeeaaHandRefIs
set_option linter.unusedVariables false
set_option linter.unusedSimpArgs false
namespace Go.Proofs.Ytfhkmokgbndeeaa.Hand
open Go.RowKit Go.Proofs.Ytfhkmokgbndeeaa.Cap Go.Proofs.Ytfhkmokgbndeeaa.PA Go.Proofs.Ytfhkmokgbndeeaa.PB Go.Proofs.YtfhkmokgbndeeaaW.PrintWords Go.Proofs.YtfhkmokgbndeeaaW.PrintLast Go.Proofs.YtfhkmokgbndeeaaW.PrintMore
open Go.Proofs.Ytfhkmokgbndeeaa.PC (S68 k68 z68 rd_T68 at_T68 k68_mkM)
attribute [local go_sem] Oper.semAt_some

def Keeps (ok : Nat → Prop) (g : Nat) (w w' : World) : Prop := ∀ k, k < w.heap.size → k ≠ g → ¬ ok k → w'.heap[k]? = w.heap[k]?
theorem Keeps.refl (ok : Nat → Prop) (g : Nat) (w : World) : Keeps ok g w w := fun _ _ _ _ => rfl
theorem info_one : (Try.prog.info? 68).map (fun i => (i.zero, i.size, i.bytes)) = some (some (.agg #[.int .i64 0, .int .i64 0, .int .i64 0]), 3, 24) := by kernel_rfl
theorem under_ones : Try.prog.underlying 52 = some (.slice 68) := by kernel_rfl
theorem rnote_no (g : Nat) (n ch by_ : Int) (w : World) (h : okN n ch by_ = false) : Calls Try.prog 27 #[.pointer (some ⟨g, 0, none⟩), .int .i64 n, .int .i64 ch, .int .i64 by_] w fun e w' => e = .returned (.int .i64 130) ∧ w' = w := by
  by_cases h1 : n < 0
  · have h1b : decide (n < 0) = true := decide_eq_true h1
    go_enter Try.func27, Try.ntmps27
    go_wp2
    go_ret
    exact ⟨rfl, rfl⟩
  have h1b : decide (n < 0) = false := decide_eq_false h1
  by_cases h2 : 15 < n
  · have h2b : decide (15 < n) = true := decide_eq_true h2
    go_enter Try.func27, Try.ntmps27
    go_wp2
    go_ret
    exact ⟨rfl, rfl⟩
  have h2b : decide (15 < n) = false := decide_eq_false h2
  by_cases h3 : ch < 0
  · have h3b : decide (ch < 0) = true := decide_eq_true h3
    go_enter Try.func27, Try.ntmps27
    go_wp2
    go_ret
    exact ⟨rfl, rfl⟩
  have h3b : decide (ch < 0) = false := decide_eq_false h3
  by_cases h4 : 1 < ch
  · have h4b : decide (1 < ch) = true := decide_eq_true h4
    go_enter Try.func27, Try.ntmps27
    go_wp2
    go_ret
    exact ⟨rfl, rfl⟩
  have h4b : decide (1 < ch) = false := decide_eq_false h4
  by_cases h5 : by_ < -4294967296
  · have h5b : decide (by_ < -4294967296) = true := decide_eq_true h5
    go_enter Try.func27, Try.ntmps27
    go_wp2
    go_ret
    exact ⟨rfl, rfl⟩
  have h5b : decide (by_ < -4294967296) = false := decide_eq_false h5
  by_cases h6 : 4294967296 < by_
  · have h6b : decide (4294967296 < by_) = true := decide_eq_true h6
    go_enter Try.func27, Try.ntmps27
    go_wp2
    go_ret
    exact ⟨rfl, rfl⟩
  exfalso
  have : okN n ch by_ = true := by simp [okN]; omega
  rw [this] at h
  cases h
set_option maxRecDepth 100000 in
set_option maxHeartbeats 4000000 in
theorem rnote_yes (g base : Nat) (ok : Nat → Prop) (v : Value) (l : List S68) (m : Cp) (n ch by_ : Int) (hI : RefIs m l) (ho : okN n ch by_ = true) (w : World) (hok : ∀ k, w.heap.size ≤ k → ok k) (hbg : base ≤ g) (hR : RefAt w g base ok v l) :
    Calls Try.prog 27 #[.pointer (some ⟨g, 0, none⟩), .int .i64 n, .int .i64 ch, .int .i64 by_] w fun e w' => e = .returned (.int .i64 (noteE m n ch by_)) ∧ (∃ v' l', RefAt w' g base ok v' l' ∧ RefIs (noteM m n ch by_) l') ∧ Below base w w' ∧ Keeps ok g w w' := by
  obtain ⟨A, c, rfl⟩ := Kd.R_slice hR.row
  have hc0 : w.cell? ⟨g, 0, none⟩ = some (.slice A l.length c) := (blk_cell hR.blk 0).trans rfl
  have hrd := (Kd.R_reads' hR.row).2.2
  have hl := hI.length
  have hgl := hR.lt
  have hb := okN_b ho
  have h1b : decide (n < 0) = false := decide_eq_false (by omega)
  have h2b : decide (15 < n) = false := decide_eq_false (by omega)
  have h3b : decide (ch < 0) = false := decide_eq_false (by omega)
  have h4b : decide (1 < ch) = false := decide_eq_false (by omega)
  have h5b : decide (by_ < -4294967296) = false := decide_eq_false (by omega)
  have h6b : decide (4294967296 < by_) = false := decide_eq_false (by omega)
  have hadd := fun hno => hI.add (n := n) (c := ch) (b := by_) ho hno
  have hhas := fun x hx => hI.has (x := x) hx (n := n) (c := ch) (b := by_)
  clear hb ho
  go_enter Try.func27, Try.ntmps27
  go_wp2_with (go_in)
  go_loopw [9] (fun v9 wr => ∃ (i : Nat), i ≤ l.length ∧ v9 = .int .i64 i ∧ (∀ x ∈ l.take i, ¬ (x.f0 = n ∧ x.f1 = ch)) ∧ wr = w)
    (fun v9 _ => l.length - (intOf v9).toNat)
  case atStart => exact ⟨0, Nat.zero_le _, rfl, by simp, rfl⟩
  case round =>
    obtain ⟨i, hi, rfl, hno, rfl⟩ := hrel
    by_cases hlt : i < l.length
    · have hcl : decide ((i : Int) < (l.length : Int)) = true := decide_eq_true (by omega)
      have p1 : 0 ≤ (i : Int) := by omega
      have q1 : (i : Int) < (l.length : Int) := by omega
      obtain ⟨ad, ead, hx0, hx1, hx2⟩ := at_T68 hrd (i : Int) p1 q1
      cases ead
      rw [Int.toNat_natCast] at hx0 hx1 hx2
      have hmem : rd_T68 l (i : Int) ∈ l := by
        have : rd_T68 l (i : Int) = l[i] := by simp [rd_T68, hlt]
        rw [this]
        exact List.getElem_mem hlt
      have hst : ¬ ((rd_T68 l (i : Int)).f0 = n ∧ (rd_T68 l (i : Int)).f1 = ch) → ∀ x ∈ l.take (i + 1), ¬ (x.f0 = n ∧ x.f1 = ch) := by
        intro q x hx
        rw [List.take_succ_eq_append_getElem hlt] at hx
        rcases List.mem_append.1 hx with hx | hx
        · exact hno x hx
        · have e : rd_T68 l (i : Int) = l[i] := by simp [rd_T68, hlt]
          simp at hx
          rw [hx, ← e]
          exact q
      have hh := hhas _ hmem
      generalize rd_T68 l (i : Int) = o at hx0 hx1 hx2 hst hh
      obtain ⟨o0, o1, o2⟩ := o
      simp only at hx0 hx1 hx2 hst hh
      clear hhas hadd hno hmem
      replace p1 := eq_true p1
      replace q1 := eq_true q1
      by_cases e1 : o0 = n
      · have e1b : (o0 == n) = true := by simpa using e1
        by_cases e2 : o1 = ch
        · have e2b : (o1 == ch) = true := by simpa using e2
          obtain ⟨hE, hM⟩ := hh e1 e2
          clear hh hst e1 e2
          go_wp2
          go_ret
          rw [hE, hM]
          exact ⟨rfl, ⟨_, l, hR, hI⟩, Below.refl _ _, Keeps.refl _ _ _⟩
        · have e2b : (o1 == ch) = false := by simpa using e2
          have hst' := hst (fun q => e2 q.2)
          clear hh hst e1 e2
          go_wp2
          exact ⟨⟨i + 1, by omega, by go_num, hst', trivial⟩, by simp [intOf]; omega⟩
      · have e1b : (o0 == n) = false := by simpa using e1
        have hst' := hst (fun q => e1 q.1)
        clear hh hst e1
        go_wp2
        exact ⟨⟨i + 1, by omega, by go_num, hst', trivial⟩, by simp [intOf]; omega⟩
    · obtain rfl : i = l.length := by omega
      have hcl : decide ((l.length : Int) < (l.length : Int)) = false := decide_eq_false (by omega)
      rw [List.take_length] at hno
      obtain ⟨hE, hM⟩ := hadd hno
      clear hadd hhas hno
      have hne : some g ≠ (Value.slice A l.length c).ownBlock := fun q => hR.ne (hR.row.1 g q.symm)
      have hok' := Lib.hid hok
      clear hok
      go_wp2_with (at_builtin; refine Kd.R_append k68 (w0 := wr) base rfl (.tmp 67) (.tmp 72) 52 68 (.agg #[.int .i64 0, .int .i64 0, .int .i64 0]) 24 ?b1 ?b2 ?b3 ?b4 ?a1 ?a2 (.slice A l.length c) l ⟨n, ch, by_⟩ [.int .i64 n, .int .i64 ch, .int .i64 by_] ok (fun _ => False) ?a3 ?aX ?aP ?a4 ?aF ?aR ?aB ?aS ?aL ?_; (case b1 => exact rfl); (case b2 => exact under_ones); (case b4 => exact rfl); (case b3 => exact info_one); (case a1 => decide); (case a2 => omega); (case a3 => exact rfl); (case aP => exact (k68_mkM _ _ _ ⟨n, ch, by_⟩)); (case a4 => exact (fun _ hk => hk.elim)); (case aF => exact hok'.out); (case aR => exact hR.row); (case aB => exact (Below.refl _ _)); (case aX => first | rfl | (go_simp; done) | (go_simp; rfl) | (simp; done)); (case aS => omega); (case aL => omega); intro v69 w69 ho hb hg hat; obtain ⟨A9, c9, rfl⟩ := Kd.R_slice ho; have hby := blk_grown hR.blk hg hne; have hc9 : w69.cell? ⟨g, 0, none⟩ = some (.slice A l.length c) := (blk_cell hby 0).trans rfl; have hf9 := blk_frozen hby 0)
      go_ret
      rw [hE]
      rw [List.length_append, List.length_singleton] at ho
      refine ⟨rfl, ⟨_, _, ⟨blk_put hby 0 _ rfl, Kd.R_far (p := ⟨g, 0, none⟩) ho (fun k hk e => hR.ne ((show k = g from e) ▸ hk)) _, hR.ne⟩, hM⟩, hb.setCell hbg _, fun k hk hkg hko => (Below.heap_setCell _ _ _ k (fun e => hkg e)).trans (hg.block k hk (fun q => hko (hR.row.1 k q.symm)))⟩
theorem rnote_core (g base : Nat) (ok : Nat → Prop) (v : Value) (l : List S68) (m : Cp) (n ch by_ : Int) (hI : RefIs m l) (w : World) (hok : ∀ k, w.heap.size ≤ k → ok k) (hbg : base ≤ g) (hR : RefAt w g base ok v l) :
    Calls Try.prog 27 #[.pointer (some ⟨g, 0, none⟩), .int .i64 n, .int .i64 ch, .int .i64 by_] w fun e w' => e = .returned (.int .i64 (noteE m n ch by_)) ∧ (∃ v' l', RefAt w' g base ok v' l' ∧ RefIs (noteM m n ch by_) l') ∧ Below base w w' ∧ Keeps ok g w w' := by
  cases ho : okN n ch by_ with
  | true => exact rnote_yes g base ok v l m n ch by_ hI ho w hok hbg hR
  | false =>
    refine (rnote_no g n ch by_ w ho).mono ?_
    rintro e w' ⟨rfl, rfl⟩
    unfold noteE noteM
    rw [if_neg (by rw [ho]; simp), if_neg (by rw [ho]; simp)]
    exact ⟨rfl, ⟨v, l, hR, hI⟩, Below.refl _ _, Keeps.refl _ _ _⟩
end Go.Proofs.Ytfhkmokgbndeeaa.Hand
