/- Plain facts on where events lead. -/
import Derived.Test.YtbbiihifhdcniaaDoorPAx1
import Derived.Test.YtbbiihifhdcniaaDoorPAx2
import Derived.Test.YtbbiihifhdcniaaDoorPAx4
import Derived.Test.YtbbiihifhdcniaaDoorHandNames20
import Derived.Test.YtbbiihifhdcniaaDoorHandMayD
import Derived.Test.YtbbiihifhdcniaaDoorHandEvents
set_option linter.unusedVariables false
set_option linter.unusedSimpArgs false
namespace Go.Proofs.YtbbiihifhdcniaaDoor.Pure
set_option maxRecDepth 100000
open Go.RowKit Go.Proofs.YtbbiihifhdcniaaDoor.Hand Go.Proofs.YtbbiihifhdcniaaDoor.PA Go.Proofs.YtbbiihifhdcniaaDoorW.PrintWords Go.Proofs.YtbbiihifhdcniaaDoorW.PrintLast

theorem fitI_iff (n : Int) : fitI n ↔ -9223372036854775808 ≤ n ∧ n ≤ 9223372036854775807 := by
  unfold fitI
  rw [show (Lit.int .i64 n).wf = (decide (IntKind.i64.min ≤ n) && decide (n ≤ IntKind.i64.max)) from rfl]
  rw [show IntKind.i64.min = -9223372036854775808 by decide, show IntKind.i64.max = 9223372036854775807 by decide]
  simp
theorem w_id {n : Int} (h : -9223372036854775808 ≤ n) (h' : n ≤ 9223372036854775807) : wrap64 n = n := by
  unfold wrap64
  omega
theorem nextO_out {s e : Int} (h : ¬ (0 ≤ s ∧ s < 7 ∧ 0 ≤ e ∧ e < 10)) : nextO s e = none := by
  unfold nextO
  repeat rw [if_neg (by omega)]
theorem nextO_fin : ∀ s : Fin 7, ∀ e : Fin 10, (nextO (s.1 : Int) (e.1 : Int)).all (fun t => decide (0 ≤ t ∧ t < 7)) = true := by decide
theorem nextO_range {s e t : Int} (h : nextO s e = some t) : 0 ≤ t ∧ t < 7 := by
  by_cases hd : 0 ≤ s ∧ s < 7 ∧ 0 ≤ e ∧ e < 10
  · obtain ⟨a, b, c, d⟩ := hd
    obtain ⟨x, rfl⟩ := Int.eq_ofNat_of_zero_le a
    obtain ⟨y, rfl⟩ := Int.eq_ofNat_of_zero_le c
    have := nextO_fin ⟨x, by omega⟩ ⟨y, by omega⟩
    simp only [h] at this
    simpa using this
  · rw [nextO_out hd] at h
    cases h
/-- The states to which events lead. -/
def runL : Int → List Int → List Int
  | _, [] => []
  | s, e :: t => match nextO s e with
    | none => []
    | some n => n :: runL n t
def lastS (s : Int) (l : List Int) : Int := l.getLast?.getD s
theorem runL_len : ∀ (l : List Int) (s : Int), (runL s l).length ≤ l.length
  | [], s => Nat.le_refl _
  | e :: t, s => by
    unfold runL
    cases h : nextO s e with
    | none => simp
    | some n => simpa using runL_len t n
theorem lastS_cons (s n : Int) (l : List Int) : lastS s (n :: l) = lastS n l := by
  simp [lastS, List.getLast?_cons]
theorem runL_range : ∀ (l : List Int) (s x : Int), x ∈ runL s l → 0 ≤ x ∧ x < 7
  | [], s, x, h => by cases h
  | e :: t, s, x, h => by
    unfold runL at h
    cases hn : nextO s e with
    | none => rw [hn] at h; cases h
    | some n =>
      rw [hn] at h
      rcases List.mem_cons.1 h with rfl | h
      · exact nextO_range hn
      · exact runL_range t n x h
theorem lastS_range {s : Int} (hs : 0 ≤ s ∧ s < 7) {l : List Int} (h : ∀ x ∈ l, 0 ≤ x ∧ x < 7) : 0 ≤ lastS s l ∧ lastS s l < 7 := by
  unfold lastS
  cases hl : l.getLast? with
  | none => exact hs
  | some x => exact h x (List.mem_of_getLast? hl)
theorem runL_split : ∀ (l : List Int) (s : Int) (k : Nat), k ≤ l.length → runL s l = if (runL s (l.take k)).length < k then runL s (l.take k) else runL s (l.take k) ++ runL (lastS s (runL s (l.take k))) (l.drop k)
  | [], s, k, h => by
    obtain rfl : k = 0 := by simpa using h
    simp [runL]
  | e :: t, s, 0, h => by simp [runL, lastS]
  | e :: t, s, k + 1, h => by
    have ih := fun n => runL_split t n k (by simpa using h)
    simp only [List.take_succ_cons, List.drop_succ_cons]
    have e1 : ∀ t', runL s (e :: t') = match nextO s e with | none => [] | some n => n :: runL n t' := fun _ => rfl
    rw [e1, e1]
    cases hn : nextO s e with
    | none => simp
    | some n =>
      simp only [List.length_cons, Nat.add_lt_add_iff_right, lastS_cons]
      rw [ih n]
      by_cases hc : (runL n (List.take k t)).length < k
      · rw [if_pos hc, if_pos hc]
      · rw [if_neg hc, if_neg hc]; rfl
theorem runL_stop : ∀ (l : List Int) (s : Int), (runL s l).length < l.length → nextO (lastS s (runL s l)) (l.getD (runL s l).length 0) = none
  | [], s, h => by simp [runL] at h
  | e :: t, s, h => by
    unfold runL at h ⊢
    cases hn : nextO s e with
    | none => simpa [lastS] using hn
    | some n =>
      rw [hn] at h
      simp only [List.length_cons, lastS_cons, List.getD_cons_succ]
      exact runL_stop t n (by simpa using h)
theorem fit_small {s : Int} (h : 0 ≤ s ∧ s < 7) : fitI s := (fitI_iff s).2 (by omega)
theorem run_l0 (l : List Int) (hl : l.length ≤ 1000) (hf : ∀ x ∈ l, fitI x) : ∀ (d : Nat) (s : Int) (acc : List Int) (i k : Nat), fitI s → acc.length ≤ 1000 - d → l.length - i = d → i ≤ l.length → d < k →
    protocol_Run.l0 k s acc l (l.length : Int) (i : Int) = some (acc ++ runL s (l.drop i), ((acc ++ runL s (l.drop i)).length : Int)) := by
  intro d
  induction d with
  | zero =>
    intro s acc i k hs ha hd hi hk
    obtain ⟨k, rfl⟩ : ∃ j, k = j + 1 := ⟨k - 1, by omega⟩
    have : i = l.length := by omega
    subst this
    unfold protocol_Run.l0
    rw [if_neg (by omega)]
    simp [runL]
  | succ d ih =>
    intro s acc i k hs ha hd hi hk
    obtain ⟨k, rfl⟩ : ∃ j, k = j + 1 := ⟨k - 1, by omega⟩
    have hlt : i < l.length := by omega
    unfold protocol_Run.l0
    rw [if_pos (by omega), if_pos (by omega), if_pos (by omega)]
    have hrd : rd l (i : Int) = l[i] := by simp [rd, hlt]
    rw [hrd, List.drop_eq_getElem_cons hlt]
    have hfe := hf l[i] (List.getElem_mem hlt)
    have hN : protocol_Next.f s l[i] = some (nextR s l[i]) := by unfold protocol_Next.f; rw [if_pos ⟨hs, hfe⟩]
    rw [hN]
    simp only [Option.bind_some, nextR]
    unfold runL
    cases hn : nextO s l[i] with
    | none => simp
    | some n =>
      have hr := nextO_range hn
      simp only [if_true]
      rw [if_pos (by omega), w_id (by omega) (by omega)]
      have := ih n (acc ++ [n]) (i + 1) k (fit_small hr) (by simp; omega) (by omega) (by omega) (by omega)
      rw [show ((i : Int) + 1) = ((i + 1 : Nat) : Int) by omega, this]
      simp
theorem run_eq (l : List Int) (hl : l.length ≤ 1000) (hf : ∀ x ∈ l, fitI x) (s : Int) (hs : fitI s) (k : Nat) (hk : l.length < k) : protocol_Run.f k s l = some (runL s l, ((runL s l).length : Int)) := by
  unfold protocol_Run.f
  have := run_l0 l hl hf l.length s [] 0 k hs (by simp) (by omega) (by omega) hk
  simpa using this
theorem same_l0 (a : List Int) (ha : a.length ≤ 100000) : ∀ (d i k : Nat), a.length - i = d → i ≤ a.length → d < k → vespersref20_Same.l0 k a a (i : Int) = some true := by
  intro d
  induction d with
  | zero =>
    intro i k hd hi hk
    obtain ⟨k, rfl⟩ : ∃ j, k = j + 1 := ⟨k - 1, by omega⟩
    unfold vespersref20_Same.l0
    rw [if_neg (by omega)]
  | succ d ih =>
    intro i k hd hi hk
    obtain ⟨k, rfl⟩ : ∃ j, k = j + 1 := ⟨k - 1, by omega⟩
    unfold vespersref20_Same.l0
    rw [if_pos (by omega), if_pos (by omega), if_pos (by omega), if_pos rfl, w_id (by omega) (by omega)]
    exact ih (i + 1) k (by omega) (by omega) (by omega)
theorem same_eq (a b : List Int) (h : a = b) (ha : a.length ≤ 100000) (k : Nat) (hk : a.length < k) : vespersref20_Same.f k a b = some true := by
  subst h
  unfold vespersref20_Same.f
  rw [if_pos rfl]
  exact same_l0 a ha a.length 0 k (by omega) (by omega) hk
/-! ### the document's answers -/
theorem rnext_fin : ∀ s : Fin 7, ∀ e : Fin 10, vespersref20_Next.f 4 (s.1 : Int) (e.1 : Int) = some (nextR (s.1 : Int) (e.1 : Int)) := by decide
theorem rnext4 (s e : Int) : vespersref20_Next.f 4 s e = some (nextR s e) := by
  by_cases hd : 0 ≤ s ∧ s < 7 ∧ 0 ≤ e ∧ e < 10
  · obtain ⟨a, b, c, d⟩ := hd
    obtain ⟨x, rfl⟩ := Int.eq_ofNat_of_zero_le a
    obtain ⟨y, rfl⟩ := Int.eq_ofNat_of_zero_le c
    exact rnext_fin ⟨x, by omega⟩ ⟨y, by omega⟩
  · have hn := nextO_out hd
    have hr : nextR s e = (0, 200) := by unfold nextR; rw [hn]
    rw [hr]
    by_cases hs : s < 0 ∨ 6 < s
    · have e0 : ¬ s = 0 := by omega
      have e1 : ¬ s = 1 := by omega
      have e2 : ¬ s = 2 := by omega
      have e3 : ¬ s = 3 := by omega
      have e4 : ¬ s = 4 := by omega
      have e6 : ¬ s = 6 := by omega
      have g7 : ¬ (0 < s ∧ s < 7) := by omega
      have g6 : ¬ (0 < s ∧ s < 6) := by omega
      by_cases h0 : 0 < s
      · have h7 : ¬ s < 7 := by omega
        have h6 : ¬ s < 6 := by omega
        simp [vespersref20_Next.f, vespersref20_Next.j0, vespersref20_Next.j1, vespersref20_Next.j2, h0, h7, h6, e0, e1, e2, e3, e4, e6]
      · simp [vespersref20_Next.f, vespersref20_Next.j0, vespersref20_Next.j1, vespersref20_Next.j2, h0, e0, e1, e2, e3, e4, e6]
    · have he : e < 0 ∨ 9 < e := by omega
      have f0 : ¬ e = 0 := by omega
      have f1 : ¬ e = 1 := by omega
      have f2 : ¬ e = 2 := by omega
      have f3 : ¬ e = 3 := by omega
      have f4 : ¬ e = 4 := by omega
      have f5 : ¬ e = 5 := by omega
      have f6 : ¬ e = 6 := by omega
      have f7 : ¬ e = 7 := by omega
      have f8 : ¬ e = 8 := by omega
      have f9 : ¬ e = 9 := by omega
      have hs7 : s = 0 ∨ s = 1 ∨ s = 2 ∨ s = 3 ∨ s = 4 ∨ s = 5 ∨ s = 6 := by omega
      rcases hs7 with rfl | rfl | rfl | rfl | rfl | rfl | rfl <;> simp [vespersref20_Next.f, vespersref20_Next.j0, vespersref20_Next.j1, vespersref20_Next.j2, f0, f1, f2, f3, f4, f5, f6, f7, f8, f9]
theorem rnext_eq (s e : Int) (k : Nat) (hk : 4 ≤ k) : vespersref20_Next.f k s e = some (nextR s e) := at_rounds (fun k => vespersref20_Next.mono s e k) hk (rnext4 s e)
theorem rrun_l0 (l : List Int) (hl : l.length ≤ 1000) : ∀ (d : Nat) (s : Int) (acc : List Int) (i k : Nat), acc.length = i → l.length - i = d → i ≤ l.length → d + 5 < k →
    vespersref20_Run.l0 k s l acc (i : Int) = some (acc ++ runL s (l.drop i), ((acc ++ runL s (l.drop i)).length : Int)) := by
  intro d
  induction d with
  | zero =>
    intro s acc i k ha hd hi hk
    obtain ⟨k, rfl⟩ : ∃ j, k = j + 1 := ⟨k - 1, by omega⟩
    have : i = l.length := by omega
    unfold vespersref20_Run.l0
    rw [if_neg (by omega)]
    rw [List.drop_eq_nil_of_le (by omega)]
    simp [runL]
    omega
  | succ d ih =>
    intro s acc i k ha hd hi hk
    obtain ⟨k, rfl⟩ : ∃ j, k = j + 1 := ⟨k - 1, by omega⟩
    have hlt : i < l.length := by omega
    unfold vespersref20_Run.l0
    rw [if_pos (by omega), if_pos (by omega)]
    have hrd : rd l (i : Int) = l[i] := by simp [rd, hlt]
    rw [hrd, List.drop_eq_getElem_cons hlt, rnext_eq _ _ _ (by omega)]
    simp only [Option.bind_some, nextR]
    unfold runL
    cases hn : nextO s l[i] with
    | none => simp; omega
    | some n =>
      simp only [if_true]
      rw [if_pos (by omega), w_id (by omega) (by omega)]
      have := ih n (acc ++ [n]) (i + 1) k (by simp; omega) (by omega) (by omega) (by omega)
      rw [show ((i : Int) + 1) = ((i + 1 : Nat) : Int) by omega, this]
      simp
theorem rrun_eq (l : List Int) (hl : l.length ≤ 1000) (s : Int) (k : Nat) (hk : l.length + 5 < k) : vespersref20_Run.f k s l = some (runL s l, ((runL s l).length : Int)) := by
  unfold vespersref20_Run.f
  have := rrun_l0 l hl l.length s [] 0 k rfl (by omega) (by omega) hk
  simpa using this
theorem nextR_two (s e : Int) : (nextR s e).2 = 0 ↔ (nextO s e).isSome = true := by
  unfold nextR
  cases nextO s e <;> simp
theorem revents_l0 (s : Int) : ∀ (d i k : Nat) (acc : List Int), i + d = 10 → acc.length ≤ i → d + 5 < k → vespersref20_Events.l0 k s acc (i : Int) = some (acc ++ (((List.range 10).drop i).map Int.ofNat).filter fun e => (nextO s e).isSome) := by
  intro d
  induction d with
  | zero =>
    intro i k acc hi ha hk
    obtain ⟨k, rfl⟩ : ∃ j, k = j + 1 := ⟨k - 1, by omega⟩
    obtain rfl : i = 10 := by omega
    unfold vespersref20_Events.l0
    rw [if_neg (by decide), List.drop_eq_nil_of_le (by simp)]
    simp
  | succ d ih =>
    intro i k acc hi ha hk
    obtain ⟨k, rfl⟩ : ∃ j, k = j + 1 := ⟨k - 1, by omega⟩
    have hlt : i < (List.range 10).length := by simp; omega
    unfold vespersref20_Events.l0
    rw [if_pos (by omega), rnext_eq _ _ _ (by omega), List.drop_eq_getElem_cons hlt, List.getElem_range, w_id (by omega) (by omega)]
    simp only [Option.bind_some, List.map_cons]
    have h2 := nextR_two s (i : Int)
    by_cases h : (nextO s (i : Int)).isSome = true
    · rw [if_pos (h2.2 h), if_pos (by omega)]
      have := ih (i + 1) k (acc ++ [(i : Int)]) (by omega) (by simp; omega) (by omega)
      rw [show ((i : Int) + 1) = ((i + 1 : Nat) : Int) by omega, this, List.filter_cons]
      rw [if_pos (by simpa using h)]
      simp
    · rw [if_neg (fun q => h (h2.1 q))]
      have := ih (i + 1) k acc (by omega) (by omega) (by omega)
      rw [show ((i : Int) + 1) = ((i + 1 : Nat) : Int) by omega, this, List.filter_cons]
      rw [if_neg (by simpa using h)]
theorem revents_eq (s : Int) (k : Nat) (hk : 15 < k) : vespersref20_Events.f k s = some (evL s) := by
  unfold vespersref20_Events.f
  have := revents_l0 s 10 0 k [] rfl (Nat.le_refl _) (by omega)
  simpa [evL] using this
theorem evL_len (s : Int) : (evL s).length ≤ 10 := by
  unfold evL
  exact Nat.le_trans (List.length_filter_le _ _) (by simp)
theorem c4_ (s : Int) : [(2 : Int), 3, 4, 5].contains s = decide (2 ≤ s ∧ s ≤ 5) := by
  by_cases h : 2 ≤ s ∧ s ≤ 5
  · rw [decide_eq_true h]
    have : s = 2 ∨ s = 3 ∨ s = 4 ∨ s = 5 := by omega
    rcases this with rfl | rfl | rfl | rfl <;> rfl
  · rw [decide_eq_false h]
    simp
    omega
theorem c3_ (s : Int) : [(3 : Int), 4, 5].contains s = decide (3 ≤ s ∧ s ≤ 5) := by
  by_cases h : 3 ≤ s ∧ s ≤ 5
  · rw [decide_eq_true h]
    have : s = 3 ∨ s = 4 ∨ s = 5 := by omega
    rcases this with rfl | rfl | rfl <;> rfl
  · rw [decide_eq_false h]
    simp
    omega
theorem c2_ (s : Int) : [(3 : Int), 5].contains s = decide (s = 3 ∨ s = 5) := by
  by_cases h : s = 3 ∨ s = 5
  · rw [decide_eq_true h]
    rcases h with rfl | rfl <;> rfl
  · rw [decide_eq_false h]
    simp
    omega
theorem c1_ (s : Int) : [(5 : Int)].contains s = decide (s = 5) := by
  by_cases h : s = 5
  · subst h; rfl
  · rw [decide_eq_false h]
    simp [h]
theorem rmay_eq (s what : Int) : vespersref20_May.f s what = some (mayB s what) := by
  unfold vespersref20_May.f mayB
  rw [c4_, c3_, c2_, c1_]
  by_cases h0 : what = 0
  · rw [if_pos h0, if_pos h0]
    by_cases h : s ≥ 2
    · rw [if_pos h]; congr 1; exact decide_eq_decide.2 (by omega)
    · rw [if_neg h]; congr 1; exact (decide_eq_false (by omega)).symm
  rw [if_neg h0, if_neg h0]
  by_cases h1 : what = 1
  · rw [if_pos h1, if_pos h1]
    by_cases h : s = 3
    · rw [if_pos h]; congr 1; exact (decide_eq_true (.inl h)).symm
    · rw [if_neg h]; congr 1; exact decide_eq_decide.2 (by omega)
  rw [if_neg h1, if_neg h1]
  by_cases h2 : what = 2
  · rw [if_pos h2, if_pos h2]
    by_cases h : s ≥ 3
    · rw [if_pos h]; congr 1; exact decide_eq_decide.2 (by omega)
    · rw [if_neg h]; congr 1; exact (decide_eq_false (by omega)).symm
  rw [if_neg h2, if_neg h2]
  by_cases h3 : what = 3
  · rw [if_pos h3, if_pos h3]; rfl
  · rw [if_neg h3, if_neg h3]
theorem rname_eq (n : Int) : vespersref20_Name.f n = some (nameB n) := by
  unfold vespersref20_Name.f nameB
  by_cases h : 0 ≤ n ∧ n ≤ 6
  · rw [if_pos h]
    have hn : n = 0 ∨ n = 1 ∨ n = 2 ∨ n = 3 ∨ n = 4 ∨ n = 5 ∨ n = 6 := by omega
    rcases hn with rfl | rfl | rfl | rfl | rfl | rfl | rfl <;> rfl
  · rw [if_neg h, if_neg (by omega), if_neg (by omega), if_neg (by omega), if_neg (by omega), if_neg (by omega), if_neg (by omega), if_neg (by omega)]
theorem rparse_step (s t : ByteArray) (k : Nat) (i : Int) (h0 : 0 ≤ i) (h1 : i < 7) (ht : nameB i = t) : vespersref20_Parse.l0 (k + 1) s i = if s.toList = t.toList then some (i, 0) else vespersref20_Parse.l0 k s (i + 1) := by
  have hw : wrap64 (i + 1) = i + 1 := w_id (by omega) (by omega)
  simp only [vespersref20_Parse.l0]
  rw [if_pos h1, rname_eq, ht, hw, Option.bind_some]
  by_cases h : s.toList = t.toList
  · rw [if_pos h.symm, if_pos h]
  · rw [if_neg (fun q => h q.symm), if_neg h]
theorem rparse8 (s : ByteArray) : vespersref20_Parse.f 8 s = some (parseR s) := by
  show vespersref20_Parse.l0 8 s 0 = _
  rw [rparse_step s (⟨#[111, 102, 102]⟩ : ByteArray) 7 0 (by decide) (by decide) rfl, rparse_step s (⟨#[105, 110, 105, 116]⟩ : ByteArray) 6 (0 + 1) (by decide) (by decide) rfl, rparse_step s (⟨#[108, 105, 115, 116, 101, 110]⟩ : ByteArray) 5 (0 + 1 + 1) (by decide) (by decide) rfl, rparse_step s (⟨#[99, 111, 108, 100]⟩ : ByteArray) 4 (0 + 1 + 1 + 1) (by decide) (by decide) rfl, rparse_step s (⟨#[112, 97, 115, 115, 105, 118, 101]⟩ : ByteArray) 3 (0 + 1 + 1 + 1 + 1) (by decide) (by decide) rfl, rparse_step s (⟨#[97, 99, 116, 105, 118, 101]⟩ : ByteArray) 2 (0 + 1 + 1 + 1 + 1 + 1) (by decide) (by decide) rfl, rparse_step s (⟨#[102, 114, 111, 122, 101, 110]⟩ : ByteArray) 1 (0 + 1 + 1 + 1 + 1 + 1 + 1) (by decide) (by decide) rfl]
  have he : vespersref20_Parse.l0 1 s (0 + 1 + 1 + 1 + 1 + 1 + 1 + 1) = some (0, 200) := rfl
  rw [he]
  unfold parseR idxN
  repeat' (split <;> try rfl)
  all_goals (first | contradiction | rfl | simp_all)
theorem rparse_eq (s : ByteArray) (k : Nat) (hk : 8 ≤ k) : vespersref20_Parse.f k s = some (parseR s) := at_rounds (fun k => vespersref20_Parse.mono s k) hk (rparse8 s)
end Go.Proofs.YtbbiihifhdcniaaDoor.Pure
