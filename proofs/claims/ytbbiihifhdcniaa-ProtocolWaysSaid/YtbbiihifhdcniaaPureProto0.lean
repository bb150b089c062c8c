/- Plain facts on where events lead. -/
import Derived.Test.YtbbiihifhdcniaaPAx1
set_option linter.unusedVariables false
set_option linter.unusedSimpArgs false
namespace Go.Proofs.Ytbbiihifhdcniaa.Pure
open Go.RowKit Go.Proofs.Ytbbiihifhdcniaa.Hand Go.Proofs.Ytbbiihifhdcniaa.PA Go.Proofs.YtbbiihifhdcniaaW.PrintWords Go.Proofs.YtbbiihifhdcniaaW.PrintLast

theorem fitI_iff (n : Int) : fitI n ↔ -9223372036854775808 ≤ n ∧ n ≤ 9223372036854775807 := by
  unfold fitI
  rw [show (Lit.int .i64 n).wf = (decide (IntKind.i64.min ≤ n) && decide (n ≤ IntKind.i64.max)) from rfl]
  rw [show IntKind.i64.min = -9223372036854775808 by decide, show IntKind.i64.max = 9223372036854775807 by decide]
  simp
theorem w_id {n : Int} (h : -9223372036854775808 ≤ n) (h' : n ≤ 9223372036854775807) : wrap64 n = n := by
  unfold wrap64
  omega
theorem nextO_out {s e : Int} (h : ¬ (0 ≤ s ∧ s < 7 ∧ 0 ≤ e ∧ e < 10)) : nextO s e = none := by
  unfold nextO
  repeat rw [if_neg (by omega)]
theorem nextO_fin : ∀ s : Fin 7, ∀ e : Fin 10, (nextO (s.1 : Int) (e.1 : Int)).all (fun t => decide (0 ≤ t ∧ t < 7)) = true := by decide
theorem nextO_range {s e t : Int} (h : nextO s e = some t) : 0 ≤ t ∧ t < 7 := by
  by_cases hd : 0 ≤ s ∧ s < 7 ∧ 0 ≤ e ∧ e < 10
  · obtain ⟨a, b, c, d⟩ := hd
    obtain ⟨x, rfl⟩ := Int.eq_ofNat_of_zero_le a
    obtain ⟨y, rfl⟩ := Int.eq_ofNat_of_zero_le c
    have := nextO_fin ⟨x, by omega⟩ ⟨y, by omega⟩
    simp only [h] at this
    simpa using this
  · rw [nextO_out hd] at h
    cases h
/-- The states to which events lead. -/
def runL : Int → List Int → List Int
  | _, [] => []
  | s, e :: t => match nextO s e with
    | none => []
    | some n => n :: runL n t
def lastS (s : Int) (l : List Int) : Int := l.getLast?.getD s
theorem runL_len : ∀ (l : List Int) (s : Int), (runL s l).length ≤ l.length
  | [], s => Nat.le_refl _
  | e :: t, s => by
    unfold runL
    cases h : nextO s e with
    | none => simp
    | some n => simpa using runL_len t n
theorem lastS_cons (s n : Int) (l : List Int) : lastS s (n :: l) = lastS n l := by
  simp [lastS, List.getLast?_cons]
theorem runL_range : ∀ (l : List Int) (s x : Int), x ∈ runL s l → 0 ≤ x ∧ x < 7
  | [], s, x, h => by cases h
  | e :: t, s, x, h => by
    unfold runL at h
    cases hn : nextO s e with
    | none => rw [hn] at h; cases h
    | some n =>
      rw [hn] at h
      rcases List.mem_cons.1 h with rfl | h
      · exact nextO_range hn
      · exact runL_range t n x h
theorem lastS_range {s : Int} (hs : 0 ≤ s ∧ s < 7) {l : List Int} (h : ∀ x ∈ l, 0 ≤ x ∧ x < 7) : 0 ≤ lastS s l ∧ lastS s l < 7 := by
  unfold lastS
  cases hl : l.getLast? with
  | none => exact hs
  | some x => exact h x (List.mem_of_getLast? hl)
theorem runL_split : ∀ (l : List Int) (s : Int) (k : Nat), k ≤ l.length → runL s l = if (runL s (l.take k)).length < k then runL s (l.take k) else runL s (l.take k) ++ runL (lastS s (runL s (l.take k))) (l.drop k)
  | [], s, k, h => by
    obtain rfl : k = 0 := by simpa using h
    simp [runL]
  | e :: t, s, 0, h => by simp [runL, lastS]
  | e :: t, s, k + 1, h => by
    have ih := fun n => runL_split t n k (by simpa using h)
    simp only [List.take_succ_cons, List.drop_succ_cons]
    have e1 : ∀ t', runL s (e :: t') = match nextO s e with | none => [] | some n => n :: runL n t' := fun _ => rfl
    rw [e1, e1]
    cases hn : nextO s e with
    | none => simp
    | some n =>
      simp only [List.length_cons, Nat.add_lt_add_iff_right, lastS_cons]
      rw [ih n]
      by_cases hc : (runL n (List.take k t)).length < k
      · rw [if_pos hc, if_pos hc]
      · rw [if_neg hc, if_neg hc]; rfl
theorem runL_stop : ∀ (l : List Int) (s : Int), (runL s l).length < l.length → nextO (lastS s (runL s l)) (l.getD (runL s l).length 0) = none
  | [], s, h => by simp [runL] at h
  | e :: t, s, h => by
    unfold runL at h ⊢
    cases hn : nextO s e with
    | none => simpa [lastS] using hn
    | some n =>
      rw [hn] at h
      simp only [List.length_cons, lastS_cons, List.getD_cons_succ]
      exact runL_stop t n (by simpa using h)
theorem fit_small {s : Int} (h : 0 ≤ s ∧ s < 7) : fitI s := (fitI_iff s).2 (by omega)
theorem run_l0 (l : List Int) (hl : l.length ≤ 1000) (hf : ∀ x ∈ l, fitI x) : ∀ (d : Nat) (s : Int) (acc : List Int) (i k : Nat), fitI s → acc.length ≤ 1000 - d → l.length - i = d → i ≤ l.length → d < k →
    protocol_Run.l0 k s acc l (l.length : Int) (i : Int) = some (acc ++ runL s (l.drop i), ((acc ++ runL s (l.drop i)).length : Int)) := by
  intro d
  induction d with
  | zero =>
    intro s acc i k hs ha hd hi hk
    obtain ⟨k, rfl⟩ : ∃ j, k = j + 1 := ⟨k - 1, by omega⟩
    have : i = l.length := by omega
    subst this
    unfold protocol_Run.l0
    rw [if_neg (by omega)]
    simp [runL]
  | succ d ih =>
    intro s acc i k hs ha hd hi hk
    obtain ⟨k, rfl⟩ : ∃ j, k = j + 1 := ⟨k - 1, by omega⟩
    have hlt : i < l.length := by omega
    unfold protocol_Run.l0
    rw [if_pos (by omega), if_pos (by omega), if_pos (by omega)]
    have hrd : rd l (i : Int) = l[i] := by simp [rd, hlt]
    rw [hrd, List.drop_eq_getElem_cons hlt]
    have hfe := hf l[i] (List.getElem_mem hlt)
    have hN : protocol_Next.f s l[i] = some (nextR s l[i]) := by unfold protocol_Next.f; rw [if_pos ⟨hs, hfe⟩]
    rw [hN]
    simp only [Option.bind_some, nextR]
    unfold runL
    cases hn : nextO s l[i] with
    | none => simp
    | some n =>
      have hr := nextO_range hn
      simp only [if_true]
      rw [if_pos (by omega), w_id (by omega) (by omega)]
      have := ih n (acc ++ [n]) (i + 1) k (fit_small hr) (by simp; omega) (by omega) (by omega) (by omega)
      rw [show ((i : Int) + 1) = ((i + 1 : Nat) : Int) by omega, this]
      simp
theorem run_eq (l : List Int) (hl : l.length ≤ 1000) (hf : ∀ x ∈ l, fitI x) (s : Int) (hs : fitI s) (k : Nat) (hk : l.length < k) : protocol_Run.f k s l = some (runL s l, ((runL s l).length : Int)) := by
  unfold protocol_Run.f
  have := run_l0 l hl hf l.length s [] 0 k hs (by simp) (by omega) (by omega) hk
  simpa using this
theorem same_l0 (a : List Int) (ha : a.length ≤ 100000) : ∀ (d i k : Nat), a.length - i = d → i ≤ a.length → d < k → vespersref20_Same.l0 k a a (i : Int) = some true := by
  intro d
  induction d with
  | zero =>
    intro i k hd hi hk
    obtain ⟨k, rfl⟩ : ∃ j, k = j + 1 := ⟨k - 1, by omega⟩
    unfold vespersref20_Same.l0
    rw [if_neg (by omega)]
  | succ d ih =>
    intro i k hd hi hk
    obtain ⟨k, rfl⟩ : ∃ j, k = j + 1 := ⟨k - 1, by omega⟩
    unfold vespersref20_Same.l0
    rw [if_pos (by omega), if_pos (by omega), if_pos (by omega), if_pos rfl, w_id (by omega) (by omega)]
    exact ih (i + 1) k (by omega) (by omega) (by omega)
theorem same_eq (a b : List Int) (h : a = b) (ha : a.length ≤ 100000) (k : Nat) (hk : a.length < k) : vespersref20_Same.f k a b = some true := by
  subst h
  unfold vespersref20_Same.f
  rw [if_pos rfl]
  exact same_l0 a ha a.length 0 k (by omega) (by omega) hk
theorem alive_eq : vesperslaw20_alive.f = some true := by decide
end Go.Proofs.Ytbbiihifhdcniaa.Pure
