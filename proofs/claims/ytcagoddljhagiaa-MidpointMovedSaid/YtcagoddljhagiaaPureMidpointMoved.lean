/- MidpointMoved: if each value is moved by at most d, the midpoint is by at most d; if all are moved by the same, so is it; in whatever order they stand it is the same. -/
import Derived.Test.YtcagoddljhagiaaPureMid1
set_option linter.unusedVariables false
set_option linter.unusedSimpArgs false
namespace Go.Proofs.Ytcagoddljhagiaa.Pure
open Go.RowKit Go.Proofs.Ytcagoddljhagiaa.Hand Go.Proofs.Ytcagoddljhagiaa.Mid Go.Proofs.Ytcagoddljhagiaa.PA Go.Proofs.YtcagoddljhagiaaW.PrintWords Go.Proofs.YtcagoddljhagiaaW.PrintLast Go.Proofs.YtcagoddljhagiaaW.PrintMore

/-- By how much the i-th is moved. -/
def mv (M : List Int) (d : Int) (i : Nat) : Int := if i < M.length then mx (-d) (mn (rd M (i : Int)) d) else 0
theorem mv_le (M : List Int) (d : Int) (hd : 0 ≤ d) (i : Nat) : -d ≤ mv M d i ∧ mv M d i ≤ d := by
  unfold mv mx mn
  split <;> (try split) <;> (try split) <;> omega
def movL (A M : List Int) (d : Int) (i : Nat) : List Int := (List.range i).map fun (j : Nat) => rd A (j : Int) + mv M d j
def addL (A : List Int) (d : Int) (i : Nat) : List Int := (List.range i).map fun (j : Nat) => rd A (j : Int) + d
def revL (A : List Int) (i : Nat) : List Int := (List.range i).map fun (j : Nat) => rd A ((A.length : Int) - 1 - (j : Int))
theorem range_rd (A : List Int) : (List.range A.length).map (fun (j : Nat) => rd A (j : Int)) = A := by
  apply List.ext_getElem
  · simp
  · intro i h1 h2
    simp only [List.getElem_map, List.getElem_range]
    unfold rd
    rw [Int.toNat_natCast, List.getD_eq_getElem?_getD, List.getElem?_eq_getElem h2, Option.getD_some]
theorem rd_mem (A : List Int) (j : Nat) (h : j < A.length) : rd A (j : Int) ∈ A := by
  unfold rd
  rw [Int.toNat_natCast, List.getD_eq_getElem?_getD, List.getElem?_eq_getElem h, Option.getD_some]
  exact List.getElem_mem h
theorem revL_eq (A : List Int) : revL A A.length = A.reverse := by
  apply List.ext_getElem
  · simp [revL]
  · intro i h1 h2
    have hi : i < A.length := by simpa [revL] using h1
    simp only [revL, List.getElem_map, List.getElem_range, List.getElem_reverse]
    unfold rd
    rw [show ((A.length : Int) - 1 - (i : Int)).toNat = A.length - 1 - i by omega, List.getD_eq_getElem?_getD, List.getElem?_eq_getElem (by omega), Option.getD_some]
theorem moved_tail (A M : List Int) (n : Nat) (d : Int) (hn : 2 * n + 1 ≤ A.length) (hA : A.length ≤ 30) (hb : ∀ x ∈ A, -2147483648 < x ∧ x < 2147483648) (hd : 0 ≤ d ∧ d ≤ 65535) (k : Nat) (hk : 40 ≤ k) (w : Int) (hw : w = d) :
    ((midpoint_Of.f k A (n : Int)).bind fun bt217 => ((midpoint_Of.f k (movL A M d A.length) (n : Int)).bind fun bt219 => ((midpoint_Of.f k (addL A d A.length) (n : Int)).bind fun bt221 => ((midpoint_Of.f k (revL A A.length) (n : Int)).bind fun bt223 => (if true = true then (if bt217.2 = 0 then (if bt219.2 = 0 then (if bt221.2 = 0 then (if bt223.2 = 0 then (if (wrap64 (bt219.1 - bt217.1)) ≤ w then (if (wrap64 (bt217.1 - bt219.1)) ≤ w then (if bt221.1 = (wrap64 (bt217.1 + w)) then (some (bt223.1 == bt217.1)) else (none)) else (none)) else (none)) else (none)) else (none)) else (none)) else (none)) else (none)))))) = some true := by
  subst hw
  have GA : GoodM A n := ⟨hn, by omega, fun x hx => by have := hb x hx; omega⟩
  have lm : (movL A M w A.length).length = A.length := by simp [movL]
  have la : (addL A w A.length).length = A.length := by simp [addL]
  have lr : (revL A A.length).length = A.length := by simp [revL]
  have GM : GoodM (movL A M w A.length) n := ⟨by omega, by omega, fun x hx => by
    obtain ⟨j, hj, rfl⟩ := List.mem_map.1 hx
    have h1 := hb _ (rd_mem A j (List.mem_range.1 hj))
    have h2 := mv_le M w hd.1 j
    omega⟩
  have GD : GoodM (addL A w A.length) n := ⟨by omega, by omega, fun x hx => by
    obtain ⟨j, hj, rfl⟩ := List.mem_map.1 hx
    have h1 := hb _ (rd_mem A j (List.mem_range.1 hj))
    omega⟩
  have GR : GoodM (revL A A.length) n := ⟨by omega, by omega, fun x hx => by
    rw [revL_eq] at hx
    have := hb x (List.mem_reverse.1 hx)
    omega⟩
  have up : ∀ i, i < A.length → srt (movL A M w A.length) i ≤ srt A i + w := by
    intro i hi
    have h := srt_moved ((List.range A.length).map fun (j : Nat) => (rd A (j : Int), rd A (j : Int) + mv M w j)) w (by
      intro p hp
      obtain ⟨j, hj, rfl⟩ := List.mem_map.1 hp
      have := mv_le M w hd.1 j
      show rd A (j : Int) + mv M w j ≤ rd A (j : Int) + w
      omega) i (by simpa using hi)
    simp only [List.map_map, Function.comp_def] at h
    rw [range_rd] at h
    exact h
  have dn : ∀ i, i < A.length → srt A i ≤ srt (movL A M w A.length) i + w := by
    intro i hi
    have h := srt_moved ((List.range A.length).map fun (j : Nat) => (rd A (j : Int) + mv M w j, rd A (j : Int))) w (by
      intro p hp
      obtain ⟨j, hj, rfl⟩ := List.mem_map.1 hp
      have := mv_le M w hd.1 j
      show rd A (j : Int) ≤ rd A (j : Int) + mv M w j + w
      omega) i (by simpa using hi)
    simp only [List.map_map, Function.comp_def] at h
    rw [range_rd] at h
    exact h
  have ad : ∀ i, i < A.length → srt (addL A w A.length) i = srt A i + w := by
    intro i hi
    have h1 := srt_moved ((List.range A.length).map fun (j : Nat) => (rd A (j : Int), rd A (j : Int) + w)) w (by
      intro p hp
      obtain ⟨j, hj, rfl⟩ := List.mem_map.1 hp
      exact Int.le_refl _) i (by simpa using hi)
    have h2 := srt_moved ((List.range A.length).map fun (j : Nat) => (rd A (j : Int) + w, rd A (j : Int))) (-w) (by
      intro p hp
      obtain ⟨j, hj, rfl⟩ := List.mem_map.1 hp
      show rd A (j : Int) ≤ rd A (j : Int) + w + -w
      omega) i (by simpa using hi)
    simp only [List.map_map, Function.comp_def] at h1 h2
    rw [range_rd] at h1 h2
    change srt (addL A w A.length) i ≤ _ at h1
    change _ ≤ srt (addL A w A.length) i + -w at h2
    omega
  have rv : ∀ i, i < A.length → srt (revL A A.length) i = srt A i := by
    intro i hi
    rw [revL_eq]
    exact srt_ext _ _ (by simp) (fun v => cle_perm (List.reverse_perm A) v) i (by simpa using hi)
  rw [Of_good GA k (by omega), Option.bind_some, Of_good GM k (by omega), Option.bind_some, Of_good GD k (by omega), Option.bind_some, Of_good GR k (by omega), Option.bind_some, lm, la, lr]
  simp only [if_true]
  have u1 := up n (by omega)
  have u2 := up (A.length - 1 - n) (by omega)
  have d1 := dn n (by omega)
  have d2 := dn (A.length - 1 - n) (by omega)
  rw [ad n (by omega), ad (A.length - 1 - n) (by omega), rv n (by omega), rv (A.length - 1 - n) (by omega)]
  have f1 := srt_fine GA n (by omega)
  have f2 := srt_fine GA (A.length - 1 - n) (by omega)
  have f3 := srt_fine GM n (by omega)
  have f4 := srt_fine GM (A.length - 1 - n) (by omega)
  clear up dn ad rv
  generalize srt A n = a1 at *
  generalize srt A (A.length - 1 - n) = a2 at *
  generalize srt (movL A M w A.length) n = m1 at *
  generalize srt (movL A M w A.length) (A.length - 1 - n) = m2 at *
  rw [wrap_id (x := (m1 + m2) / 2 - (a1 + a2) / 2) (by omega) (by omega), wrap_id (x := (a1 + a2) / 2 - (m1 + m2) / 2) (by omega) (by omega), wrap_id (x := (a1 + a2) / 2 + w) (by omega) (by omega), if_pos (by omega), if_pos (by omega), if_pos (by omega)]
  simp
theorem moved_loop (A M : List Int) (n : Nat) (d : Int) (hn : 2 * n + 1 ≤ A.length) (hA : A.length ≤ 30) (hb : ∀ x ∈ A, -2147483648 < x ∧ x < 2147483648) (hd : 0 ≤ d ∧ d ≤ 65535) (hM : ∀ x ∈ M, -32768 ≤ x ∧ x ≤ 32767) : ∀ (e k i : Nat), i + e = A.length → e + 50 < k →
    vesperslaw14_MidpointMoved.l0 k M d true (n : Int) A (movL A M d i) (addL A d i) (revL A i) (A.length : Int) (i : Int) = some true := by
  intro e
  induction e with
  | zero =>
    intro k i hi hk
    obtain ⟨k, rfl⟩ : ∃ m, k = m + 1 := ⟨k - 1, by omega⟩
    obtain rfl : i = A.length := by omega
    simp only [vesperslaw14_MidpointMoved.l0]
    rw [if_neg (by omega), wrap_id (x := d) (by omega) (by omega)]
    have := moved_tail A M n d hn hA hb hd k (by omega) d rfl
    simpa only [if_true] using this
  | succ e ih =>
    intro k i hi hk
    obtain ⟨k, rfl⟩ : ∃ m, k = m + 1 := ⟨k - 1, by omega⟩
    have i1 := ih k (i + 1) (by omega) (by omega)
    have s1 : movL A M d (i + 1) = movL A M d i ++ [rd A (i : Int) + mv M d i] := by simp [movL, List.range_succ]
    have s2 : addL A d (i + 1) = addL A d i ++ [rd A (i : Int) + d] := by simp [addL, List.range_succ]
    have s3 : revL A (i + 1) = revL A i ++ [rd A ((A.length : Int) - 1 - (i : Int))] := by simp [revL, List.range_succ]
    rw [s1, s2, s3] at i1
    clear s1 s2 s3
    have hx := hb _ (rd_mem A i (by omega))
    have l1 : (movL A M d i).length = i := by simp [movL]
    have l2 : (addL A d i).length = i := by simp [addL]
    have l3 : (revL A i).length = i := by simp [revL]
    simp only [vesperslaw14_MidpointMoved.l0]
    rw [if_pos (by omega)]
    by_cases hm : i < M.length
    · have hmm := hM _ (rd_mem M i hm)
      have hmv : mv M d i = mx (-d) (mn (rd M (i : Int)) d) := by unfold mv; rw [if_pos hm]
      have hml := mv_le M d hd.1 i
      rw [hmv] at i1 hml
      rw [if_pos (by omega), if_pos (by omega), if_pos (by omega), if_pos (by omega), if_pos (by omega), wrap_id (x := (A.length : Int) - 1) (by omega) (by omega), wrap_id (x := (A.length : Int) - 1 - (i : Int)) (by omega) (by omega), if_pos (by omega), if_pos (by omega), if_pos (by omega), wrap_id (x := d) (by omega) (by omega), wrap_id (x := -d) (by omega) (by omega), wrap_id (x := rd M (i : Int)) (by omega) (by omega), wrap_id (x := rd A (i : Int) + mx (-d) (mn (rd M (i : Int)) d)) (by omega) (by omega), wrap_id (x := rd A (i : Int) + d) (by omega) (by omega), wrap_id (x := (i : Int) + 1) (by omega) (by omega), show (i : Int) + 1 = ((i + 1 : Nat) : Int) by omega]
      exact i1
    · have hmv : mv M d i = 0 := by unfold mv; rw [if_neg hm]
      rw [hmv] at i1
      rw [if_neg (by omega), if_pos (by omega), if_pos (by omega), if_pos (by omega), if_pos (by omega), wrap_id (x := (A.length : Int) - 1) (by omega) (by omega), wrap_id (x := (A.length : Int) - 1 - (i : Int)) (by omega) (by omega), if_pos (by omega), if_pos (by omega), if_pos (by omega), wrap_id (x := d) (by omega) (by omega), wrap_id (x := rd A (i : Int)) (by omega) (by omega), wrap_id (x := rd A (i : Int) + d) (by omega) (by omega), wrap_id (x := (i : Int) + 1) (by omega) (by omega), show (i : Int) + 1 = ((i + 1 : Nat) : Int) by omega]
      rw [Int.add_zero] at i1
      exact i1
theorem MidpointMoved : vesperslaw14_MidpointMoved.Pure := by
  intro l M a d _ _ _ _ _ wM wa wd
  have ha := wf8 wa
  have hd := wfu16 wd
  have hM : ∀ x ∈ M, -32768 ≤ x ∧ x ≤ 32767 := fun x hx => wfi16 (wM x hx)
  obtain ⟨k, hk⟩ : ∃ k : Nat, k = 200 := ⟨200, rfl⟩
  refine ⟨k + 1 + 1, ?_⟩
  unfold vesperslaw14_MidpointMoved.f
  rw [alive_true (k + 1 + 1) (by omega), Option.bind_some]
  by_cases h0 : (l.length : Int) = 0
  · rw [if_pos h0]
    simp only [vesperslaw14_MidpointMoved.j0]
    rw [if_pos trivial]
  rw [if_neg h0]
  by_cases h1 : (l.length : Int) > 30
  · rw [if_pos h1]
    simp only [vesperslaw14_MidpointMoved.j0]
    rw [if_pos trivial]
  rw [if_neg h1, Bool.not_true]
  simp only [vesperslaw14_MidpointMoved.j0]
  have hsome := some_eq l (by omega) (k + 1) (by omega)
  have hL : l.length ≤ 30 := by omega
  obtain ⟨hne, n, hn, e⟩ := cut_eq l.length a (by omega) (by omega) ha
  rw [if_neg (by decide), if_neg hne, hsome, Option.bind_some, e]
  clear e hne hsome
  have hl := modL_len l
  have := moved_loop (modL l) M n d (by omega) (by omega) (modL_bound l) hd hM (modL l).length (k + 1) 0 (by omega) (by omega)
  simpa [movL, addL, revL] using this
end Go.Proofs.Ytcagoddljhagiaa.Pure
