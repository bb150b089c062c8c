/- Played backwards; the values out of the list. -/
import Derived.Test.YtfhkmokgbndeeaaHandAgain
set_option linter.unusedVariables false
set_option linter.unusedSimpArgs false
namespace Go.Proofs.Ytfhkmokgbndeeaa.Hand
open Go.RowKit Go.Proofs.Ytfhkmokgbndeeaa.Cap Go.Proofs.Ytfhkmokgbndeeaa.PA Go.Proofs.Ytfhkmokgbndeeaa.PB Go.Proofs.YtfhkmokgbndeeaaW.PrintWords

/-- Each is taken, one behind the other. -/
def Taken : Cp → List S32 → Prop
  | _, [] => True
  | m, x :: l => nE m x = 0 ∧ Taken (nM m x) l
theorem taken_acc : ∀ (l : List S32) (m : Cp), Taken m (accL m l)
  | [], m => trivial
  | y :: l, m => by
    by_cases hy : nE m y = 0
    · have e : accL m (y :: l) = y :: accL (nM m y) l := by simp [accL, hy]
      rw [e]
      exact ⟨hy, taken_acc l _⟩
    · have e : accL m (y :: l) = accL m l := by simp [accL, hy]
      rw [e]
      exact taken_acc l m
theorem taken_at : ∀ (l : List S32) (m : Cp), Taken m l → ∀ k (h : k < l.length), nE (playM m (l.take k)) l[k] = 0
  | [], m, _, k, h => by simp at h
  | y :: l, m, ht, k, h => by
    cases k with
    | zero => exact ht.1
    | succ k =>
      simp only [List.take_succ_cons, playM_cons, List.getElem_cons_succ]
      exact taken_at l _ ht.2 k (by simpa using h)
theorem nE_iff (m : Cp) (x : S32) : nE m x = 0 ↔ okN x.f1 x.f2 x.f3 = true ∧ atS m (slotN x.f1.toNat x.f2.toNat) = none := by
  unfold nE noteE
  constructor
  · intro h
    by_cases q : okN x.f1 x.f2 x.f3 = true ∧ atS m (slotN x.f1.toNat x.f2.toNat) = none
    · exact q
    · rw [if_neg q] at h; cases h
  · intro h
    rw [if_pos h]
theorem nM_yes {m : Cp} {x : S32} (h : nE m x = 0) : nM m x = m.set (slotN x.f1.toNat x.f2.toNat) (some x.f3) := by
  unfold nM noteM
  rw [if_pos ((nE_iff m x).1 h)]
theorem slot_lt {x : S32} (h : okN x.f1 x.f2 x.f3 = true) : slotN x.f1.toNat x.f2.toNat < 32 := by
  have hb : 0 ≤ x.f1 ∧ x.f1 < 16 ∧ 0 ≤ x.f2 ∧ x.f2 < 2 ∧ -4294967296 ≤ x.f3 ∧ x.f3 ≤ 4294967296 := by simpa [okN] using h
  unfold slotN
  omega
theorem swap {m : Cp} (hm : m.length = 32) {x y : S32} (h1 : nE m x = 0) (h2 : nE (nM m x) y = 0) : nE m y = 0 ∧ nE (nM m y) x = 0 ∧ nM (nM m y) x = nM (nM m x) y := by
  have e1 := nM_yes h1
  have e2 := nM_yes h2
  obtain ⟨o1, a1⟩ := (nE_iff m x).1 h1
  obtain ⟨o2, a2⟩ := (nE_iff _ y).1 h2
  have l1 := slot_lt o1
  have l2 := slot_lt o2
  rw [e1, atS_set _ _ _ _ (by omega)] at a2
  split at a2
  · cases a2
  · rename_i hne
    have h3 : nE m y = 0 := (nE_iff m y).2 ⟨o2, a2⟩
    have e3 := nM_yes h3
    have h4 : nE (nM m y) x = 0 := (nE_iff _ x).2 ⟨o1, by rw [e3, atS_set _ _ _ _ (by omega), if_neg (fun q => hne q.symm)]; exact a1⟩
    refine ⟨h3, h4, ?_⟩
    rw [nM_yes h4, e3, e2, e1]
    exact List.set_comm _ _ (fun q => hne q)
theorem taken_last : ∀ (l : List S32) (m : Cp) (x : S32), m.length = 32 → Taken m (x :: l) → Taken m l ∧ nE (playM m l) x = 0 ∧ nM (playM m l) x = playM m (x :: l)
  | [], m, x, hm, h => ⟨trivial, h.1, rfl⟩
  | y :: l, m, x, hm, ⟨h1, h2, h3⟩ => by
    obtain ⟨s1, s2, s3⟩ := swap hm h1 h2
    have ih := taken_last l (nM m y) x (by rw [nM_len]; exact hm) ⟨s2, by rw [s3]; exact h3⟩
    refine ⟨⟨s1, ih.1⟩, ih.2.1, ?_⟩
    show nM (playM (nM m y) l) x = playM (nM (nM m x) y) l
    rw [ih.2.2, playM_cons, s3]
theorem taken_snoc : ∀ (l : List S32) (m : Cp) (x : S32), Taken m l → nE (playM m l) x = 0 → Taken m (l ++ [x])
  | [], m, x, _, h => ⟨h, trivial⟩
  | y :: l, m, x, ht, h => ⟨ht.1, taken_snoc l _ x ht.2 h⟩
theorem playM_app (m : Cp) (l : List S32) (x : S32) : playM m (l ++ [x]) = nM (playM m l) x := playM_snoc m l x
theorem taken_rev : ∀ (l : List S32) (m : Cp), m.length = 32 → Taken m l → Taken m l.reverse ∧ playM m l.reverse = playM m l
  | [], m, _, _ => ⟨trivial, rfl⟩
  | x :: l, m, hm, h => by
    obtain ⟨a1, a2, a3⟩ := taken_last l m x hm h
    obtain ⟨b1, b2⟩ := taken_rev l m hm a1
    rw [List.reverse_cons]
    refine ⟨taken_snoc _ _ _ b1 (by rw [b2]; exact a2), ?_⟩
    rw [playM_app, b2, a3]
/-- The next one backwards is taken. -/
theorem back_ok (l : List S32) (k : Nat) (h : k < (accL none32 l).length) : nE (playM none32 ((accL none32 l).reverse.take k)) ((accL none32 l).getD ((accL none32 l).length - 1 - k) z32) = 0 := by
  have ht := taken_at _ _ (taken_rev _ none32 rfl (taken_acc l none32)).1 k (by simpa using h)
  rw [List.getElem_reverse] at ht
  rw [List.getD_eq_getElem?_getD, List.getElem?_eq_getElem (by omega)]
  exact ht
theorem back_step (D : List S32) (k : Nat) (h : k < D.length) : playM none32 (D.reverse.take (k + 1)) = nM (playM none32 (D.reverse.take k)) (D.getD (D.length - 1 - k) z32) := by
  rw [List.take_succ_eq_append_getElem (by simpa using h), playM_app, List.getElem_reverse, List.getD_eq_getElem?_getD, List.getElem?_eq_getElem (by omega)]
  rfl
theorem back_all (l : List S32) : playM none32 (accL none32 l).reverse = playM none32 l := by
  rw [(taken_rev _ none32 rfl (taken_acc l none32)).2]
  exact play_acc l none32 rfl
/-! The values, put together out of the list. -/
def wantS (n : Int) (s : List Int × Bool) (x : S39) : List Int × Bool :=
  let t := if n ≤ x.f0 ∧ s.2 = false then (s.1 ++ [0], true) else s
  if x.f0 = n then t else (t.1 ++ [x.f1], t.2)
def wantL (n : Int) (l : List S39) : List Int × Bool := l.foldl (wantS n) ([], false)
theorem wantL_snoc (n : Int) (l : List S39) (x : S39) : wantL n (l ++ [x]) = wantS n (wantL n l) x := by simp [wantL, List.foldl_append]
theorem wantS_put {n : Int} {a : List Int} {x : S39} (h1 : n ≤ x.f0) (h2 : x.f0 = n) : wantS n (a, false) x = (a ++ [0], true) := by simp [wantS, h1, h2]
theorem wantS_own {n : Int} {a : List Int} {x : S39} (h2 : x.f0 = n) : wantS n (a, true) x = (a, true) := by simp [wantS, h2]
theorem wantS_had {n : Int} {a : List Int} {x : S39} (h2 : ¬ x.f0 = n) : wantS n (a, true) x = (a ++ [x.f1], true) := by simp [wantS, h2]
theorem wantS_both {n : Int} {a : List Int} {x : S39} (h1 : n ≤ x.f0) (h2 : ¬ x.f0 = n) : wantS n (a, false) x = (a ++ [0] ++ [x.f1], true) := by simp [wantS, h1, h2]
theorem wantS_small {n : Int} {a : List Int} {x : S39} (h1 : ¬ n ≤ x.f0) : wantS n (a, false) x = (a ++ [x.f1], false) := by
  have h2 : ¬ x.f0 = n := by omega
  simp [wantS, h1, h2]
theorem want_inv (m : Cp) (n : Nat) : ∀ k : Nat, (((wantL n (devL m (List.range k))).2 = true ∧ n < k ∧ (wantL n (devL m (List.range k))).1 = valL m n (List.range k)) ∨ ((wantL n (devL m (List.range k))).2 = false ∧ n < k ∧ (wantL n (devL m (List.range k))).1 ++ [0] = valL m n (List.range k)) ∨ ((wantL n (devL m (List.range k))).2 = false ∧ k ≤ n ∧ (wantL n (devL m (List.range k))).1 = valL m n (List.range k)))
  | 0 => .inr (.inr ⟨rfl, Nat.zero_le _, rfl⟩)
  | k + 1 => by
    have ih := want_inv m n k
    rw [List.range_succ]
    by_cases ho : (k : Int) = n
    · obtain rfl : k = n := by omega
      rw [valL_own m _ _ k rfl]
      rcases ih with ⟨_, h, _⟩ | ⟨_, h, _⟩ | ⟨h1, h2, h3⟩
      · omega
      · omega
      · cases hb : (byN m k).2 with
        | false =>
          rw [devL_snoc_no m _ k hb]
          exact .inr (.inl ⟨h1, by omega, by rw [h3]⟩)
        | true =>
          rw [devL_snoc_yes m _ k hb, wantL_snoc]
          refine .inl ?_
          generalize wantL (k : Int) (devL m (List.range k)) = t at h1 h3 ⊢
          obtain ⟨t1, t2⟩ := t
          simp only at h1 h3
          subst h1
          rw [wantS_put (n := (k : Int)) (x := ⟨(k : Int), (byN m k).1⟩) (Int.le_refl _) rfl]
          exact ⟨rfl, by omega, by rw [h3]⟩
    · cases hb : (byN m k).2 with
      | false =>
        rw [devL_snoc_no m _ k hb, valL_no m _ _ k ho hb]
        rcases ih with ⟨h1, h2, h3⟩ | ⟨h1, h2, h3⟩ | ⟨h1, h2, h3⟩
        · exact .inl ⟨h1, by omega, h3⟩
        · exact .inr (.inl ⟨h1, by omega, h3⟩)
        · exact .inr (.inr ⟨h1, by omega, h3⟩)
      | true =>
        rw [devL_snoc_yes m _ k hb, valL_yes m _ _ k ho hb, wantL_snoc]
        generalize wantL (n : Int) (devL m (List.range k)) = t at ih ⊢
        obtain ⟨t1, t2⟩ := t
        simp only at ih
        rcases ih with ⟨rfl, h2, h3⟩ | ⟨rfl, h2, h3⟩ | ⟨rfl, h2, h3⟩
        · rw [wantS_had ho]
          exact .inl ⟨rfl, by omega, by rw [h3]⟩
        · rw [wantS_both (show (n : Int) ≤ (k : Int) by omega) ho]
          exact .inl ⟨rfl, by omega, by rw [h3]⟩
        · rw [wantS_small (show ¬ (n : Int) ≤ (k : Int) by omega)]
          exact .inr (.inr ⟨rfl, by omega, by rw [h3]⟩)
theorem want_all (m : Cp) (n : Nat) (hn : n < 16) : (if (wantL n (devL m (List.range 16))).2 = false then (wantL n (devL m (List.range 16))).1 ++ [0] else (wantL n (devL m (List.range 16))).1) = valL m n (List.range 16) := by
  rcases want_inv m n 16 with ⟨h1, h2, h3⟩ | ⟨h1, h2, h3⟩ | ⟨h1, h2, h3⟩
  · rw [if_neg (by rw [h1]; simp)]; exact h3
  · rw [if_pos h1]; exact h3
  · omega
/-- The list's nodes rise. -/
theorem dev_rise (m : Cp) (i : Nat) (h : i + 1 < (devL m (List.range 16)).length) : ((devL m (List.range 16))[i]).f0 < ((devL m (List.range 16))[i + 1]).f0 := by
  have e := devL_nodes m 16
  have hl : (devL m (List.range 16)).length = (nodesL m 16).length := by rw [e]; simp
  have hp : List.Pairwise (· < ·) (nodesL m 16) := List.Pairwise.filter _ List.pairwise_lt_range
  have h1 : (nodesL m 16)[i]'(by omega) < (nodesL m 16)[i + 1]'(by omega) := List.pairwise_iff_getElem.1 hp i (i + 1) (by omega) (by omega) (by omega)
  simp only [e, List.getElem_map]
  omega
theorem longs_l0 (a : List Int) (ha : a.length ≤ 1000) : ∀ (d i k : Nat), a.length - i = d → i ≤ a.length → d < k → vespersref13_Longs.l0 k a a (i : Int) = some true := by
  intro d
  induction d with
  | zero =>
    intro i k hd hi hk
    obtain ⟨k, rfl⟩ : ∃ j, k = j + 1 := ⟨k - 1, by omega⟩
    unfold vespersref13_Longs.l0
    rw [if_neg (by omega)]
  | succ d ih =>
    intro i k hd hi hk
    obtain ⟨k, rfl⟩ : ∃ j, k = j + 1 := ⟨k - 1, by omega⟩
    have hw : wrap64 ((i : Int) + 1) = ((i + 1 : Nat) : Int) := by unfold wrap64; omega
    unfold vespersref13_Longs.l0
    rw [if_pos (by omega), if_pos (by omega), if_pos (by omega), hw, if_pos rfl]
    exact ih (i + 1) k (by omega) (by omega) (by omega)
theorem longs_same (a : List Int) (ha : a.length ≤ 1000) : vespersref13_Longs.f (a.length + 1) a a = some true := by
  unfold vespersref13_Longs.f
  rw [if_pos rfl]
  exact longs_l0 a ha a.length 0 _ (by omega) (by omega) (by omega)
end Go.Proofs.Ytfhkmokgbndeeaa.Hand
