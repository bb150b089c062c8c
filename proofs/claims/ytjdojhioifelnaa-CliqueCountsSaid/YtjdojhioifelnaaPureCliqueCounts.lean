/- CliqueCounts: counters, the test, and what follows behind any slot, are the document's. -/
import Derived.Test.YtjdojhioifelnaaPAx8
import Derived.Test.YtjdojhioifelnaaPureVec0c
set_option linter.unusedVariables false
set_option linter.unusedSimpArgs false
namespace Go.Proofs.Ytjdojhioifelnaa.Pure
open Go.RowKit Go.Proofs.Ytjdojhioifelnaa.Grp Go.Proofs.Ytjdojhioifelnaa.Hand Go.Proofs.Ytjdojhioifelnaa.PA Go.Proofs.Ytjdojhioifelnaa.Vec Go.Proofs.YtjdojhioifelnaaW.PrintWords Go.Proofs.YtjdojhioifelnaaW.PrintLast

theorem wf16 {a : Int} (h : (Lit.int .u16 a).wf = true) : G16 a := by
  simp [Lit.wf, IntKind.min, IntKind.max, IntKind.bits, IntKind.signed] at h
  constructor <;> omega
theorem inC_iff (n : Int) : inC n = true ↔ 0 ≤ n ∧ n ≤ 2147483647 := by simp [inC]
theorem inC2 (a b : Int) : (inC a && inC b) = true ↔ (0 ≤ a ∧ a ≤ 2147483647) ∧ (0 ≤ b ∧ b ≤ 2147483647) := by
  rw [Bool.and_eq_true, inC_iff, inC_iff]
theorem rmay_eq (a b : Int) : vespersref19_may.f a b = some (inC a && inC b) := by
  unfold vespersref19_may.f
  by_cases h1 : a ≥ 0
  · rw [if_pos h1]
    by_cases h2 : b ≥ 0
    · rw [if_pos h2]
      by_cases h3 : a ≤ 2147483647
      · rw [if_pos h3]
        simp [inC, h1, h2, h3]
      · rw [if_neg h3]
        simp [inC, h3]
    · rw [if_neg h2]
      have : inC b = false := by simp [inC]; omega
      rw [this, Bool.and_false]
  · rw [if_neg h1]
    have : inC a = false := by simp [inC]; omega
    rw [this, Bool.false_and]
theorem cnt_cons (s k : Int) (t : List Int) : cntC (s :: t) k = cntC t k + (if s = k then 1 else 0) := by
  unfold cntC
  rw [List.countP_cons]
  by_cases h : s = k
  · simp [h]
  · simp [h]
def addT (A B : Int) (t : List Int) : Int × Int × Int :=
  if saysOk t = true then
    if (inC (A + cntC t 1) && inC (B + cntC t 2 + cntC t 3)) = true then (A + cntC t 1, B + cntC t 2 + cntC t 3, 0) else (0, 0, 190)
  else (0, 0, 190)
theorem says_cons (s : Int) (t : List Int) : saysOk (s :: t) = true ↔ (0 ≤ s ∧ s < 4) ∧ saysOk t = true := by
  simp [saysOk]
theorem addT_cons {A B s : Int} {t : List Int} (h : 0 ≤ s ∧ s < 4) : addT A B (s :: t) = addT (A + if s = 1 then 1 else 0) (B + if s > 1 then 1 else 0) t := by
  unfold addT
  rw [cnt_cons, cnt_cons, cnt_cons]
  have e1 : A + (cntC t 1 + if s = 1 then 1 else 0) = A + (if s = 1 then 1 else 0) + cntC t 1 := by omega
  have e2 : B + (cntC t 2 + if s = 2 then 1 else 0) + (cntC t 3 + if s = 3 then 1 else 0) = B + (if s > 1 then 1 else 0) + cntC t 2 + cntC t 3 := by
    rcases (show s = 0 ∨ s = 1 ∨ s = 2 ∨ s = 3 by omega) with rfl | rfl | rfl | rfl <;> simp <;> omega
  rw [e1, e2]
  by_cases hs : saysOk t = true
  · rw [if_pos ((says_cons s t).2 ⟨h, hs⟩), if_pos hs]
  · rw [if_neg (fun c => hs ((says_cons s t).1 c).2), if_neg hs]
theorem radd_tail (l : List Int) (hl : l.length ≤ 1000) : ∀ d : Nat, ∀ (k i : Nat) (A B : Int), i + d = l.length → 2 * d + 5 < k → 0 ≤ A ∧ A + d ≤ 2147490000 → 0 ≤ B ∧ B + d ≤ 2147490000 →
    vespersref19_Add.l0 k l (i : Int) A B = some (addT A B (l.drop i)) := by
  intro d
  induction d with
  | zero =>
    intro k i A B hi hk hA hB
    obtain ⟨k, rfl⟩ : ∃ m, k = m + 1 := ⟨k - 1, by omega⟩
    simp only [vespersref19_Add.l0]
    rw [if_neg (by omega), rmay_eq, Option.bind_some, List.drop_of_length_le (by omega)]
    have e0 : ∀ c, cntC [] c = 0 := fun c => rfl
    unfold addT
    rw [if_pos (show saysOk [] = true from rfl), e0, e0, e0, Int.add_zero, Int.add_zero, Int.add_zero]
    by_cases h : (inC A && inC B) = true
    · rw [if_pos h, if_pos h]
    · rw [if_neg h, if_neg h]
  | succ d ih =>
    intro k i A B hi hk hA hB
    obtain ⟨k, rfl⟩ : ∃ m, k = m + 1 + 1 := ⟨k - 2, by omega⟩
    have hlt : i < l.length := by omega
    have hd : l.drop i = l.getD i 0 :: l.drop (i + 1) := by
      rw [List.drop_eq_getElem_cons hlt, List.getD_eq_getElem?_getD, List.getElem?_eq_getElem hlt]
      rfl
    have hr : rd l (i : Int) = l.getD i 0 := by simp [rd]
    rw [hd]
    have next : ∀ (A' B' : Int), 0 ≤ A' ∧ A' + d ≤ 2147490000 → 0 ≤ B' ∧ B' + d ≤ 2147490000 → vespersref19_Add.l0 k l (wrap64 ((i : Int) + 1)) A' B' = some (addT A' B' (l.drop (i + 1))) := by
      intro A' B' h1 h2
      rw [wrap_id (by omega) (by omega)]
      exact ih k (i + 1) A' B' (by omega) (by omega) h1 h2
    simp only [vespersref19_Add.l0, hr]
    rw [if_pos (by omega), if_pos (by omega)]
    generalize hs : l.getD i 0 = s at *
    have bad : ¬ (0 ≤ s ∧ s < 4) → vespersref19_Add.j1 (k + 1) l (i : Int) true A B = some (addT A B (s :: l.drop (i + 1))) := by
      intro h
      simp only [vespersref19_Add.j1]
      unfold addT
      rw [if_pos trivial, if_neg (fun c => h ((says_cons s _).1 c).1)]
    by_cases h0 : s < 0
    · rw [if_pos h0]; exact bad (by omega)
    rw [if_neg h0]
    by_cases h1 : s > 3
    · rw [decide_eq_true h1]; exact bad (by omega)
    rw [decide_eq_false h1]
    simp only [vespersref19_Add.j1, hr, hs]
    rw [if_neg (by decide), if_pos (by omega), if_pos (by omega), addT_cons (by omega)]
    by_cases h2 : s = 1
    · rw [if_pos h2, if_neg (by omega), if_pos h2, if_neg (by omega), wrap_id (x := A + 1) (by omega) (by omega), Int.add_zero]
      exact next _ _ (by omega) (by omega)
    · rw [if_neg h2, if_neg h2, Int.add_zero]
      by_cases h3 : s > 1
      · rw [if_pos h3, if_pos h3, wrap_id (x := B + 1) (by omega) (by omega)]
        exact next _ _ (by omega) (by omega)
      · rw [if_neg h3, if_neg h3, Int.add_zero]
        exact next _ _ (by omega) (by omega)
theorem radd_eq (a b : Int) (l : List Int) (hl : l.length ≤ 100) (k : Nat) (hk : 250 < k) : vespersref19_Add.f k a b l = some (addC a b l) := by
  unfold vespersref19_Add.f addC
  rw [rmay_eq, Option.bind_some]
  by_cases h : (inC a && inC b) = true
  · have := (inC2 a b).1 h
    rw [if_pos h, if_pos h]
    exact radd_tail l (by omega) l.length k 0 a b (by omega) (by omega) (by omega) (by omega)
  · rw [if_neg h, if_neg h]
theorem add_f (a b : Int) (l : List Int) (hl : l.length ≤ 100) : clique_Add.f a b l = some (addC a b l) := by
  unfold clique_Add.f
  rw [if_pos (by omega)]
theorem test_eq (a b : Int) : vespersref19_Test.f a b = clique_Test.f a b := by
  unfold vespersref19_Test.f clique_Test.f
  rw [rmay_eq, Option.bind_some, show clique_may.f a b = some (inC a && inC b) from rfl, Option.bind_some, show clique_Joined.f = some (0, 0) from rfl, Option.bind_some]
  by_cases h : (inC a && inC b) = true
  · rw [if_pos h, if_pos h]
    by_cases h0 : (a == 0 && b == 0) = true
    · rw [if_pos h0]
      simp at h0
      rw [if_neg (by omega)]
    · rw [if_neg h0]
      by_cases h1 : a ≤ b
      · rw [if_neg (by omega), if_pos h1]
      · rw [if_pos (by omega), if_neg h1]
  · rw [if_neg h, if_neg h]
theorem test_some (a b : Int) : ∃ t, clique_Test.f a b = some t := by
  unfold clique_Test.f
  rw [show clique_may.f a b = some (inC a && inC b) from rfl, Option.bind_some, show clique_Joined.f = some (0, 0) from rfl, Option.bind_some]
  split
  · split
    · exact ⟨_, rfl⟩
    · split
      · exact ⟨_, rfl⟩
      · exact ⟨_, rfl⟩
  · exact ⟨_, rfl⟩
theorem follow_eq (o v a f c d n r : Int) (hv : G16 v) (k : Nat) (hk : 250 < k) : vespersref19_Follow.f k o v a f c d n r = clique_Follow.f o v a f c d n r := by
  unfold vespersref19_Follow.f clique_Follow.f
  rw [rstep_eq o v a f n r hv k (by omega), Option.bind_some, step_f, Option.bind_some]
  generalize stepV o v a f n r = z
  by_cases h : z.2.2.2.2.2 = 0
  · rw [if_pos h, if_pos h, radd_eq c d _ (by simp) k hk, add_f c d _ (by simp)]
  · rw [if_neg h, if_neg h]
theorem follow_some (o v a f c d n r : Int) : ∃ z, clique_Follow.f o v a f c d n r = some z := by
  unfold clique_Follow.f
  rw [step_f, Option.bind_some]
  split
  · rw [add_f c d _ (by simp), Option.bind_some]
    split
    · exact ⟨_, rfl⟩
    · exact ⟨_, rfl⟩
  · exact ⟨_, rfl⟩
theorem counts_tail (l : List Int) (hl : l.length ≤ 100) (e s g a b A B v1 v2 v3 v4 d1 d2 : Int) : ∀ d : Nat, ∀ (k i : Nat), i + d = l.length → d + 5 < k →
    vesperslaw19_CliqueCounts.l0 k l l e e s g s g (l.length : Int) (i : Int) a b A B A B v1 v2 v3 v4 d1 d2 v1 v2 v3 v4 d1 d2 = some true := by
  intro d
  induction d with
  | zero =>
    intro k i hi hk
    obtain ⟨k, rfl⟩ : ∃ m, k = m + 1 := ⟨k - 1, by omega⟩
    obtain ⟨t, ht⟩ := test_some a b
    simp only [vesperslaw19_CliqueCounts.l0]
    rw [if_neg (by omega), test_eq, ht]
    simp only [Option.bind_some, beq_self_eq_true, Bool.and_self, if_true, show clique_Sent.f = some (1, 0) from rfl, show clique_Joined.f = some (0, 0) from rfl]
  | succ d ih =>
    intro k i hi hk
    obtain ⟨k, rfl⟩ : ∃ m, k = m + 1 := ⟨k - 1, by omega⟩
    simp only [vesperslaw19_CliqueCounts.l0]
    rw [if_pos (by omega), if_pos (by omega), if_pos (by omega), if_pos (by omega), if_pos trivial, wrap_id (by omega) (by omega)]
    exact ih k (i + 1) (by omega) (by omega)
theorem CliqueCounts : vesperslaw19_CliqueCounts.Pure := by
  intro c d l o v a f n r _ _ _ _ _ _ hv _ _ _ _
  have hg := wf16 hv
  obtain ⟨k, hk⟩ : ∃ k, k = 1000 := ⟨_, rfl⟩
  refine ⟨k, ?_⟩
  unfold vesperslaw19_CliqueCounts.f
  by_cases hl : (l.length : Int) > 100
  · rw [if_pos hl]
  · obtain ⟨z, hz⟩ := follow_some o v a f c d n r
    rw [if_neg hl, Option.bind_some, if_pos (by simp; omega), Option.bind_some, List.nil_append, add_f c d l (by omega), Option.bind_some, radd_eq c d l (by omega) k (by omega), Option.bind_some, hz, Option.bind_some, follow_eq o v a f c d n r hg k (by omega), hz, Option.bind_some]
    exact counts_tail l (by omega) _ _ _ _ _ _ _ _ _ _ _ _ _ l.length k 0 (by omega) (by omega)
end Go.Proofs.Ytjdojhioifelnaa.Pure
