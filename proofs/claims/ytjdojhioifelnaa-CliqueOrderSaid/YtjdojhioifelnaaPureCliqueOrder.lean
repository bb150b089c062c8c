/- CliqueOrder: the counters behind what slots say do not hang on the order or the parts in which it is added. -/
import Derived.Test.YtjdojhioifelnaaPAx3
namespace Go.Proofs.Ytjdojhioifelnaa.Pure
open Go.RowKit Go.Proofs.Ytjdojhioifelnaa.Hand Go.Proofs.Ytjdojhioifelnaa.PA Go.Proofs.YtjdojhioifelnaaW.PrintWords Go.Proofs.YtjdojhioifelnaaW.PrintLast

theorem alive_true : vesperslaw19_alive.f = some true := by decide +kernel

theorem wrap_id {x : Int} (h0 : -9223372036854775808 ≤ x) (h1 : x ≤ 9223372036854775807) : wrap64 x = x := by
  unfold wrap64; omega

theorem cntC_perm {l m : List Int} (h : l.Perm m) (k : Int) : cntC l k = cntC m k := by
  unfold cntC; rw [h.countP_eq]
theorem saysOk_perm {l m : List Int} (h : l.Perm m) : saysOk l = saysOk m := by
  unfold saysOk
  rw [Bool.eq_iff_iff]
  simp only [List.all_eq_true]
  exact ⟨fun H x hx => H x (h.mem_iff.2 hx), fun H x hx => H x (h.mem_iff.1 hx)⟩
theorem addC_perm (a b : Int) {l m : List Int} (h : l.Perm m) : addC a b l = addC a b m := by
  unfold addC
  rw [saysOk_perm h, cntC_perm h 1, cntC_perm h 2, cntC_perm h 3]
theorem cntC_app (l m : List Int) (k : Int) : cntC (l ++ m) k = cntC l k + cntC m k := by
  unfold cntC; rw [List.countP_append]; omega
theorem saysOk_app (l m : List Int) : saysOk (l ++ m) = (saysOk l && saysOk m) := by simp [saysOk]
theorem inC_iff (n : Int) : inC n = true ↔ 0 ≤ n ∧ n ≤ 2147483647 := by simp [inC]
/-- What an addition that went well says. -/
theorem addC_ok {a b p q : Int} {l : List Int} (h : addC a b l = (p, q, 0)) : inC a = true ∧ inC b = true ∧ saysOk l = true ∧ p = a + cntC l 1 ∧ q = b + cntC l 2 + cntC l 3 ∧ inC p = true ∧ inC q = true := by
  unfold addC at h
  split at h
  · rename_i h1
    split at h
    · rename_i h2
      split at h
      · rename_i h3
        simp only [Prod.mk.injEq] at h
        simp only [Bool.and_eq_true] at h1 h3
        obtain ⟨rfl, rfl, _⟩ := h
        exact ⟨h1.1, h1.2, h2, rfl, rfl, h3.1, h3.2⟩
      · simp at h
    · simp at h
  · simp at h
theorem addC_mk {a b : Int} {l : List Int} (ha : inC a = true) (hb : inC b = true) (hs : saysOk l = true) (hp : inC (a + cntC l 1) = true) (hq : inC (b + cntC l 2 + cntC l 3) = true) : addC a b l = (a + cntC l 1, b + cntC l 2 + cntC l 3, 0) := by
  unfold addC
  simp [ha, hb, hs, hp, hq]
/-- .. and one that did not. -/
theorem addC_no {a b : Int} {l : List Int} (h : (addC a b l).2.2 ≠ 0) : addC a b l = (0, 0, 190) := by
  unfold addC at h ⊢
  split
  · rename_i h1
    rw [if_pos h1] at h
    split
    · rename_i h2
      rw [if_pos h2] at h
      split
      · rename_i h3
        rw [if_pos h3] at h
        exact absurd rfl h
      · rfl
    · rfl
  · rfl
theorem addC_err (a b : Int) (l : List Int) : (addC a b l).2.2 = 0 ∨ addC a b l = (0, 0, 190) := by
  by_cases h : (addC a b l).2.2 = 0
  · exact .inl h
  · exact .inr (addC_no h)

/-- The loop that turns the list round. -/
theorem back_loop (l : List Int) (a2 : Int) (x7 : Bool) (x9 s0 s1 p q : Int) (hn : l.length ≤ 100) (d : Nat) : ∀ (k i : Nat) (xs : List Int), i + d = l.length → d < k → xs.length = l.length → (∀ j, j < i → xs[l.length - 1 - j]? = l[j]?) →
    ∃ k', vesperslaw19_CliqueOrder.l0 k l a2 x7 x9 xs (l.length : Int) (i : Int) s0 s1 p q = vesperslaw19_CliqueOrder.l0 (k' + 1) l a2 x7 x9 l.reverse (l.length : Int) (l.length : Int) s0 s1 p q ∧ k' + 1 + d = k := by
  induction d with
  | zero =>
    intro k i xs hi hk hx hj
    obtain ⟨k, rfl⟩ : ∃ m, k = m + 1 := ⟨k - 1, by omega⟩
    have : xs = l.reverse := by
      apply List.ext_getElem?
      intro m
      rcases Nat.lt_or_ge m l.length with hm | hm
      · have := hj (l.length - 1 - m) (by omega)
        rw [show l.length - 1 - (l.length - 1 - m) = m by omega] at this
        rw [this, List.getElem?_reverse hm]
      · rw [List.getElem?_eq_none (by omega), List.getElem?_eq_none (by simp; omega)]
    obtain rfl : i = l.length := by omega
    exact ⟨k, by rw [this], by omega⟩
  | succ d ih =>
    intro k i xs hi hk hx hj
    obtain ⟨k, rfl⟩ : ∃ m, k = m + 1 := ⟨k - 1, by omega⟩
    have e1 : wrap64 ((l.length : Int) - 1) = (l.length : Int) - 1 := wrap_id (by omega) (by omega)
    have e2 : wrap64 ((l.length : Int) - 1 - (i : Int)) = (l.length : Int) - 1 - (i : Int) := wrap_id (by omega) (by omega)
    have e3 : wrap64 ((i : Int) + 1) = ((i + 1 : Nat) : Int) := by rw [wrap_id (by omega) (by omega)]; omega
    have e4 : ((l.length : Int) - 1 - (i : Int)).toNat = l.length - 1 - i := by omega
    obtain ⟨k', hk', hk2⟩ := ih k (i + 1) (xs.set (l.length - 1 - i) (rd l (i : Int))) (by omega) (by omega) (by simpa using hx) (fun j hji => by
      rw [List.getElem?_set]
      split
      · rename_i h
        obtain rfl : i = j := by omega
        rw [if_pos (by omega)]
        simp [rd, List.getElem?_eq_getElem (show i < l.length by omega)]
      · exact hj j (by omega))
    refine ⟨k', ?_, by omega⟩
    rw [← hk']
    simp only [vesperslaw19_CliqueOrder.l0]
    rw [if_pos (by omega), if_pos (by omega), if_pos (by omega), e1, e2, if_pos (by omega), if_pos (by omega), e3, e4]

theorem Test_f (a b : Int) : clique_Test.f a b = some (if (inC a && inC b) = true then if a ≤ b then 191 else 0 else 190) := by
  unfold clique_Test.f clique_may.f clique_Joined.f
  simp only [Option.bind_some]
  split
  · split
    · rename_i h
      simp only [Bool.and_eq_true, beq_iff_eq] at h
      rw [if_pos (by omega)]
    · split <;> rfl
  · rfl

theorem cut_at (a2 : Int) (n : Nat) (h : 0 ≤ a2 ∧ a2 ≤ 255) (hn : n ≤ 100) : wrap64 ((n : Int) + 1) ≠ 0 ∧ ∃ m : Nat, Int.tmod (wrap64 a2) (wrap64 ((n : Int) + 1)) = (m : Int) ∧ m ≤ n := by
  have e1 : wrap64 ((n : Int) + 1) = (n : Int) + 1 := wrap_id (by omega) (by omega)
  have e2 : wrap64 a2 = a2 := wrap_id (by omega) (by omega)
  rw [e1, e2]
  clear e1 e2
  refine ⟨by omega, ?_⟩
  have hpos : (0 : Int) < (n : Int) + 1 := by omega
  have e4 := Int.emod_nonneg a2 (show (n : Int) + 1 ≠ 0 by omega)
  have e5 := Int.emod_lt_of_pos a2 hpos
  rw [Int.tmod_eq_emod_of_nonneg h.1]
  generalize a2 % ((n : Int) + 1) = z at e4 e5
  exact ⟨z.toNat, by omega, by omega⟩

theorem CliqueOrder : vesperslaw19_CliqueOrder.Pure := by
  intro a b l a2 ha hb hm hm8 hl h2
  have h2' : 0 ≤ a2 ∧ a2 ≤ 255 := by simpa [Lit.wf, IntKind.min, IntKind.max, IntKind.bits, IntKind.signed] using h2
  by_cases hlen : (l.length : Int) > 100
  · refine ⟨1, ?_⟩
    unfold vesperslaw19_CliqueOrder.f
    rw [alive_true]
    simp only [Option.bind_some]
    rw [if_pos hlen]
    simp [vesperslaw19_CliqueOrder.j0]
  · refine ⟨l.length + 5, ?_⟩
    unfold vesperslaw19_CliqueOrder.f
    rw [alive_true]
    simp only [Option.bind_some]
    rw [if_neg hlen]
    simp only [vesperslaw19_CliqueOrder.j0]
    rw [if_neg (by simp)]
    have hf : ∀ (x y : Int) (m : List Int), m.length ≤ 100 → clique_Add.f x y m = some (addC x y m) := fun x y m h => by unfold clique_Add.f; rw [if_pos (by omega)]
    rw [hf _ _ _ (by omega)]
    simp only [Option.bind_some]
    rw [if_pos (by omega), if_pos (by simp; omega)]
    obtain ⟨k', hk', hkk⟩ := back_loop l a2 true (addC a b l).2.2 a b (addC a b l).1 (addC a b l).2.1 (by omega) l.length (l.length + 4) 0 (List.replicate ((l.length : Int)).toNat 0) (by omega) (by omega) (by simp) (fun j hj => by omega)
    rw [show ((0 : Nat) : Int) = (0 : Int) from rfl] at hk'
    rw [hk']
    obtain rfl : k' = 3 := by omega
    simp only [vesperslaw19_CliqueOrder.l0]
    rw [if_neg (by omega), hf _ _ _ (by simp; omega), addC_perm a b (List.reverse_perm l)]
    simp only [Option.bind_some]
    rw [if_neg (by simp), show ((addC a b l).2.2 != (addC a b l).2.2) = false by simp]
    simp only [vesperslaw19_CliqueOrder.j2]
    rw [if_neg (by simp)]
    rcases addC_err a b l with he | he
    · rw [if_pos he]
      obtain ⟨p, q, hpq⟩ : ∃ p q, addC a b l = (p, q, 0) := ⟨_, _, Prod.ext rfl (Prod.ext rfl he)⟩
      rw [hpq]
      obtain ⟨ha', hb', hs, hp, hq, hpi, hqi⟩ := addC_ok hpq
      obtain ⟨hne, n, hn, hnl⟩ := cut_at a2 l.length h2' (by omega)
      rw [if_neg hne, hn, if_pos (by omega), if_pos (by omega), Int.toNat_natCast, hf _ _ _ (by simp; omega)]
      clear hn hne
      simp only [Option.bind_some]
      rw [hf _ _ _ (by simp; omega), hf _ _ _ (by simp)]
      simp only [Option.bind_some]
      have hsplit : l.take n ++ l.drop n = l := List.take_append_drop n l
      have hs1 : saysOk (l.take n) = true ∧ saysOk (l.drop n) = true := by
        have := saysOk_app (l.take n) (l.drop n)
        rw [hsplit, hs] at this
        simpa using this.symm
      have hc : ∀ k, cntC l k = cntC (l.take n) k + cntC (l.drop n) k := fun k => by rw [← cntC_app, hsplit]
      have n1 := fun k => cntC_le (l.take n) k
      have n2 := fun k => cntC_le (l.drop n) k
      rw [inC_iff] at hpi hqi ha' hb'
      have c1 := hc 1; have c2 := hc 2; have c3 := hc 3
      have m1 := n1 1; have m2 := n1 2; have m3 := n1 3
      have o1 := n2 1; have o2 := n2 2; have o3 := n2 3
      have hA : addC a b (l.take n) = (a + cntC (l.take n) 1, b + cntC (l.take n) 2 + cntC (l.take n) 3, 0) :=
        addC_mk ((inC_iff _).2 ha') ((inC_iff _).2 hb') hs1.1 ((inC_iff _).2 (by omega)) ((inC_iff _).2 (by omega))
      rw [hA]
      simp only
      have hB : addC (a + cntC (l.take n) 1) (b + cntC (l.take n) 2 + cntC (l.take n) 3) (l.drop n) = (p, q, 0) := by
        rw [addC_mk ((inC_iff _).2 (by omega)) ((inC_iff _).2 (by omega)) hs1.2 ((inC_iff _).2 (by omega)) ((inC_iff _).2 (by omega))]
        simp only [Prod.mk.injEq]
        exact ⟨by omega, by omega, trivial⟩
      rw [hB]
      simp only [if_true]
      simp only [vesperslaw19_CliqueOrder.j3]
      rw [if_neg (by simp)]
      simp only [if_true]
      rcases addC_err p q [1] with hm | hm
      · rw [if_pos hm]
        obtain ⟨p', q', hpq'⟩ : ∃ p' q', addC p q [1] = (p', q', 0) := ⟨_, _, Prod.ext rfl (Prod.ext rfl hm)⟩
        rw [hpq']
        obtain ⟨_, _, _, hp1, hq1, hpi1, hqi1⟩ := addC_ok hpq'
        have d1 : cntC [1] 1 = 1 := rfl
        have d2 : cntC [1] 2 = 0 := rfl
        have d3 : cntC [1] 3 = 0 := rfl
        simp only [Test_f, Option.bind_some, hpi1, hqi1, (inC_iff p).2 hpi, (inC_iff q).2 hqi, Bool.and_self, if_true]
        by_cases hle : p ≤ q
        · rw [if_pos hle, if_neg (by omega)]
        · rw [if_neg hle, if_pos rfl, if_neg (by omega)]
          rfl
      · rw [hm, if_neg (by simp)]
    · rw [he, if_neg (by simp)]
      simp

end Go.Proofs.Ytjdojhioifelnaa.Pure
