/- What capture's Forget, Clear and Copy compute, by hand. -/
import Derived.Test.YtfhkmokgbndeeaaHandCap4
set_option linter.unusedVariables false
set_option linter.unusedSimpArgs false
namespace Go.Proofs.Ytfhkmokgbndeeaa.Hand
open Go.RowKit Go.Shelf Go.Proofs.Ytfhkmokgbndeeaa.Cap Go.Proofs.Ytfhkmokgbndeeaa.PA Go.Proofs.YtfhkmokgbndeeaaW.PrintWords Go.Proofs.YtfhkmokgbndeeaaW.PrintMore

theorem grown_but {w w1 : World} {row : Option Nat} (h : w.grownBy w1 none) : w.grownBy w1 row := ⟨h.os, h.tape, h.output, h.size, fun i hi _ => h.block i hi (by simp)⟩
theorem grown_then {a b c : World} {row : Option Nat} (h : a.grownBy b row) (k : b.grownBy c row) : a.grownBy c row :=
  ⟨k.os.trans h.os, k.tape.trans h.tape, k.output.trans h.output, Nat.le_trans h.size k.size, fun i hi hne => (k.block i (Nat.lt_of_lt_of_le hi h.size) hne).trans (h.block i hi hne)⟩
theorem putAt_pair (m : Cp) (k : Nat) (h : 2 * k + 1 < m.length) : putAt (encC m) (k * 4) #[.bool false, .int .i64 0, .bool false, .int .i64 0] = encC ((m.set (2 * k) none).set (2 * k + 1) none) := by
  have h1 := encL_set m (2 * k) (by omega) none
  have h2 := encL_set (m.set (2 * k) none) (2 * k + 1) (by simp; omega) none
  have hl := encL_len m
  unfold putAt encC
  rw [← h2, ← h1, show 2 * (2 * k) = k * 4 by omega, show 2 * (2 * k + 1) = k * 4 + 2 by omega]
  have ha : (List.take (k * 4) (encL m)).length = k * 4 := by rw [List.length_take]; omega
  have hab : (List.take (k * 4) (encL m) ++ cel none).length = k * 4 + 2 := by rw [List.length_append, ha]; rfl
  rw [List.take_left' hab, show k * 4 + 2 + 2 = (List.take (k * 4) (encL m) ++ cel none).length + 2 by rw [hab], List.drop_append, List.drop_drop]
  simp [cel, ha]
theorem forget_core (g : Nat) (n : Int) (m : Cp) (hf : FitM m) (w : World) (hC : CapAt w g m) : Calls Try.prog 17 #[.pointer (some ⟨g, 0, none⟩), .int .i64 n] w fun e w' => e = .returned (.bool (ofR m n).2) ∧ CapAt w' g (forgetM m n) ∧ w.grownBy w' (some g) := by
  unfold forgetM
  cases hr : (ofR m n).2 with
  | false =>
    rw [if_neg (by simp)]
    go_enter Try.func17, Try.ntmps17
    go_wp2_with (go_at_call 16; refine (of_core g n m hf _ hC).mono ?_; rw [hr]; rintro e w1 ⟨rfl, hB⟩)
    go_ret
    exact ⟨rfl, hC.below hB, grown_but (below_grown hB)⟩
  | true =>
    rw [if_pos rfl]
    have hb : 0 ≤ n ∧ n < 16 := by
      rcases Decidable.em (0 ≤ n ∧ n < 16) with h | h
      · exact h
      · unfold ofR at hr; rw [if_neg h] at hr; cases hr
    obtain ⟨k, rfl⟩ := Int.eq_ofNat_of_zero_le hb.1
    have hk : k < 16 := by omega
    have hput := putAt_pair m k (by have := hC.1; omega)
    have hsz := encC_size m
    have hm := hC.1
    go_enter Try.func17, Try.ntmps17
    go_wp2_with (first
      | (go_at_call 16; refine (of_core g (k : Int) m hf _ hC).mono ?_; rw [hr]; rintro e w1 ⟨rfl, hB⟩; have hbk := (hC.below hB).2)
      | ((with_reducible refine gate_store rfl ?_); refine wpList_store_blk rfl 27 _ _ rfl g (k * 4) #[.bool false, .int .i64 0, .bool false, .int .i64 0] rfl rfl hbk (by rw [hsz]; simp; omega) (by kernel_rfl) (by simp [Value.oneCell']) ?_; intro w5 hb5 hg5; rw [hput] at hb5))
    go_ret
    exact ⟨rfl, ⟨by simp [hC.1], hb5⟩, grown_then (grown_but (below_grown hB)) hg5⟩
theorem FitM.forget {m : Cp} (h : FitM m) (n : Int) : FitM (forgetM m n) := by
  unfold forgetM
  split
  · intro j x hx
    unfold atS at hx
    rw [List.getD_eq_getElem?_getD, List.getElem?_set] at hx
    split at hx
    · split at hx <;> simp at hx
    · rw [List.getElem?_set] at hx
      split at hx
      · split at hx <;> simp at hx
      · exact h j x (by unfold atS; rw [List.getD_eq_getElem?_getD]; exact hx)
  · exact h
theorem FitM.none : FitM none32 := by
  intro j x hx
  unfold atS none32 at hx
  rw [List.getD_eq_getElem?_getD, List.getElem?_replicate] at hx
  split at hx <;> simp at hx
theorem none_of_empty (m : Cp) (hm : m.length = 32) (h : devL m (List.range 16) = []) : m = none32 := by
  have hb : ∀ n, n < 16 → (byN m n).2 = false := by
    intro n hn
    have := List.filterMap_eq_nil_iff.1 h n (by simpa using hn)
    cases hx : (byN m n).2 with
    | false => rfl
    | true => simp [hx] at this
  apply List.ext_getElem?
  intro j
  unfold none32
  rw [List.getElem?_replicate]
  by_cases hj : j < 32
  · rw [if_pos hj, List.getElem?_eq_getElem (by omega)]
    have h1 := hb (j / 2) (by omega)
    have hp : (pairN m (j / 2)).1 = Option.none ∧ (pairN m (j / 2)).2 = Option.none := by
      unfold byN byR at h1
      cases h2 : (pairN m (j / 2)).1 <;> cases h3 : (pairN m (j / 2)).2 <;> simp [h2, h3] at h1 ⊢
    have h4 : atS m j = Option.none := by
      rcases (show j = 2 * (j / 2) ∨ j = 2 * (j / 2) + 1 by omega) with q | q
      · rw [q]; exact hp.1
      · rw [q]; exact hp.2
    unfold atS at h4
    rw [List.getD_eq_getElem?_getD, List.getElem?_eq_getElem (by omega)] at h4
    simpa using h4
  · rw [if_neg hj, List.getElem?_eq_none (by omega)]
theorem putAt_full (cur ds : Array Value) (h : ds.size = cur.size) : putAt cur 0 ds = ds := by
  unfold putAt
  rw [List.take_zero, List.drop_of_length_le (by simp; omega)]
  simp
theorem size_cap : (Try.prog.info? 30).map (·.size) = some 64 := by kernel_rfl
theorem under_cap : ∃ fs, Try.prog.underlying 30 = some (.struct fs) := ⟨_, rfl⟩
theorem one_enc (m : Cp) : (encC m).all (·.oneCell') = true := by
  refine all_oneCell_toArray fun v hv => ?_
  unfold encL at hv
  obtain ⟨o, _, ho⟩ := List.mem_flatMap.1 hv
  cases o <;> simp [cel] at ho <;> rcases ho with rfl | rfl <;> rfl
set_option maxRecDepth 100000 in
theorem clear_core (g : Nat) (m : Cp) (hf : FitM m) (w : World) (hC : CapAt w g m) : Calls Try.prog 23 #[.pointer (some ⟨g, 0, none⟩)] w fun e w' => e = .returned (.int .i64 ((devL m (List.range 16)).length : Int)) ∧ CapAt w' g none32 ∧ w.grownBy w' (some g) := by
  by_cases h0 : devL m (List.range 16) = []
  · have hm := none_of_empty m hC.1 h0
    have hl : (devL m (List.range 16)).length = 0 := by rw [h0]; rfl
    go_enter Try.func23, Try.ntmps23
    go_wp2_with (go_at_call 15; refine (count_core g m hf _ hC).mono ?_; rw [hl]; rintro e w1 ⟨rfl, hB⟩)
    go_ret
    exact ⟨by rw [hl]; rfl, hm ▸ hC.below hB, grown_but (below_grown hB)⟩
  · have hp : 0 < (devL m (List.range 16)).length := List.length_pos_iff.2 h0
    obtain ⟨N, hN⟩ : ∃ N, (devL m (List.range 16)).length = N := ⟨_, rfl⟩
    rw [hN] at hp ⊢
    have hpb : decide (0 < N) = true := decide_eq_true hp
    have hsz := encC_size m
    have hm := hC.1
    have hfull := putAt_full (encC m) (encC none32) (by rw [encC_size, encC_size, hm]; rfl)
    have hs0 : (encC none32).size = 64 := by rw [encC_size]; rfl
    go_enter Try.func23, Try.ntmps23
    go_wp2_with (first
      | (go_at_call 15; refine (count_core g m hf _ hC).mono ?_; rw [hN]; rintro e w1 ⟨rfl, hB⟩; have hbk := (hC.below hB).2)
      | ((with_reducible refine gate_store rfl ?_); refine wpList_store_blk rfl 30 _ _ rfl g 0 (encC none32) rfl rfl hbk (by rw [hsz, hs0]; omega) (by rw [hs0]; exact size_cap) (one_enc _) ?_; intro w5 hb5 hg5; rw [hfull] at hb5))
    go_ret
    exact ⟨rfl, ⟨rfl, hb5⟩, grown_then (grown_but (below_grown hB)) hg5⟩
set_option maxRecDepth 100000 in
theorem copy_core (g : Nat) (m : Cp) (w : World) (hC : CapAt w g m) : Calls Try.prog 22 #[.pointer (some ⟨g, 0, none⟩)] w fun e w' => e = .returned (.pointer (some ⟨w.heap.size, 0, none⟩)) ∧ CapAt w' w.heap.size m ∧ Below w.heap.size w w' := by
  have hsz := encC_size m
  have hm := hC.1
  have hbk := hC.2
  have hall := take_all m hm
  obtain ⟨fs, hfs⟩ := under_cap
  have hs0 : (encC m).size = 64 := by rw [hsz, hm]
  go_enter Try.func22, Try.ntmps22
  go_wp2_with (first
    | ((with_reducible refine gate_dst (N := 8) rfl ?_); refine wpList_load_blk rfl 30 _ rfl g 0 64 rfl hbk (by rw [hsz]; omega) _ hfs rfl size_cap ?_; rw [hall])
    | ((with_reducible refine gate_store rfl ?_); refine wpList_store_blk rfl 30 _ _ rfl w.heap.size 0 (encC m) rfl rfl (heap_alloc_new _ _) (by rw [hs0]; simp) (by rw [hs0]; exact size_cap) (one_enc _) ?_; intro w5 hb5 hg5; rw [putAt_full _ _ (by rw [hs0]; simp)] at hb5))
  go_ret
  exact ⟨rfl, ⟨hm, hb5⟩, ((Below.refl _ w).alloc (Nat.le_refl _) _).grown hg5 (by simp) (fun j q => by cases q; exact Nat.le_refl _)⟩
end Go.Proofs.Ytfhkmokgbndeeaa.Hand
