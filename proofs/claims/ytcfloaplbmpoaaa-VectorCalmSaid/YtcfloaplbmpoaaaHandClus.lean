/- The making of a cluster of nodes, and what a round of questions leans on, by hand. -/
import Derived.Test.YtcfloaplbmpoaaaHandSlot
import Derived.Test.YtcfloaplbmpoaaaPBx2
set_option linter.unusedVariables false
set_option linter.unusedSimpArgs false
namespace Go.Proofs.Ytcfloaplbmpoaaa.Hand
open Go.RowKit Go.Shelf Go.Proofs.Ytcfloaplbmpoaaa.Grp Go.Proofs.Ytcfloaplbmpoaaa.Cl Go.Proofs.Ytcfloaplbmpoaaa.PA Go.Proofs.Ytcfloaplbmpoaaa.PB Go.Proofs.YtcfloaplbmpoaaaW.PrintWords Go.Proofs.YtcfloaplbmpoaaaW.PrintLast Go.Proofs.YtcfloaplbmpoaaaW.PrintMore
attribute [local go_sem] Oper.semAt_some

theorem slot_at (g bl bz cl cz base s n : Nat) (sI d : Int) (deaf : Nat) (lose : Bool) (L L' : List Q) (w : World) (hc : CL w g bl bz cl cz n L L) (hb1 : base ≤ g) (hb2 : base ≤ bl) (hb3 : base ≤ bz) (hb4 : base ≤ w.heap.size) (hn : n ≤ 16) (m : Nat) (hm : m < 1000000) (hv : ∀ q ∈ L, q.v < 65536 ∧ q.z ≤ m)
    (hs : s < n) (hd : ∀ i : Nat, i < 16 → ((i : Int) == d) = (i == deaf)) (h : slot s deaf lose L = some L') (hI : sI = (s : Int)) :
    Calls Try.prog 25 #[.pointer (some ⟨g, 0, none⟩), .int .i64 sI, .int .i64 d, .bool lose] w fun e w' => e = .returned (.bool true) ∧ CL w' g bl bz cl cz n L' L' ∧ (∀ q ∈ L', q.v < 65536 ∧ q.z ≤ m + 1) ∧ Below base w w' ∧ base ≤ w'.heap.size := by
  subst hI
  exact slot_core g bl bz cl cz base s n d deaf lose L L' w hc hb1 hb2 hb3 hb4 hn m hm hv hs hd h
set_option maxHeartbeats 1000000 in
theorem first_core (n : Nat) (h0 : 3 ≤ n) (h1 : n ≤ 16) (w : World) : Calls Try.prog 24 #[.int .i64 n] w fun e w' => e = .returned (.int .u16 ((2 ^ n - 1 : Nat) : Int)) ∧ w' = w := by
  have : n = 3 ∨ n = 4 ∨ n = 5 ∨ n = 6 ∨ n = 7 ∨ n = 8 ∨ n = 9 ∨ n = 10 ∨ n = 11 ∨ n = 12 ∨ n = 13 ∨ n = 14 ∨ n = 15 ∨ n = 16 := by omega
  clear h0 h1
  rcases this with rfl | rfl | rfl | rfl | rfl | rfl | rfl | rfl | rfl | rfl | rfl | rfl | rfl | rfl <;> (go_enter Try.func24, Try.ntmps24; go_wp2; go_ret; exact ⟨rfl, rfl⟩)
theorem info_view : (Try.prog.info? 25).map (fun i => (i.zero, i.size, i.bytes)) = some (some (.agg #[.int .i64 0, .int .u16 0, .int .i64 0, .int .i64 0]), 4, 32) := by kernel_rfl
theorem info_int : (Try.prog.info? 3).map (fun i => (i.zero, i.size, i.bytes)) = some (some (.int .i64 0), 1, 8) := by kernel_rfl
theorem zl_of_R {w : World} {base : Nat} {ok : Nat → Prop} {v : Value} {xs : List Int} (h : Kd.R (Kd.int .i64) 3 w base ok v xs) (h0 : 0 < xs.length) :
    ∃ g cap cur, v = .slice (some ⟨g, 0, none⟩) xs.length cap ∧ base ≤ g ∧ w.heap[g]? = some (.cells cur 3 (0, 0)) ∧ ∀ (i : Nat) (x : Int), xs[i]? = some x → cur[i]? = some (Value.int .i64 x) := by
  obtain ⟨inner, hown⟩ := Kd.R_own h
  rcases hown.2 with ⟨_, hn⟩ | ⟨g, cap, cur, rfl, hg, hh, hc, _, _, _⟩
  · omega
  · refine ⟨g, cap, cur, rfl, hg, hh, fun i x hx => ?_⟩
    have hlt := (List.getElem?_eq_some_iff.1 hx).1
    obtain ⟨ad, e, hcell⟩ := Kd.at_int (Kd.R_reads' h).2.2 (i : Int) (by omega) (by omega)
    cases e
    rw [Int.toNat_natCast] at hcell
    have e2 : w.cell? ((⟨g, 0, none⟩ : Addr).add i) = cur[i]? := by
      have := blk_cell hh (0 + i)
      rw [Nat.zero_add] at this
      rw [← this]
      by_cases hi0 : i = 0 <;> simp [Addr.add, hi0]
    rw [e2] at hcell
    rw [hcell]
    simp [rd, hx]
/-- The cells of as many views. -/
def flat (all : Nat) : Nat → List Value
  | 0 => []
  | i + 1 => flat all i ++ [.int .i64 i, .int .u16 all, .int .i64 0, .int .i64 0]
theorem flat_len (all : Nat) : ∀ i, (flat all i).length = i * 4
  | 0 => rfl
  | i + 1 => by rw [flat, List.length_append, flat_len all i]; simp; omega
theorem flat_at (all : Nat) : ∀ (n i j : Nat), i < n → j < 4 → (flat all n)[i * 4 + j]? = [Value.int .i64 i, .int .u16 all, .int .i64 0, .int .i64 0][j]?
  | 0, i, j, h, _ => absurd h (Nat.not_lt_zero i)
  | n + 1, i, j, h, hj => by
    rw [flat]
    by_cases e : i = n
    · subst e
      rw [List.getElem?_append_right (by rw [flat_len]; omega), flat_len]
      congr 1
      omega
    · rw [List.getElem?_append_left (by rw [flat_len]; omega)]
      exact flat_at all n i j (by omega) hj
theorem vl_of_flat {L : List Q} {all n : Nat} {cur : Array Value} (hc : cur.toList.take (n * 4) = flat all n) (hl : L.length = n) (h : ∀ q ∈ L, q.v = all ∧ q.a = 0 ∧ q.f = 0) : VL L cur := by
  intro i q hq
  have hi : i < n := by have := (List.getElem?_eq_some_iff.1 hq).1; omega
  obtain ⟨h1, h2, h3⟩ := h q (List.mem_of_getElem? hq)
  have key : ∀ j, j < 4 → cur[i * 4 + j]? = [Value.int .i64 i, .int .u16 all, .int .i64 0, .int .i64 0][j]? := by
    intro j hj
    rw [← flat_at all n i j hi hj, ← hc, List.getElem?_take_of_lt (by omega), Array.getElem?_toList]
  rw [h1, h2, h3]
  exact ⟨key 0 (by decide), key 1 (by decide), key 2 (by decide), key 3 (by decide)⟩
theorem startC_at {k all n i : Nat} {q : Q} (h : (startC k all n)[i]? = some q) : i < n ∧ q = ⟨all, 0, 0, bif i == k then 1 else 0⟩ := by
  unfold startC at h
  rw [List.getElem?_map] at h
  cases hr : (List.range n)[i]? with
  | none => rw [hr] at h; cases h
  | some j =>
    rw [hr] at h
    obtain ⟨h1, h2⟩ := List.getElem?_eq_some_iff.1 hr
    rw [List.length_range] at h1
    rw [List.getElem_range] at h2
    subst h2
    exact ⟨h1, (Option.some.inj h).symm⟩
theorem startC_len (k all n : Nat) : (startC k all n).length = n := by simp [startC]
theorem startC_mem {k all n : Nat} {q : Q} (h : q ∈ startC k all n) : q.v = all ∧ q.a = 0 ∧ q.f = 0 ∧ q.z ≤ 1 := by
  obtain ⟨i, hi⟩ := List.getElem?_of_mem h
  obtain ⟨_, rfl⟩ := startC_at hi
  refine ⟨rfl, rfl, rfl, ?_⟩
  cases (i == k) <;> simp
theorem zl_none {k all n : Nat} {cur : Array Value} (hz : ∀ (i : Nat) (x : Int), (List.replicate n (0 : Int))[i]? = some x → cur[i]? = some (Value.int .i64 x)) (hk : n ≤ k) : ZL (startC k all n) cur := by
  intro i q h
  obtain ⟨hi, rfl⟩ := startC_at h
  have e : (i == k) = false := beq_eq_false_iff_ne.mpr (by omega)
  simp only [e, cond_false]
  exact hz i 0 (by simp [hi])
theorem zl_lost {k all n : Nat} {cur : Array Value} (hz : ∀ (i : Nat) (x : Int), (List.replicate n (0 : Int))[i]? = some x → cur[i]? = some (Value.int .i64 x)) (hk : k < n) : ZL (startC k all n) (cur.setIfInBounds k (.int .i64 1)) := by
  intro i q h
  obtain ⟨hi, rfl⟩ := startC_at h
  have hs : k < cur.size := (Array.getElem?_eq_some_iff.1 (hz k 0 (by simp [hk]))).1
  by_cases e : i = k
  · subst e
    simp [hs]
  · have e' : (i == k) = false := beq_eq_false_iff_ne.mpr e
    rw [Array.getElem?_setIfInBounds_ne (by omega)]
    simp only [e', cond_false]
    exact hz i 0 (by simp [hi])
theorem beq_cast (a b : Nat) : ((a : Int) == (b : Int)) = (a == b) := by
  cases h : (a == b) with
  | true => rw [beq_iff_eq.1 h]; simp
  | false =>
    have : a ≠ b := by simpa using h
    exact beq_eq_false_iff_ne.mpr (by omega)
theorem emod_cast (a b : Nat) : (a : Int) % (b : Int) = ((a % b : Nat) : Int) := rfl
theorem no_deaf : ∀ i : Nat, i < 16 → ((i : Int) == (-1)) = (i == 99) := by
  intro i h
  have h1 : ((i : Int) == (-1)) = false := beq_eq_false_iff_ne.mpr (by omega)
  have h2 : (i == 99) = false := beq_eq_false_iff_ne.mpr (by omega)
  rw [h1, h2]
theorem res_nil (w : World) : Calls Try.prog 13 #[.slice none 0 0, .int .u16 0] w fun e w' => e = .returned (.int .i64 1) ∧ Below w.heap.size w w' := by
  go_enter Try.func13, Try.ntmps13
  go_wp2
  go_ret
  exact ⟨rfl, Below.refl _ _⟩
theorem own_ne {w : World} {base n g t e size : Nat} {v : Value} {xs : List Value} {cs : Array Value} (h : w.ownsRow base e size v n xs) (hg : w.heap[g]? = some (.cells cs t (0, 0))) (ht : e ≠ t) : some g ≠ v.ownBlock := by
  intro q
  obtain ⟨c, hc⟩ := own_typed h g q.symm
  rw [hg] at hc
  cases hc
  exact ht rfl
theorem own_slice {w : World} {base n e size : Nat} {v : Value} {xs : List Value} (h : w.ownsRow base e size v n xs) (h0 : 0 < n) : ∃ g cap, v = .slice (some ⟨g, 0, none⟩) n cap := by
  rcases h.2 with ⟨_, hn⟩ | ⟨g, cap, cur, rfl, _⟩
  · omega
  · exact ⟨g, cap, rfl⟩
theorem own_far {w : World} {base n g t e size : Nat} {v : Value} {xs : List Value} {cs : Array Value} (h : w.ownsRow base e size v n xs) (hg : w.heap[g]? = some (.cells cs t (0, 0))) (ht : e ≠ t) (j : Nat) (u : Value) : (w.setCell ⟨g, j, none⟩ u).ownsRow base e size v n xs :=
  own_move h (fun k hk => Below.heap_setCell w ⟨g, j, none⟩ u k (fun q => own_ne h hg ht (by rw [hk]; exact congrArg some q.symm)))
end Go.Proofs.Ytcfloaplbmpoaaa.Hand
