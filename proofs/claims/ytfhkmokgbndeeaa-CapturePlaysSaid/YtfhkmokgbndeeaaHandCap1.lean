/- What capture's node, by, Note and Of compute, by hand. -/
import Derived.Test.YtfhkmokgbndeeaaCap0
import Derived.Test.YtfhkmokgbndeeaaHandStore
import Derived.WalkKit
import Derived.KernelRfl
import Derived.RowKit3
import Derived.Outline
import Derived.Lib.Hide
import Derived.Deep.QuietTactic
import Derived.BigQuiet
import Derived.RegionTactic
import Derived.ChangeAlike
import Derived.BigRegion
import Derived.Deep.RegionWith
set_option linter.unusedVariables false
set_option linter.unusedSimpArgs false
namespace Go.Proofs.Ytfhkmokgbndeeaa.Hand
open Go.RowKit Go.Proofs.Ytfhkmokgbndeeaa.Cap Go.Proofs.YtfhkmokgbndeeaaW.PrintWords Go.Proofs.YtfhkmokgbndeeaaW.PrintMore
attribute [local go_sem] Oper.semAt_some

def nodeB (n : Int) : Bool := decide (0 ≤ n) && decide (n < 16)
theorem cnode_core (n : Int) (w : World) : Calls Try.prog 24 #[.int .i64 n] w fun e w' => e = .returned (.bool (nodeB n)) ∧ w' = w := by
  by_cases h0 : 0 ≤ n
  · by_cases h1 : n < 16
    · go_enter Try.func24, Try.ntmps24
      go_wp2
      go_ret
      exact ⟨by simp [nodeB, h0, h1], rfl⟩
    · go_enter Try.func24, Try.ntmps24
      go_wp2
      go_ret
      exact ⟨by simp [nodeB, h0, h1], rfl⟩
  · have h2 : decide (0 ≤ n) = false := by simpa using h0
    go_enter Try.func24, Try.ntmps24
    go_wp2
    go_ret
    exact ⟨by simp [nodeB, h2], rfl⟩
def fitDev (o : Option Int) : Prop := ∀ x, o = some x → -4294967296 ≤ x ∧ x ≤ 4294967296
theorem run_index_row {P : Program} (w : World) {t e : TypeId} {len sz : Nat} {d : TypeDesc} (hu : P.underlying t = some (.array len e)) (he : P.underlying e = some d) (hd : d.isRow = true) (hi : (P.info? e).map (·.size) = some sz) (cs : Array Value) (i : Int) (h0 : 0 ≤ i) (h1 : i < len) :
    (Instr.index t (.agg cs) (.int .i64 i)).run P w = .ok (.agg (cs.extract (i.toNat * sz) (i.toNat * sz + sz))) w := by
  have hagg : (isAgg e).run P w = .ok true w := by
    unfold isAgg
    rw [Sem.run_bind, run_underlying he w]
    cases d <;> simp_all
  cases hq : P.info? e with
  | none => simp [hq] at hi
  | some inf =>
    have hs : inf.size = sz := by simpa [hq] using hi
    simp [Instr.index, asIntOf, run_underlying hu, h0, h1, sizeOf, typeInfo, hq, hs, part, hagg]
theorem under_both : Try.prog.underlying 27 = some (.array 2 25) := by kernel_rfl
theorem under_maybe : ∃ fs, Try.prog.underlying 25 = some (.struct fs) := ⟨_, rfl⟩
theorem size_maybe : (Try.prog.info? 25).map (·.size) = some 2 := by kernel_rfl
theorem index_both0 (a b : Option Int) (w : World) : (Instr.index 27 (.agg (cel a ++ cel b).toArray) (.int .i64 0)).run Try.prog w = .ok (.agg (cel a).toArray) w := by
  obtain ⟨fs, hf⟩ := under_maybe
  rw [run_index_row w under_both hf rfl size_maybe _ 0 (by omega) (by omega)]
  congr 2
  cases a <;> cases b <;> simp [cel]
theorem index_both1 (a b : Option Int) (w : World) : (Instr.index 27 (.agg (cel a ++ cel b).toArray) (.int .i64 1)).run Try.prog w = .ok (.agg (cel b).toArray) w := by
  obtain ⟨fs, hf⟩ := under_maybe
  rw [run_index_row w under_both hf rfl size_maybe _ 1 (by omega) (by omega)]
  congr 2
  cases a <;> cases b <;> simp [cel]
set_option maxHeartbeats 1000000 in
theorem by_core (a b : Option Int) (ha : fitDev a) (hb : fitDev b) (w : World) : Calls Try.prog 26 #[.agg (cel a ++ cel b).toArray] w fun e w' => e = .returned (.tuple #[.int .i64 (byR a b).1, .bool (byR a b).2]) ∧ Below w.heap.size w w' := by
  have i0 := index_both0 a b
  have i1 := index_both1 a b
  rcases a with _ | x <;> rcases b with _ | y <;> simp only [cel, List.cons_append, List.nil_append] at i0 i1 ⊢
  · go_enter Try.func26, Try.ntmps26
    go_wp2
    refine wp_loop_rounds 3 ?_
    rw [rounds_succ]
    go_wp2
    rw [rounds_succ]
    go_wp2
    rw [rounds_succ]
    go_wp2
    go_ret2
    exact ⟨rfl, (((Below.refl _ w).alloc (Nat.le_refl _) _).alloc (by simp) _).alloc (by simp; omega) _⟩
  · have h1 := hb y rfl
    go_enter Try.func26, Try.ntmps26
    go_wp2
    refine wp_loop_rounds 3 ?_
    rw [rounds_succ]
    go_wp2
    rw [rounds_succ]
    go_wp2
    rw [rounds_succ]
    go_wp2
    go_ret2
    exact ⟨rfl, (((Below.refl _ w).alloc (Nat.le_refl _) _).alloc (by simp) _).alloc (by simp; omega) _⟩
  · have h1 := ha x rfl
    go_enter Try.func26, Try.ntmps26
    go_wp2
    refine wp_loop_rounds 3 ?_
    rw [rounds_succ]
    go_wp2
    rw [rounds_succ]
    go_wp2
    rw [rounds_succ]
    go_wp2
    go_ret2
    exact ⟨rfl, (((Below.refl _ w).alloc (Nat.le_refl _) _).alloc (by simp) _).alloc (by simp; omega) _⟩
  · have h1 := ha x rfl
    have h2 := hb y rfl
    go_enter Try.func26, Try.ntmps26
    go_wp2
    refine wp_loop_rounds 3 ?_
    rw [rounds_succ]
    go_wp2
    rw [rounds_succ]
    go_wp2
    rw [rounds_succ]
    go_wp2
    go_ret2
    exact ⟨rfl, (((Below.refl _ w).alloc (Nat.le_refl _) _).alloc (by simp) _).alloc (by simp; omega) _⟩
theorem note_no (g : Nat) (n ch by_ : Int) (w : World) (h : okN n ch by_ = false) : Calls Try.prog 10 #[.pointer (some ⟨g, 0, none⟩), .int .i64 n, .int .i64 ch, .int .i64 by_] w fun e w' => e = .returned (.int .i64 130) ∧ w' = w := by
  cases hn : nodeB n with
  | false =>
    go_enter Try.func10, Try.ntmps10
    go_wp2_with (go_at_call 24; refine (cnode_core _ _).mono ?_; rintro e w' ⟨rfl, rfl⟩)
    go_ret
    exact ⟨rfl, rfl⟩
  | true =>
    have hb : 0 ≤ n ∧ n < 16 := by simpa [nodeB] using hn
    by_cases h1 : ch < 0
    · have h1b : decide (ch < 0) = true := decide_eq_true h1
      go_enter Try.func10, Try.ntmps10
      go_wp2_with (go_at_call 24; refine (cnode_core _ _).mono ?_; rintro e w' ⟨rfl, rfl⟩)
      go_ret
      exact ⟨rfl, rfl⟩
    have h1b : decide (ch < 0) = false := decide_eq_false h1
    by_cases h2 : 2 ≤ ch
    · have h2b : decide (2 ≤ ch) = true := decide_eq_true h2
      go_enter Try.func10, Try.ntmps10
      go_wp2_with (go_at_call 24; refine (cnode_core _ _).mono ?_; rintro e w' ⟨rfl, rfl⟩)
      go_ret
      exact ⟨rfl, rfl⟩
    have h2b : decide (2 ≤ ch) = false := decide_eq_false h2
    by_cases h3 : by_ < -4294967296
    · have h3b : decide (by_ < -4294967296) = true := decide_eq_true h3
      go_enter Try.func10, Try.ntmps10
      go_wp2_with (go_at_call 24; refine (cnode_core _ _).mono ?_; rintro e w' ⟨rfl, rfl⟩)
      go_ret
      exact ⟨rfl, rfl⟩
    have h3b : decide (by_ < -4294967296) = false := decide_eq_false h3
    by_cases h4 : 4294967296 < by_
    · have h4b : decide (4294967296 < by_) = true := decide_eq_true h4
      go_enter Try.func10, Try.ntmps10
      go_wp2_with (go_at_call 24; refine (cnode_core _ _).mono ?_; rintro e w' ⟨rfl, rfl⟩)
      go_ret
      exact ⟨rfl, rfl⟩
    exfalso
    simp [okN] at h
    have := h (by omega) (by omega) (by omega) (by omega) (by omega)
    omega
theorem putAt_slot (m : Cp) (k c : Nat) (h : slotN k c < m.length) (o : Option Int) : putAt (encC m) (k * 4 + c * 2) (cel o).toArray = encC (m.set (slotN k c) o) := by
  have := encL_set m (slotN k c) h o
  have e : 2 * slotN k c = k * 4 + c * 2 := by unfold slotN; omega
  unfold putAt encC
  rw [← this, e]
  simp [cel_len]
theorem cell_is {m : Cp} {w : World} {g : Nat} {t : TypeId} (hbk : w.heap[g]? = some (.cells (encC m) t (0, 0))) (k c : Nat) (h : slotN k c < m.length) : w.cell? ⟨g, k * 4 + c * 2, none⟩ = some (.bool (atS m (slotN k c)).isSome) := by
  have := encC_is m (slotN k c) h
  rw [show 2 * slotN k c = k * 4 + c * 2 by unfold slotN; omega] at this
  rw [blk_cell hbk, this]
  simp [atS, h]
theorem size_maybe' : (Try.prog.info? 25).map (·.size) = some 2 := by kernel_rfl
set_option maxHeartbeats 1000000 in
theorem note_had (g : Nat) (k : Nat) (c : Nat) (hk : k < 16) (hc : c < 2) (by_ : Int) (hb1 : -4294967296 ≤ by_) (hb2 : by_ ≤ 4294967296) (m : Cp) (hm : m.length = 32) (w : World) (hbk : w.heap[g]? = some (.cells (encC m) 30 (0, 0))) (h0 : (atS m (slotN k c)).isSome = true) :
    Calls Try.prog 10 #[.pointer (some ⟨g, 0, none⟩), .int .i64 (k : Int), .int .i64 (c : Int), .int .i64 by_] w fun e w' => e = .returned (.int .i64 130) ∧ w' = w := by
  have hn : nodeB (k : Int) = true := by simp [nodeB]; omega
  have h1b : decide ((c : Int) < 0) = false := decide_eq_false (by omega)
  have h2b : decide (2 ≤ (c : Int)) = false := decide_eq_false (by omega)
  have h3b : decide (by_ < -4294967296) = false := decide_eq_false (by omega)
  have h4b : decide (4294967296 < by_) = false := decide_eq_false (by omega)
  have hci := cell_is hbk k c (by unfold slotN; omega)
  rw [h0] at hci
  go_enter Try.func10, Try.ntmps10
  go_wp2_with (go_at_call 24; refine (cnode_core _ _).mono ?_; rintro e w' ⟨rfl, rfl⟩)
  go_ret
  exact ⟨rfl, rfl⟩
set_option maxHeartbeats 1000000 in
theorem note_yes (g : Nat) (k : Nat) (c : Nat) (hk : k < 16) (hc : c < 2) (by_ : Int) (hb1 : -4294967296 ≤ by_) (hb2 : by_ ≤ 4294967296) (m : Cp) (hm : m.length = 32) (w : World) (hbk : w.heap[g]? = some (.cells (encC m) 30 (0, 0))) (h0 : atS m (slotN k c) = none) :
    Calls Try.prog 10 #[.pointer (some ⟨g, 0, none⟩), .int .i64 (k : Int), .int .i64 (c : Int), .int .i64 by_] w fun e w' => e = .returned (.int .i64 0) ∧ w'.heap[g]? = some (.cells (encC (m.set (slotN k c) (some by_))) 30 (0, 0)) ∧ w.grownBy w' (some g) := by
  have hn : nodeB (k : Int) = true := by simp [nodeB]; omega
  have h1b : decide ((c : Int) < 0) = false := decide_eq_false (by omega)
  have h2b : decide (2 ≤ (c : Int)) = false := decide_eq_false (by omega)
  have h3b : decide (by_ < -4294967296) = false := decide_eq_false (by omega)
  have h4b : decide (4294967296 < by_) = false := decide_eq_false (by omega)
  have hci := cell_is hbk k c (by unfold slotN; omega)
  rw [h0, Option.isSome_none] at hci
  have hput : putAt (encC m) (k * 4 + c * 2) #[.bool true, .int .i64 by_] = encC (m.set (slotN k c) (some by_)) := putAt_slot m k c (by unfold slotN; omega) (some by_)
  have hsz := encC_size m
  have hsl : slotN k c = 2 * k + c := rfl
  go_enter Try.func10, Try.ntmps10
  go_wp2_with (first
    | (go_at_call 24; refine (cnode_core _ _).mono ?_; rintro e w' ⟨rfl, rfl⟩)
    | ((with_reducible refine gate_store rfl ?_); refine wpList_store_blk rfl 25 _ _ rfl g (k * 4 + c * 2) #[.bool true, .int .i64 by_] rfl rfl hbk (by rw [hsz]; simp; omega) (by kernel_rfl) (by simp [Value.oneCell']) ?_; intro w5 hb5 hg5; rw [hput] at hb5))
  go_ret
  exact ⟨rfl, hb5, hg5⟩
/-- A capture stands in block g. -/
structure CapAt (w : World) (g : Nat) (m : Cp) : Prop where
  size_ : m.length = 32
  blk : w.heap[g]? = some (.cells (encC m) 30 (0, 0))
theorem CapAt.len {w : World} {g : Nat} {m : Cp} (h : CapAt w g m) : m.length = 32 := h.1
theorem CapAt.lt {w : World} {g : Nat} {m : Cp} (h : CapAt w g m) : g < w.heap.size := blk_lt h.2
theorem CapAt.below {w w1 : World} {g : Nat} {m : Cp} (h : CapAt w g m) (hb : Below w.heap.size w w1) : CapAt w1 g m := ⟨h.1, blk_below h.2 hb⟩
theorem CapAt.grown {w w1 : World} {g : Nat} {m : Cp} {row : Option Nat} (h : CapAt w g m) (hg : w.grownBy w1 row) (hne : some g ≠ row) : CapAt w1 g m := ⟨h.1, blk_grown h.2 hg hne⟩
theorem note_core (g : Nat) (n ch by_ : Int) (m : Cp) (w : World) (hC : CapAt w g m) :
    Calls Try.prog 10 #[.pointer (some ⟨g, 0, none⟩), .int .i64 n, .int .i64 ch, .int .i64 by_] w fun e w' => e = .returned (.int .i64 (noteE m n ch by_)) ∧ CapAt w' g (noteM m n ch by_) ∧ w.grownBy w' (some g) := by
  unfold noteE noteM
  cases ho : okN n ch by_ with
  | false =>
    rw [if_neg (by simp), if_neg (by simp)]
    exact (note_no g n ch by_ w ho).mono fun e w' ⟨he, hw⟩ => ⟨he, hw ▸ hC, hw ▸ World.grownBy.refl _ _⟩
  | true =>
    have hb : 0 ≤ n ∧ n < 16 ∧ 0 ≤ ch ∧ ch < 2 ∧ -4294967296 ≤ by_ ∧ by_ ≤ 4294967296 := by simpa [okN] using ho
    obtain ⟨b1, b2, b3, b4, b5, b6⟩ := hb
    obtain ⟨k, rfl⟩ := Int.eq_ofNat_of_zero_le b1
    obtain ⟨c, rfl⟩ := Int.eq_ofNat_of_zero_le b3
    simp only [Int.toNat_natCast, true_and]
    cases h0 : atS m (slotN k c) with
    | none =>
      rw [if_pos rfl, if_pos rfl]
      exact (note_yes g k c (by omega) (by omega) by_ b5 b6 m hC.1 w hC.2 h0).mono fun e w' ⟨he, hw, hg⟩ => ⟨he, ⟨by simp [hC.1], hw⟩, hg⟩
    | some x =>
      rw [if_neg (by simp), if_neg (by simp)]
      exact (note_had g k c (by omega) (by omega) by_ b5 b6 m hC.1 w hC.2 (by rw [h0]; rfl)).mono fun e w' ⟨he, hw⟩ => ⟨he, hw ▸ hC, hw ▸ World.grownBy.refl _ _⟩
end Go.Proofs.Ytfhkmokgbndeeaa.Hand
