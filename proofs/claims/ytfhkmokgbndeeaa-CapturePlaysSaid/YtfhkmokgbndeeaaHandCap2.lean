/- What capture's Of and its iterator compute, by hand. -/
import Derived.Test.YtfhkmokgbndeeaaHandCap1
import Derived.RangeFuncNested
import Derived.RangeFuncBound
import Derived.RangeFuncBox
import Derived.RangeFuncCalls
import Derived.RangeFuncLeaves
import Derived.Shelf.Abstract
import Derived.Shelf.RegionOpen
import Derived.OwnWalkIn
import Derived.TacticsInMore
import Derived.LoopNIn
import Derived.LoopIn
import Derived.Scope
import Derived.Maps.AppendAt
set_option linter.unusedVariables false
set_option linter.unusedSimpArgs false
namespace Go.Proofs.Ytfhkmokgbndeeaa.Hand
open Go.RowKit Go.Shelf Go.Proofs.Ytfhkmokgbndeeaa.Cap Go.Proofs.YtfhkmokgbndeeaaW.PrintWords Go.Proofs.YtfhkmokgbndeeaaW.PrintMore
attribute [local go_sem] Oper.semAt_some

def pairV (m : Cp) (n : Nat) : Array Value := (cel (pairN m n).1 ++ cel (pairN m n).2).toArray
theorem pairV_size (m : Cp) (n : Nat) : (pairV m n).size = 4 := by simp [pairV, cel_len]
theorem take_pair (m : Cp) (k : Nat) (h : 2 * k + 1 < m.length) : (takeAt (encC m) (k * 4) 4).toArray = pairV m k := by
  have h1 := encL_get m (2 * k) (by omega)
  have h2 := encL_get m (2 * k + 1) h
  have hl := encL_len m
  have p0 : 2 * k < m.length := by omega
  have e0 : (encL m)[k * 4]? = some (.bool (m[2 * k]).isSome) := by rw [show k * 4 = 2 * (2 * k) by omega]; exact h1.1
  have e1 : (encL m)[k * 4 + 1]? = some (.int .i64 ((m[2 * k]).getD 0)) := by rw [show k * 4 + 1 = 2 * (2 * k) + 1 by omega]; exact h1.2
  have e2 : (encL m)[k * 4 + 2]? = some (.bool (m[2 * k + 1]).isSome) := by rw [show k * 4 + 2 = 2 * (2 * k + 1) by omega]; exact h2.1
  have e3 : (encL m)[k * 4 + 3]? = some (.int .i64 ((m[2 * k + 1]).getD 0)) := by rw [show k * 4 + 3 = 2 * (2 * k + 1) + 1 by omega]; exact h2.2
  have hc : ∀ o : Option Int, cel o = [.bool o.isSome, .int .i64 (o.getD 0)] := by intro o; cases o <;> rfl
  unfold pairV takeAt encC pairN atS
  simp only [hc]
  congr 1
  apply List.ext_getElem?
  intro i
  rw [List.getElem?_take]
  by_cases hi : i < 4
  · rw [if_pos hi, List.getElem?_drop]
    match i, hi with
    | 0, _ => rw [Nat.add_zero, e0]; simp [show 2 * k < m.length by omega]
    | 1, _ => rw [e1]; simp [show 2 * k < m.length by omega]
    | 2, _ => rw [e2]; simp [h]
    | 3, _ => rw [e3]; simp [h]
  · rw [if_neg hi, List.getElem?_eq_none (by simp; omega)]
theorem take_all (m : Cp) (h : m.length = 32) : (takeAt (encC m) 0 64).toArray = encC m := by
  have := encL_len m
  unfold takeAt encC
  rw [List.drop_zero, List.take_of_length_le (by simp; omega)]
theorem under_row : Try.prog.underlying 28 = some (.array 16 27) := by kernel_rfl
theorem size_both : (Try.prog.info? 27).map (·.size) = some 4 := by kernel_rfl
theorem size_row : (Try.prog.info? 28).map (·.size) = some 64 := by kernel_rfl
theorem index_cap (m : Cp) (hm : m.length = 32) (k : Nat) (hk : k < 16) (w : World) : (Instr.index 28 (.agg (encC m)) (.int .i64 (k : Int))).run Try.prog w = .ok (.agg (pairV m k)) w := by
  rw [run_index_row w under_row under_both rfl size_both _ k (by omega) (by omega), ← take_pair m k (by omega)]
  congr 2
  rw [Int.toNat_natCast]
  apply Array.toList_inj.1
  rw [Array.toList_extract]
  simp [takeAt, List.extract_eq_take_drop]
def FitM (m : Cp) : Prop := ∀ j, fitDev (atS m j)
theorem FitM.note {m : Cp} (h : FitM m) (n ch by_ : Int) : FitM (noteM m n ch by_) := by
  unfold noteM
  split
  · rename_i hc
    have hb : 0 ≤ n ∧ n < 16 ∧ 0 ≤ ch ∧ ch < 2 ∧ -4294967296 ≤ by_ ∧ by_ ≤ 4294967296 := by simpa [okN] using hc.1
    intro j x hx
    unfold atS at hx
    rw [List.getD_eq_getElem?_getD, List.getElem?_set] at hx
    split at hx
    · split at hx
      · simp at hx; omega
      · simp at hx
    · exact h j x (by unfold atS; rw [List.getD_eq_getElem?_getD]; exact hx)
  · exact h
theorem of_no (g : Nat) (n : Int) (w : World) (h : nodeB n = false) : Calls Try.prog 16 #[.pointer (some ⟨g, 0, none⟩), .int .i64 n] w fun e w' => e = .returned (.tuple #[.int .i64 0, .bool false]) ∧ w' = w := by
  go_enter Try.func16, Try.ntmps16
  go_wp2_with (go_at_call 24; refine (cnode_core _ _).mono ?_; rintro e w' ⟨rfl, rfl⟩)
  go_ret2
  exact ⟨rfl, rfl⟩
theorem of_yes (g : Nat) (k : Nat) (hk : k < 16) (m : Cp) (hf : FitM m) (w : World) (hC : CapAt w g m) : Calls Try.prog 16 #[.pointer (some ⟨g, 0, none⟩), .int .i64 (k : Int)] w fun e w' => e = .returned (.tuple #[.int .i64 (byR (pairN m k).1 (pairN m k).2).1, .bool (byR (pairN m k).1 (pairN m k).2).2]) ∧ Below w.heap.size w w' := by
  have hn : nodeB (k : Int) = true := by simp [nodeB]; omega
  have hbk := hC.2
  have hsz := encC_size m
  have hm := hC.1
  have htk := take_pair m k (by omega)
  go_enter Try.func16, Try.ntmps16
  go_wp2_with (first
    | (go_at_call 24; refine (cnode_core _ _).mono ?_; rintro e w' ⟨rfl, rfl⟩)
    | ((with_reducible refine gate_dst (N := 18) rfl ?_); refine wpList_load_blk rfl 27 _ rfl g (k * 4) 4 rfl hbk (by rw [hsz]; omega) _ under_both rfl size_both ?_; rw [htk])
    | (go_at_call 26; refine (by_core (pairN m k).1 (pairN m k).2 (hf _) (hf _) _).mono ?_; rintro e w1 ⟨rfl, hb1⟩))
  go_ret2
  exact ⟨rfl, hb1⟩
theorem of_core (g : Nat) (n : Int) (m : Cp) (hf : FitM m) (w : World) (hC : CapAt w g m) : Calls Try.prog 16 #[.pointer (some ⟨g, 0, none⟩), .int .i64 n] w fun e w' => e = .returned (.tuple #[.int .i64 (ofR m n).1, .bool (ofR m n).2]) ∧ Below w.heap.size w w' := by
  unfold ofR
  by_cases h : 0 ≤ n ∧ n < 16
  · rw [if_pos h]
    obtain ⟨k, rfl⟩ := Int.eq_ofNat_of_zero_le h.1
    exact of_yes g k (by omega) m hf w hC
  · rw [if_neg h]
    exact (of_no g n w (by simpa [nodeB] using h)).mono fun e w' ⟨he, hw⟩ => ⟨he, hw ▸ Below.refl _ _⟩
theorem range_pre {k n : Nat} (h : k ≤ n) : List.range k <+: List.range n := by
  obtain ⟨d, rfl⟩ := Nat.exists_eq_add_of_le h
  induction d with
  | zero => exact List.prefix_refl _
  | succ d ih => exact (ih (by omega)).trans ⟨[k + d], by rw [← List.range_succ]; rfl⟩
/-- What the iterator tells. -/
def encN (m : Cp) (n : Nat) : Array Value := #[.int .i64 (n : Int), .agg (pairV m n)]
set_option maxRecDepth 100000 in
set_option maxHeartbeats 2000000 in
theorem all1_in (mm : Nat) (hmm : 1 ≤ mm) (l Bc g : Nat) (m : Cp) (J Jx : List Nat → World → Prop) (hJa : ∀ s A o, J s A → J s (A.alloc o))
    (hY : ∀ pre x W, J pre W → pre.length < 16 → YieldAt Fence.wide (mm - 1) Try.prog l (encN m x) W fun e W' =>
      (e = .returned (.bool true) ∧ J (pre ++ [x]) W' ∧ True) ∨ (e = .returned (.bool false) ∧ Jx (pre ++ [x]) W'))
    (W : World) (hBc : W.cell? ⟨Bc, 0, none⟩ = some (.pointer (some ⟨g, 0, none⟩))) (hC : CapAt W g m) (h0 : J [] W) :
    CallsIn Fence.wide mm Try.prog 31 #[.func (.yield l) #[] #[], .pointer (some ⟨Bc, 0, none⟩)] W fun e W' => (∃ v, e = .returned v) ∧
      ((∃ ys, ys = List.range 16 ∧ J ys W') ∨ (∃ pre, pre <+: List.range 16 ∧ Jx pre W')) := by
  have hbk := hC.2
  have hsz := encC_size m
  have hm := hC.1
  have hall := take_all m hm
  refine callsIn_of_wp Try.func31 rfl trivial ?_ rfl
  simp only [Try.ntmps31, List.size_toArray, List.length_cons, List.length_nil, Nat.reduceAdd, Nat.reduceSub, Array.replicate_succ, Array.replicate_zero, List.push_toArray, List.append_toArray, List.nil_append, List.cons_append]
  gi_wp2_with (refine wpListIn_load_blk rfl 28 _ rfl g 0 64 rfl hbk (by rw [hsz]; omega) _ under_row rfl size_row ?_; rw [hall])
  gi_loopw [11] (fun i wr => ∃ k : Nat, k ≤ 16 ∧ i = .int .i64 k ∧ J (List.range k) wr) (fun i _ => 16 - (intOf i).toNat)
  case atStart => exact ⟨0, by omega, rfl, h0⟩
  case round =>
    obtain ⟨k, hk, rfl, hJ⟩ := hrel
    by_cases hlt : k < 16
    · have hix := index_cap m hm k hlt
      obtain ⟨fn, tmps, assign, body, hy, hR⟩ := hY (List.range k) k (wr.alloc (.cells (pairV m k) 27)) (hJa _ _ _ hJ) (by simp; omega)
      rw [← List.range_succ] at hR
      unfold encN at hy
      unfold pairV at hix hy hR
      generalize (pairN m k).1 = a at hix hy hR
      generalize (pairN m k).2 = b at hix hy hR
      cases a <;> cases b <;> simp only [cel, List.cons_append, List.nil_append] at hix hy hR
      all_goals
        gi_wp2
        refine hR.mono ?_
        rintro e W3 (⟨rfl, hJ3, _⟩ | ⟨rfl, hJx3⟩)
        · gi_wp2
          go_roundw
          case rel => exact ⟨k + 1, by omega, by go_num, hJ3⟩
          case measure => simp [intOf]; omega
        · gi_wp2
          refine bodyPost_ret (results_none rfl _ _ _) rfl ?_
          exact ⟨⟨_, rfl⟩, .inr ⟨List.range (k + 1), range_pre (by omega), hJx3⟩⟩
    · obtain rfl : k = 16 := by omega
      gi_wp2
      go_end0
      exact ⟨⟨_, rfl⟩, .inl ⟨_, rfl, hJ⟩⟩
theorem all_in (g : Nat) (mm : Nat) (w : World) :
    CallsIn Fence.wide mm Try.prog 25 #[.pointer (some ⟨g, 0, none⟩)] w fun e w' => e = .returned (.func (.func 31) #[] #[.pointer (some ⟨w.heap.size, 0, none⟩)]) ∧ w' = w.alloc (.cells #[.pointer (some ⟨g, 0, none⟩)] 50) := by
  refine callsIn_of_wp Try.func25 rfl trivial ?_ rfl
  simp only [Try.ntmps25, List.size_toArray, List.length_cons, List.length_nil, Nat.reduceAdd, Nat.reduceSub, Array.replicate_succ, Array.replicate_zero, List.push_toArray, List.append_toArray, List.nil_append, List.cons_append]
  gi_wp2
  go_ret
  exact ⟨rfl, rfl⟩
def KTrue (A B : World) : Prop := True
theorem all_stops (mm : Nat) (hmm : 1 ≤ mm) (Bc g : Nat) (m : Cp) (w : World) (hlt : Bc < w.heap.size) (hBc : w.cell? ⟨Bc, 0, none⟩ = some (.pointer (some ⟨g, 0, none⟩))) (hC : CapAt w g m) :
    SeqStopsK Fence.wide mm Try.prog 31 #[.pointer (some ⟨Bc, 0, none⟩)] (encN m) KTrue (fun ys => ys = List.range 16) (fun pre => pre <+: List.range 16) 16 w := fun l J Jx W hW hJ _ hY h0 =>
  all1_in mm hmm l Bc g m J Jx (fun s A o h => hJ s A _ none h (World.grownBy_alloc A o none) (fun _ e => nomatch e)) hY W ((hW.cell (p := ⟨Bc, 0, none⟩) hlt).trans hBc) (hC.below hW) h0
end Go.Proofs.Ytfhkmokgbndeeaa.Hand
