/- The iterator of midpoint.Trim, by hand: it tells sorted values, with how many stand behind each. -/
import Derived.Test.YtnmephdamgofnaaHandStill
import Derived.WalkKit
import Derived.KernelRfl
import Derived.RowKit3
import Derived.Outline
import Derived.Lib.Hide
import Derived.Deep.QuietTactic
import Derived.BigQuiet
import Derived.RegionTactic
import Derived.ChangeAlike
import Derived.BigRegion
import Derived.Deep.RegionWith
import Derived.RangeFuncNested
import Derived.RangeFuncBound
import Derived.RangeFuncBox
import Derived.RangeFuncCalls
import Derived.RangeFuncLeaves
import Derived.Shelf.Abstract
import Derived.Shelf.RegionOpen
import Derived.OwnWalkIn
import Derived.TacticsInMore
import Derived.LoopNIn
import Derived.LoopIn
import Derived.Scope
import Derived.Maps.AppendAt
import Derived.Test.YtnmephdamgofnaaWWords
import Derived.Test.YtnmephdamgofnaaWMore
set_option linter.unusedVariables false
set_option linter.unusedSimpArgs false
namespace Go.Proofs.Ytnmephdamgofnaa.Hand
open Go.RowKit Go.Shelf Go.Proofs.YtnmephdamgofnaaW.PrintWords Go.Proofs.YtnmephdamgofnaaW.PrintMore
attribute [local go_sem] Oper.semAt_some

/-- What the iterator tells in round i. -/
def lftA (zs : List Int) (k i : Nat) : Int × Int := ((zs.length : Int) - 1 - ((k + i : Nat) : Int), zs.getD (k + i) 0)
def lftL (zs : List Int) (k m : Nat) : List (Int × Int) := (List.range m).map (lftA zs k)
theorem lftL_succ (zs : List Int) (k m : Nat) : lftL zs k (m + 1) = lftL zs k m ++ [lftA zs k m] := by simp [lftL, List.range_succ]
theorem lftL_len (zs : List Int) (k m : Nat) : (lftL zs k m).length = m := by simp [lftL]
theorem lftL_pre (zs : List Int) (n k m : Nat) (h : k ≤ m) : lftL zs n k <+: lftL zs n m := by
  obtain ⟨d, rfl⟩ := Nat.exists_eq_add_of_le h
  induction d with
  | zero => exact List.prefix_refl _
  | succ d ih => exact (ih (by omega)).trans ⟨[lftA zs n (k + d)], by rw [← lftL_succ]; rfl⟩
def encP (x : Int × Int) : Array Value := #[.int .i64 x.1, .int .i64 x.2]

/-- The cells of these blocks stay. -/
def KBlk (S : List Nat) (A B : World) : Prop := ∀ b, b ∈ S → ∀ o v, A.cell? ⟨b, o, none⟩ = some v → B.cell? ⟨b, o, none⟩ = some v
theorem kblk_t {S : List Nat} {A B C : World} (h : KBlk S A B) (k : KBlk S B C) : KBlk S A C := fun b hb o v q => k b hb o v (h b hb o v q)
theorem kblk_b {S : List Nat} {n : Nat} (W : World) (l : Nat) (o o' : Obj) (_ : n ≤ l) (h : W.heap[l]? = some o) (ho : o.isCells = false) (_ : o.isWalk = false) : KBlk S W (W.putObj l o') :=
  fun b _ i v q => cell_kept q (grownBy_putObj' W l o') (fun r e => by cases e; exact ⟨o, h, ho⟩)

set_option maxRecDepth 100000 in
set_option maxHeartbeats 2000000 in
theorem left1_in (m : Nat) (l Bk Bs M : Nat) (zs : List Int) (k c : Nat) (hk : k ≤ zs.length) (hbig : zs.length ≤ 4611686018427387904) (J Jx : List (Int × Int) → World → Prop) (W : World)
    (hJd : ∀ s A, J s A → J s A.drew)
    (hY : ∀ pre x W, J pre W → pre.length < zs.length - k → YieldAt Fence.wide (m - 1) Try.prog l (encP x) W fun e W' =>
      (e = .returned (.bool true) ∧ J (pre ++ [x]) W' ∧ KBlk [Bk, Bs, M] W W') ∨ (e = .returned (.bool false) ∧ Jx (pre ++ [x]) W'))
    (hBk : W.cell? ⟨Bk, 0, none⟩ = some (.int .i64 k)) (hBs : W.cell? ⟨Bs, 0, none⟩ = some (.slice (some ⟨M, 0, none⟩) zs.length c))
    (hM : ∀ j, j < zs.length → W.cell? ⟨M, j, none⟩ = some (.int .i64 (zs.getD j 0))) (h0 : J [] W) :
    CallsIn Fence.wide m Try.prog 65 #[.func (.yield l) #[] #[], .pointer (some ⟨Bk, 0, none⟩), .pointer (some ⟨Bs, 0, none⟩)] W fun e W' => (∃ v, e = .returned v) ∧
      ((∃ ys, ys = lftL zs k (zs.length - k) ∧ J ys W') ∨ (∃ pre, pre <+: lftL zs k (zs.length - k) ∧ Jx pre W')) := by
  refine callsIn_of_wp Try.func65 rfl trivial ?_ rfl
  simp only [Try.ntmps65, List.size_toArray, List.length_cons, List.length_nil, Nat.reduceAdd, Nat.reduceSub, Array.replicate_succ, Array.replicate_zero, List.push_toArray, List.append_toArray, List.nil_append, List.cons_append]
  gi_wp2
  gi_loopw [4] (fun i wr => ∃ p : Nat, k ≤ p ∧ p ≤ zs.length ∧ i = .int .i64 (p : Int) ∧ J (lftL zs k (p - k)) wr ∧ wr.cell? ⟨Bk, 0, none⟩ = some (.int .i64 k) ∧ wr.cell? ⟨Bs, 0, none⟩ = some (.slice (some ⟨M, 0, none⟩) zs.length c) ∧ Hid (∀ j, j < zs.length → wr.cell? ⟨M, j, none⟩ = some (.int .i64 (zs.getD j 0))))
    (fun i _ => zs.length - (intOf i).toNat)
  case atStart => exact ⟨k, Nat.le_refl _, hk, rfl, by rw [Nat.sub_self]; exact h0, hBk, hBs, hM⟩
  case round =>
    obtain ⟨p, hkp, hp, rfl, hJ, hk1, hs1, hH⟩ := hrel
    by_cases hlt2 : p < zs.length
    · obtain ⟨fn, tmps, assign, body, hy, hR⟩ := hY (lftL zs k (p - k)) (lftA zs k (p - k)) wr.drew (hJd _ _ hJ) (by rw [lftL_len]; omega)
      have hcm := hH.out p hlt2
      have hA : lftA zs k (p - k) = ((zs.length : Int) - 1 - (p : Int), zs.getD p 0) := by unfold lftA; rw [show k + (p - k) = p by omega]
      have hS : lftL zs k (p - k) ++ [lftA zs k (p - k)] = lftL zs k (p + 1 - k) := by rw [show p + 1 - k = (p - k) + 1 by omega, lftL_succ]
      rw [hS] at hR
      rw [hA] at hy
      clear hA hS hJ
      generalize zs.getD p 0 = x at hy hcm
      unfold encP at hy
      dsimp only at hy
      have g1 : (0 : Int) ≤ (p : Int) := by omega
      have g2 : (p : Int) < (zs.length : Int) := by omega
      have e1 : IntKind.i64.wrap ((zs.length : Int) - 1) = (zs.length : Int) - 1 := IntWalk.i64_in _ ⟨by omega, by omega⟩
      have e2 : IntKind.i64.wrap ((zs.length : Int) - 1 - (p : Int)) = (zs.length : Int) - 1 - (p : Int) := IntWalk.i64_in _ ⟨by omega, by omega⟩
      gi_wp2
      refine wpIn_region_still_tail 10 (by kernel_rfl) (by kernel_rfl) ?_
      simp only [List.take_succ_cons, List.take_zero, List.drop_succ_cons, List.drop_zero]
      repeat still_step
      try refine wpStill_nil ?_
      gi_wp2
      refine ⟨fun h => (by cases h), hR.mono ?_⟩
      rintro e W3 (⟨rfl, hJ3, hk3⟩ | ⟨rfl, hJx3⟩)
      · have c1 : W3.cell? ⟨Bk, 0, none⟩ = some (.int .i64 k) := hk3 Bk (by simp) 0 _ hk1
        have c2 : W3.cell? ⟨Bs, 0, none⟩ = some (.slice (some ⟨M, 0, none⟩) zs.length c) := hk3 Bs (by simp) 0 _ hs1
        have c3 : Hid (∀ j, j < zs.length → W3.cell? ⟨M, j, none⟩ = some (.int .i64 (zs.getD j 0))) := fun j hj => hk3 M (by simp) j _ (hH.out j hj)
        gi_wp2
        go_roundw
        case rel => exact ⟨p + 1, by omega, by omega, by go_num, hJ3, c1, c2, c3⟩
        case measure => simp [intOf]; omega
      · gi_wp2
        refine bodyPost_ret (results_none rfl _ _ _) rfl ?_
        exact ⟨⟨_, rfl⟩, .inr ⟨lftL zs k (p + 1 - k), lftL_pre zs k _ _ (by omega), hJx3⟩⟩
    · obtain rfl : p = zs.length := by omega
      gi_wp2
      go_end0
      exact ⟨⟨_, rfl⟩, .inl ⟨_, rfl, hJ⟩⟩
theorem left_in (m : Nat) (v : Value) (h1 : v.oneCell' = true) (hv : v.cells = #[v]) (k : Int) (w : World) :
    CallsIn Fence.wide m Try.prog 43 #[v, .int .i64 k] w fun e w' => e = .returned (.func (.func 65) #[] #[.pointer (some ⟨w.heap.size + 1, 0, none⟩), .pointer (some ⟨w.heap.size, 0, none⟩)]) ∧ w' = (w.alloc (.cells #[v] 26)).alloc (.cells #[.int .i64 k] 3) := by
  refine callsIn_of_wp Try.func43 rfl trivial ?_ rfl
  simp only [Try.ntmps43, List.size_toArray, List.length_cons, List.length_nil, Nat.reduceAdd, Nat.reduceSub, Array.replicate_succ, Array.replicate_zero, List.push_toArray, List.append_toArray, List.nil_append, List.cons_append]
  gi_wp2
  go_ret
  exact ⟨rfl, rfl⟩
theorem left_stops (m Bk Bs M : Nat) (zs : List Int) (k c : Nat) (hk : k ≤ zs.length) (hbig : zs.length ≤ 4611686018427387904) (w : World) (hb1 : Bk < w.heap.size) (hb2 : Bs < w.heap.size) (hb3 : M < w.heap.size)
    (hBk : w.cell? ⟨Bk, 0, none⟩ = some (.int .i64 k)) (hBs : w.cell? ⟨Bs, 0, none⟩ = some (.slice (some ⟨M, 0, none⟩) zs.length c)) (hM : ∀ j, j < zs.length → w.cell? ⟨M, j, none⟩ = some (.int .i64 (zs.getD j 0))) :
    SeqStopsK Fence.wide m Try.prog 65 #[.pointer (some ⟨Bk, 0, none⟩), .pointer (some ⟨Bs, 0, none⟩)] (fun x : Int × Int => #[Value.int .i64 x.1, Value.int .i64 x.2]) (KBlk [Bk, Bs, M]) (fun ys => ys = lftL zs k (zs.length - k)) (fun pre => pre <+: lftL zs k (zs.length - k)) (zs.length - k) w := fun l J Jx W hW hJ _ hY h0 =>
  left1_in m l Bk Bs M zs k c hk hbig J Jx W (fun s A h => hJ s A A.drew none h ⟨rfl, rfl, rfl, Nat.le_refl _, fun _ _ _ => rfl⟩ (fun _ e => nomatch e)) hY
    ((hW.cell (p := ⟨Bk, 0, none⟩) hb1).trans hBk) ((hW.cell (p := ⟨Bs, 0, none⟩) hb2).trans hBs) (fun j hj => (hW.cell (p := ⟨M, j, none⟩) hb3).trans (hM j hj)) h0
end Go.Proofs.Ytnmephdamgofnaa.Hand
