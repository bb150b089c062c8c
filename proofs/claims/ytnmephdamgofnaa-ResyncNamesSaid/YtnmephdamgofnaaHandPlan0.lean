/- What plan.Fails computes, by hand: a range over the conditions, each a method bound to the plan. First: the words, and the iterator. -/
import Derived.Test.YtnmephdamgofnaaHandOrd
import Derived.Test.YtnmephdamgofnaaHandStore
import Derived.Test.YtnmephdamgofnaaPAx1
import Derived.Outline
import Derived.Lib.Hide
import Derived.RangeFuncBound
import Derived.RangeFuncLeaves
import Derived.Shelf.Abstract
import Derived.Shelf.RegionOpen
import Derived.OwnWalkIn
import Derived.TacticsIn
import Derived.ControlIn
import Derived.TacticsInMore
import Derived.LoopNIn
import Derived.LoopIn
import Derived.Scope
import Derived.Test.YtnmephdamgofnaaWMore
set_option linter.unusedVariables false
set_option linter.unusedSimpArgs false
namespace Go.Proofs.Ytnmephdamgofnaa.Hand
open Go.RowKit Go.Shelf Go.Proofs.Ytnmephdamgofnaa.PA Go.Proofs.YtnmephdamgofnaaW.PrintWords Go.Proofs.YtnmephdamgofnaaW.PrintMore
attribute [local go_sem] Oper.semAt_some

/-- A plan's numbers, in order. -/
structure Pl where
  (a0 a1 a2 a3 a4 a5 a6 a7 a8 a9 a10 a11 a12 a13 a14 a15 : Int)
def planC (p : Pl) : Array Value := #[.int .i64 p.a0, .int .i64 p.a1, .int .i64 p.a2, .int .i64 p.a3, .int .i64 p.a4, .int .i64 p.a5, .int .i64 p.a6, .int .i64 p.a7, .int .i64 p.a8, .int .i64 p.a9, .int .i64 p.a10, .int .i64 p.a11, .int .i64 p.a12, .int .i64 p.a13, .int .i64 p.a14, .int .i64 p.a15]
def planV (p : Pl) : Value := .agg (planC p)
theorem planC_size (p : Pl) : (planC p).size = 16 := rfl
/-- The condition's function. -/
def cid : Nat → Nat
  | 1 => 45 | 2 => 46 | 3 => 47 | 4 => 48 | 5 => 49 | 6 => 50
  | 7 => 51 | 8 => 52 | 9 => 37 | 10 => 53 | _ => 54
def condV (p : Pl) (x : Nat) : Value := .func (.func (cid x)) #[planV p] #[]
def encC (p : Pl) (x : Nat) : Array Value := #[.int .i64 x, condV p x]
def condC (p : Pl) : Array Value := #[Value.nilFunc, condV p 1, condV p 2, condV p 3, condV p 4, condV p 5, condV p 6, condV p 7, condV p 8, condV p 9, condV p 10, condV p 11]
theorem condC_at (p : Pl) (x : Nat) (h0 : 1 ≤ x) (h1 : x ≤ 11) : (condC p)[x]? = some (condV p x) := by
  match x, h0, h1 with
  | 1, _, _ => rfl
  | 2, _, _ => rfl
  | 3, _, _ => rfl
  | 4, _, _ => rfl
  | 5, _, _ => rfl
  | 6, _, _ => rfl
  | 7, _, _ => rfl
  | 8, _, _ => rfl
  | 9, _, _ => rfl
  | 10, _, _ => rfl
  | 11, _, _ => rfl
/-- All cells but those of one block stay. -/
def KBut (b : Nat) (A B : World) : Prop := ∀ k o, A.heap[k]? = some o → o.isCells = true → k ≠ b → B.heap[k]? = some o
theorem kbut_t {b : Nat} {A B C : World} (h : KBut b A B) (k : KBut b B C) : KBut b A C := fun i o q c n => k i o (h i o q c n) c n
theorem kbut_b {b n : Nat} (W : World) (l : Nat) (o o' : Obj) (_ : n ≤ l) (h : W.heap[l]? = some o) (ho : o.isCells = false) (_ : o.isWalk = false) : KBut b W (W.putObj l o') := fun i q hq hc _ =>
  (World.putObj_heap_other (fun e => by subst e; rw [h] at hq; cases hq; rw [ho] at hc; cases hc)).trans hq
theorem kbut_refl (b : Nat) (W : World) : KBut b W W := fun _ _ h _ _ => h
theorem kbut_below {b : Nat} {W W' : World} (h : Below W.heap.size W W') : KBut b W W' := fun i o hq _ _ => (h.block i (Array.getElem?_eq_some_iff.1 hq).1).trans hq
theorem kbut_grown {b : Nat} {W W' : World} {row : Option Nat} (h : W.grownBy W' row) (hr : ∀ k, row = some k → k = b) : KBut b W W' := fun i o hq _ hn => (h.block i (Array.getElem?_eq_some_iff.1 hq).1 (fun e => hn (hr i e.symm))).trans hq
theorem under_look : Try.prog.underlying 72 = some (match Try.prog.underlying 72 with | some d => d | none => .string) := by kernel_rfl
theorem row_look : (match Try.prog.underlying 72 with | some d => d | none => .string).isRow = true := by kernel_rfl
theorem size_look : (Try.prog.info? 72).map (·.size) = some 16 := by kernel_rfl
theorem take16 (p : Pl) : (takeAt (planC p) 0 16).toArray = planC p := rfl
def upTo (k : Nat) : List Nat := (List.range k).map (· + 1)
theorem upTo_succ (k : Nat) : upTo (k + 1) = upTo k ++ [k + 1] := by simp [upTo, List.range_succ]
theorem upTo_len (k : Nat) : (upTo k).length = k := by simp [upTo]
def nextC (pre : List Nat) (x : Nat) : Prop := pre.length < 11 ∧ x = pre.length + 1
set_option maxRecDepth 100000 in
set_option maxHeartbeats 4000000 in
theorem conds1_in (m b Bl : Nat) (p : Pl) (w : World) (hBl : w.heap[Bl]? = some (.cells (planC p) 72 (0, 0))) (hb : b < w.heap.size) :
    SeqOrd Fence.wide m Try.prog 44 #[.pointer (some ⟨Bl, 0, none⟩)] (encC p) (KBut b) (fun xs => xs.length = 11) (fun _ => True) nextC w := by
  intro l J Jx W hW hJ hJx h0 hY
  have hB := (hW.block Bl (blk_lt hBl)).trans hBl
  have h16 := take16 p
  have hp16 := planC_size p
  have hbW : b < W.heap.size := Nat.lt_of_lt_of_le hb hW.size
  have hJa : ∀ s A o, J s A → J s (A.alloc o) := fun s A o h => hJ s A (A.alloc o) none h ⟨rfl, rfl, rfl, by simp, fun i hi _ => Below.heap_alloc A o i hi⟩ (fun _ e => nomatch e)
  show CallsIn Fence.wide m Try.prog 44 #[.func (.yield l) #[] #[], .pointer (some ⟨Bl, 0, none⟩)] W _
  refine callsIn_of_wp Try.func44 rfl trivial ?_ rfl
  simp only [Try.ntmps44, List.size_toArray, List.length_cons, List.length_nil, Nat.reduceAdd, Nat.reduceSub, Array.replicate_succ, Array.replicate_zero, List.push_toArray, List.append_toArray, List.nil_append, List.cons_append]
  gi_wp2_with (refine wpListIn_load_blk rfl 72 _ rfl Bl 0 16 rfl hB (by rw [hp16]; omega) _ under_look row_look size_look ?_; rw [h16])
  gi_loopw [4] (fun i wr => ∃ k : Nat, k ≤ 11 ∧ i = .int .i64 ((k + 1 : Nat) : Int) ∧ J (upTo k) wr ∧ wr.heap[W.heap.size]? = some (.cells (condC p) 44 (0, 0)) ∧ W.heap.size ≤ wr.heap.size) (fun i _ => 12 - (intOf i).toNat)
  case atStart => exact ⟨0, by omega, rfl, hJa _ _ _ h0, blk_new _ _, by simp⟩
  case round =>
    obtain ⟨k, hk, rfl, hJ1, hM, hsz⟩ := hrel
    by_cases hlt : k < 11
    · obtain ⟨fn, tmps, assign, body, hy, hR⟩ := hY (upTo k) (k + 1) wr ⟨by rw [upTo_len]; exact hlt, by rw [upTo_len]⟩ hJ1
      rw [← upTo_succ] at hR
      have hcm : wr.cell? ⟨W.heap.size, k + 1, none⟩ = some (condV p (k + 1)) := (blk_cell hM (k + 1)).trans (condC_at p (k + 1) (by omega) (by omega))
      unfold encC at hy
      generalize condV p (k + 1) = cv at hy hcm
      have g1 : (0 : Int) ≤ ((k + 1 : Nat) : Int) := by omega
      have g2 : ((k + 1 : Nat) : Int) < 12 := by omega
      rw [show ((k + 1 : Nat) : Int) = (k : Int) + 1 by omega] at hy
      gi_wp2
      refine ⟨fun h => (by cases h), hR.mono ?_⟩
      rintro e W3 (⟨rfl, hJ3, hk3⟩ | ⟨rfl, hJx3⟩)
      · have hM3 : W3.heap[W.heap.size]? = some (.cells (condC p) 44 (0, 0)) := hk3 _ _ hM rfl (by omega)
        have hs3 : W.heap.size ≤ W3.heap.size := Nat.le_of_lt (blk_lt hM3)
        gi_wp2
        go_roundw
        case rel => exact ⟨k + 1, by omega, by go_num, hJ3, hM3, hs3⟩
        case measure => simp [intOf]; omega
      · gi_wp2
        refine bodyPost_ret (results_none rfl _ _ _) rfl ?_
        exact ⟨⟨_, rfl⟩, .inr ⟨upTo (k + 1), trivial, hJx3⟩⟩
    · have hk11 : k = 11 := by omega
      gi_wp2
      subst hk11
      go_end0
      exact ⟨⟨_, rfl⟩, .inl ⟨_, upTo_len 11, hJ1⟩⟩
end Go.Proofs.Ytnmephdamgofnaa.Hand
