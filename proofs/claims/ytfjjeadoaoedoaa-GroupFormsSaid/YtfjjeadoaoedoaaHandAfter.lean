/- What 'group.List' and 'group.Next' compute, by hand: ranges over the function that tells the nodes that follow one. -/
import Derived.Test.YtfjjeadoaoedoaaHandGroup
import Derived.RangeFuncNested
import Derived.RangeFuncBound
import Derived.RangeFuncBox
import Derived.RangeFuncCalls
import Derived.RangeFuncLeaves
import Derived.Shelf.Abstract
import Derived.Shelf.RegionOpen
import Derived.OwnWalkIn
import Derived.TacticsInMore
import Derived.LoopNIn
import Derived.LoopIn
import Derived.Scope
import Derived.Maps.AppendAt
set_option linter.unusedVariables false
set_option linter.unusedSimpArgs false
namespace Go.Proofs.Ytfjjeadoaoedoaa.Hand
open Go.RowKit Go.Shelf Go.Proofs.Ytfjjeadoaoedoaa.Grp Go.Proofs.YtfjjeadoaoedoaaW.PrintWords Go.Proofs.YtfjjeadoaoedoaaW.PrintMore
attribute [local go_sem] Oper.semAt_some

/-- The node that stands k + 1 behind n. -/
def aft (n k : Nat) : Int := (((n + 1 + k) % 16 : Nat) : Int)
def aftL (n k : Nat) : List Int := (List.range k).map (aft n)
theorem aftL_succ (n k : Nat) : aftL n (k + 1) = aftL n k ++ [aft n k] := by simp [aftL, List.range_succ]
theorem aftL_len (n k : Nat) : (aftL n k).length = k := by simp [aftL]
theorem aftL_pre (n k m : Nat) (h : k ≤ m) : aftL n k <+: aftL n m := by
  obtain ⟨d, rfl⟩ := Nat.exists_eq_add_of_le h
  induction d with
  | zero => exact List.prefix_refl _
  | succ d ih => exact (ih (by omega)).trans ⟨[aft n (k + d)], by rw [← aftL_succ]; rfl⟩

/-- A cell stays. -/
def KCell (a : Addr) (v : Value) (A B : World) : Prop := A.cell? a = some v → B.cell? a = some v
theorem kcell_t {a : Addr} {v : Value} {A B C : World} (h : KCell a v A B) (k : KCell a v B C) : KCell a v A C := fun q => k (h q)
theorem kcell_b {a : Addr} {v : Value} {n : Nat} (W : World) (l : Nat) (o o' : Obj) (_ : n ≤ l) (h : W.heap[l]? = some o) (ho : o.isCells = false) (_ : o.isWalk = false) : KCell a v W (W.putObj l o') :=
  fun q => cell_kept q (grownBy_putObj' W l o') (fun r e => by cases e; exact ⟨o, h, ho⟩)

set_option maxRecDepth 100000 in
set_option maxHeartbeats 1000000 in
theorem after1_in (F : Fence) (m : Nat) (hf : F.fn 47) (hro : F.round = none) (hm : 1 ≤ m) (l Bn : Nat) (n : Nat) (hn : n < 16) (J Jx : List Int → World → Prop)
    (hY : ∀ pre x W, J pre W → pre.length < 16 → YieldAt F (m - 1) Try.prog l #[.int .i64 x] W fun e W' =>
      (e = .returned (.bool true) ∧ J (pre ++ [x]) W' ∧ KCell ⟨Bn, 0, none⟩ (.int .i64 n) W W') ∨ (e = .returned (.bool false) ∧ Jx (pre ++ [x]) W'))
    (W : World) (hBn : W.cell? ⟨Bn, 0, none⟩ = some (.int .i64 n)) (h0 : J [] W) :
    CallsIn F m Try.prog 47 #[.func (.yield l) #[] #[], .pointer (some ⟨Bn, 0, none⟩)] W fun e W' => (∃ v, e = .returned v) ∧
      ((∃ ys, ys = aftL n 16 ∧ J ys W') ∨ (∃ pre, pre <+: aftL n 16 ∧ Jx pre W')) := by
  refine callsIn_of_wp Try.func47 rfl hf ?_ hro
  simp only [Try.ntmps47, List.size_toArray, List.length_cons, List.length_nil, Nat.reduceAdd, Nat.reduceSub, Array.replicate_succ, Array.replicate_zero, List.push_toArray, List.append_toArray, List.nil_append, List.cons_append]
  gi_wp2
  gi_loopw [3, 4] (fun _ i wr => ∃ k : Nat, k ≤ 16 ∧ i = .int .i64 k ∧ J (aftL n k) wr ∧ wr.cell? ⟨Bn, 0, none⟩ = some (.int .i64 n))
    (fun _ i _ => 16 - (intOf i).toNat)
  case atStart => exact ⟨0, by omega, rfl, h0, hBn⟩
  case round =>
    obtain ⟨k, hk, rfl, hJ, hc⟩ := hrel
    by_cases hlt2 : k < 16
    · obtain ⟨fn, tmps, assign, body, hy, hR⟩ := hY (aftL n k) (aft n k) wr hJ (by rw [aftL_len]; exact hlt2)
      have e : aft n k = ((n : Int) + 1 + (k : Int)) % 16 := by simp [aft]
      rw [e] at hy
      clear e
      gi_wp2
      refine hR.mono ?_
      rintro e W3 (⟨rfl, hJ3, hk3⟩ | ⟨rfl, hJx3⟩)
      · have hc3 : W3.cell? ⟨Bn, 0, none⟩ = some (.int .i64 n) := hk3 hc
        gi_wp2
        go_roundw
        case rel => exact ⟨k + 1, by omega, by go_num, by rw [aftL_succ]; exact hJ3, hc3⟩
        case measure => simp [intOf]; omega
      · gi_wp2
        refine bodyPost_ret (results_none rfl _ _ _) rfl ?_
        exact ⟨⟨_, rfl⟩, .inr ⟨aftL n (k + 1), aftL_pre n (k + 1) 16 (by omega), by rw [aftL_succ]; exact hJx3⟩⟩
    · obtain rfl : k = 16 := by omega
      gi_wp2
      go_end0
      exact ⟨⟨_, rfl⟩, .inl ⟨_, rfl, hJ⟩⟩

theorem after_in (F : Fence) (m : Nat) (hf : F.fn 39) (hro : F.round = none) (n : Int) (w : World) :
    CallsIn F m Try.prog 39 #[.int .i64 n] w fun e w' => e = .returned (.func (.func 47) #[] #[.pointer (some ⟨w.heap.size, 0, none⟩)]) ∧ w' = w.alloc (.cells #[.int .i64 n] 3) := by
  refine callsIn_of_wp Try.func39 rfl hf ?_ hro
  simp only [Try.ntmps39, List.size_toArray, List.length_cons, List.length_nil, Nat.reduceAdd, Nat.reduceSub, Array.replicate_succ, Array.replicate_zero, List.push_toArray, List.append_toArray, List.nil_append, List.cons_append]
  gi_wp2
  go_ret
  exact ⟨rfl, rfl⟩
theorem after_stops (F : Fence) (m : Nat) (hf : F.fn 47) (hro : F.round = none) (hm : 1 ≤ m) (Bn : Nat) (n : Nat) (hn : n < 16) (w : World) (hB : Bn < w.heap.size) (hc : w.cell? ⟨Bn, 0, none⟩ = some (.int .i64 n)) :
    SeqStopsK F m Try.prog 47 #[.pointer (some ⟨Bn, 0, none⟩)] (fun x : Int => #[Value.int .i64 x]) (KCell ⟨Bn, 0, none⟩ (.int .i64 n)) (fun ys => ys = aftL n 16) (fun pre => pre <+: aftL n 16) 16 w := fun l J Jx W hW _ _ hY h0 =>
  after1_in F m hf hro hm l Bn n hn J Jx hY W ((hW.cell (p := ⟨Bn, 0, none⟩) hB).trans hc) h0

/-- The one that follows. -/
def nextG (g n : Int) : Int := if nodeB n = true then ((aftL n.toNat 16).find? (fun m => hasB g m)).getD (-1) else -1
theorem next_no (g n : Int) (w : World) (h : nodeB n = false) : Calls Try.prog 22 #[.int .u16 g, .int .i64 n] w fun e w' => e = .returned (.int .i64 (-1)) ∧ Below w.heap.size w w' := by
  go_enter Try.func22, Try.ntmps22
  go_wp2
  go_step3
  go_wp2_with (go_at_call 43; refine (gnode_core _ _).mono ?_; rintro e w' ⟨rfl, rfl⟩)
  rw [Exit.noGoto_ret]
  go_ret
  exact ⟨rfl, ((Below.refl _ _).alloc (Nat.le_refl _) _).alloc (by simp) _⟩

theorem find_snoc {p : Int → Bool} {l : List Int} {x : Int} (h : l.find? p = none) : (l ++ [x]).find? p = if p x = true then some x else none := by
  rw [List.find?_append, h]
  simp [List.find?]
  split <;> simp_all
theorem find_prefix {p : Int → Bool} {l m : List Int} {x : Int} (h : l.find? p = some x) (hm : l <+: m) : m.find? p = some x := by
  obtain ⟨t, rfl⟩ := hm
  rw [List.find?_append, h]
  rfl
set_option maxRecDepth 100000 in
set_option maxHeartbeats 2000000 in
theorem next_yes (g : Int) (n : Nat) (hn : n < 16) (w : World) : CallsIn Fence.wide 3 Try.prog 22 #[.int .u16 g, .int .i64 n] w fun e w' => e = .returned (.int .i64 (((aftL n 16).find? (fun m => hasB g m)).getD (-1))) ∧ Below w.heap.size w w' := by
  have hnode : nodeB (n : Int) = true := by simp [nodeB]; omega
  refine callsIn_of_wp_marks Try.func22 rfl trivial ?_ rfl
  simp only [Try.ntmps22, List.size_toArray, List.length_cons, List.length_nil, Nat.reduceAdd, Nat.reduceSub, Array.replicate_succ, Array.replicate_zero, List.push_toArray, List.append_toArray, List.nil_append, List.cons_append]
  gi_wp2
  refine wpIn_wide.2 (wp_scope_straight ((wpIn_wide (n := 3)).1 ?_))
  gi_wp2_with (first | (refine ⟨trivial, ?_⟩; gi_at_call 43; refine (callsIn_wide.2 (gnode_core _ _)).mono ?_; rintro e w' ⟨rfl, rfl⟩) | (gi_at_call 39; refine (after_in Fence.wide 2 trivial rfl _ _).mono ?_; rintro e w' ⟨rfl, rfl⟩))
  refine wpIn_label ?_
  gi_wp2_with (refine ⟨trivial, ?_⟩; gi_at_call 39; refine (after_in Fence.wide 2 trivial rfl _ _).mono ?_; rintro e w' ⟨rfl, rfl⟩)
  obtain ⟨W0, hW0⟩ : ∃ W0, ((w.alloc (.cells #[.int .u16 g] 23)).alloc (.cells #[.int .i64 (-1)] 3)).alloc (.cells #[.int .i64 n] 3) = W0 := ⟨_, rfl⟩
  have hsz : W0.heap.size = w.heap.size + 3 := by rw [← hW0]; simp
  have c0 : W0.cell? ⟨w.heap.size, 0, none⟩ = some (.int .u16 g) := by rw [← hW0]; simp [go_sem]
  have c1 : W0.cell? ⟨w.heap.size + 1, 0, none⟩ = some (.int .i64 (-1)) := by rw [← hW0]; simp [go_sem]
  have f1 : W0.frozen? ⟨w.heap.size + 1, 0, none⟩ = false := by rw [← hW0]; simp [go_sem]
  have c2 : W0.cell? ⟨w.heap.size + 1 + 1, 0, none⟩ = some (.int .i64 n) := by rw [← hW0]; simp [go_sem]
  have hB0 : Below w.heap.size w W0 := by rw [← hW0]; exact (((Below.refl _ w).alloc (Nat.le_refl _) _).alloc (by simp) _).alloc (by simp <;> omega) _
  rw [hW0]
  refine wpIn_rangeFunc_ownF rfl (by omega) (gf := 47) (lb := #[.pointer (some ⟨w.heap.size + 1 + 1, 0, none⟩)]) rfl trivial (enters_of Try.func47 (by kernel_rfl) rfl)
    (after_stops Fence.wide 2 trivial rfl (by omega) (w.heap.size + 1 + 1) n hn W0 (by omega) c2) kcell_t kcell_b (Below.refl _ _) (fun _ => rfl)
    (fun pre W => (W.cell? ⟨w.heap.size, 0, none⟩ = some (.int .u16 g) ∧ W.cell? ⟨w.heap.size + 1, 0, none⟩ = some (.int .i64 (-1)) ∧ W.frozen? ⟨w.heap.size + 1, 0, none⟩ = false ∧ pre.find? (fun m => hasB g m) = none) ∧ Below w.heap.size w W)
    (fun c pre W => (c = .exit 0 ∧ ∃ m, pre.find? (fun m => hasB g m) = some m ∧ W.cell? ⟨w.heap.size + 1, 0, none⟩ = some (.int .i64 m)) ∧ Below w.heap.size w W)
    (OwnFrom.and (Own.from (fun s A B row hs hg hr => ⟨cell_kept hs.1 hg hr, cell_kept hs.2.1 hg hr, (frozen_kept hs.2.1 hg hr).trans hs.2.2.1, hs.2.2.2⟩) _) (ownFrom_below (Nat.le_refl _) (by omega)))
    (fun c => OwnFrom.and (Own.from (fun s A B row hs hg hr => by obtain ⟨hc, m, hm, hcell⟩ := hs; exact ⟨hc, m, hm, cell_kept hcell hg hr⟩) _) (ownFrom_below (Nat.le_refl _) (by omega)))
    ⟨⟨c0, c1, f1, rfl⟩, hB0⟩
    (fun x => { tmps := #[.int .u16 g, .int .i64 n, .pointer (some ⟨w.heap.size, 0, none⟩), undef, .int .i64 0, .pointer (some ⟨w.heap.size + 1, 0, none⟩), .int .i64 x, .int .i64 n, .bool true, .bool false, undef, .int .i64 n, .func (.func 47) #[] #[.pointer (some ⟨w.heap.size + 1 + 1, 0, none⟩)], .int .i64 x, undef, undef, undef, undef, undef], defers := [] }) ?assign ?body ?done ?stop
  case assign =>
    intro l x W K hK
    gi_wp2
    exact hK
  case body =>
    rintro l pre x W ⟨⟨hc0, hc1, hf1, hp⟩, hB⟩ _
    cases hx : hasB g x with
    | true =>
      gi_wp2_with (refine ⟨trivial, ?_⟩; gi_at_call 14; refine (CallsIn.inRound l (callsIn_wide.2 (has_core _ _ _))).mono ?_; rintro e w' ⟨rfl, rfl⟩)
      exact ⟨KeepsOthers.setCell _ _ _, ⟨rfl, x, by rw [find_snoc hp, if_pos hx], World.cell?_setCell_same' _ _ _ (by rw [hc1]; rfl)⟩, hB.setCell (by simp) _⟩
    | false =>
      gi_wp2_with (refine ⟨trivial, ?_⟩; gi_at_call 14; refine (CallsIn.inRound l (callsIn_wide.2 (has_core _ _ _))).mono ?_; rintro e w' ⟨rfl, rfl⟩)
      exact ⟨KeepsOthers.refl _, fun q => q, ⟨hc0, hc1, hf1, by rw [find_snoc hp, if_neg (by rw [hx]; simp)]⟩, hB⟩
  case done =>
    rintro D ys W hD rfl ⟨⟨hc0, hc1, hf1, hp⟩, hB⟩ hK
    have HP := Lib.hid hp
    clear hp
    gi_wp2
    refine ⟨by simp, .inl ⟨_, _, rfl, run_takeDeferred hK, ?_⟩⟩
    exact ⟨_, results_tmp rfl _ _ _, by rw [HP.out]; rfl, hB.trans (belowK_b (w := W0) (by omega) W D _ _ hD hK rfl rfl)⟩
  case stop =>
    rintro D c pre W hD hpre ⟨⟨rfl, m, hm, hc1⟩, hB⟩ hK
    have HP := Lib.hid (find_prefix hm hpre)
    clear hm
    gi_wp2
    refine ⟨by simp, .inl ⟨_, _, rfl, run_takeDeferred hK, ?_⟩⟩
    exact ⟨_, results_tmp rfl _ _ _, by rw [HP.out]; rfl, hB.trans (belowK_b (w := W0) (by omega) W D _ _ hD hK rfl rfl)⟩
theorem next_core (g n : Int) (w : World) : Calls Try.prog 22 #[.int .u16 g, .int .i64 n] w fun e w' => e = .returned (.int .i64 (nextG g n)) ∧ Below w.heap.size w w' := by
  cases h : nodeB n with
  | false => 
    have : nextG g n = -1 := by unfold nextG; rw [if_neg (by rw [h]; simp)]
    rw [this]
    exact next_no g n w h
  | true =>
    have hb : 0 ≤ n ∧ n < 16 := by simpa [nodeB] using h
    obtain ⟨m, rfl⟩ := Int.eq_ofNat_of_zero_le hb.1
    have : nextG g (m : Int) = ((aftL m 16).find? (fun x => hasB g x)).getD (-1) := by unfold nextG; rw [if_pos h, Int.toNat_natCast]
    rw [this]
    exact callsIn_wide.1 (next_yes g m (by omega) w)
def group_Next.f (a0 a1 : Int) : Option Int := some (nextG a0 a1)
theorem group_Next.calls (a0 : Int) (a1 : Int) (r : Int) (w : World) (h : group_Next.f a0 a1 = some r) : Calls Try.prog 22 #[.int .u16 a0, .int .i64 a1] w fun e w' => e = .returned (.int .i64 r) ∧ Below w.heap.size w w' :=
  (next_core a0 a1 w).mono fun e w' ⟨he, hw⟩ => ⟨by rw [he, Option.some.inj h], hw⟩
end Go.Proofs.Ytfjjeadoaoedoaa.Hand
