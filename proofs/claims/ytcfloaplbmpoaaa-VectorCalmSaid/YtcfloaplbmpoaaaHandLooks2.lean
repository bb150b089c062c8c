/- What 'vector.Looks' computes, by hand: the iterator, and the range over it. -/
import Derived.Test.YtcfloaplbmpoaaaHandLooks
set_option linter.unusedVariables false
set_option linter.unusedSimpArgs false
namespace Go.Proofs.Ytcfloaplbmpoaaa.Hand
open Go.RowKit Go.Shelf Go.Proofs.Ytcfloaplbmpoaaa.Grp Go.Proofs.YtcfloaplbmpoaaaW.PrintWords Go.Proofs.YtcfloaplbmpoaaaW.PrintMore
attribute [local go_sem] Oper.semAt_some

/-- The cells of these blocks stay. -/
def KBlk (S : List Nat) (A B : World) : Prop := ∀ b, b ∈ S → ∀ o v, A.cell? ⟨b, o, none⟩ = some v → B.cell? ⟨b, o, none⟩ = some v
theorem kblk_t {S : List Nat} {A B C : World} (h : KBlk S A B) (k : KBlk S B C) : KBlk S A C := fun b hb o v q => k b hb o v (h b hb o v q)
theorem kblk_b {S : List Nat} {n : Nat} (W : World) (l : Nat) (o o' : Obj) (_ : n ≤ l) (h : W.heap[l]? = some o) (ho : o.isCells = false) (_ : o.isWalk = false) : KBlk S W (W.putObj l o') :=
  fun b _ i v q => cell_kept q (grownBy_putObj' W l o') (fun r e => by cases e; exact ⟨o, h, ho⟩)
set_option maxRecDepth 100000 in
set_option maxHeartbeats 2000000 in
theorem looks1_in (m l Bf Bv Ba : Nat) (o v a f n : Int) (ha : 0 ≤ a ∧ a ≤ 2) (J Jx : List Int → World → Prop) (W : World)
    (hY : ∀ pre x W, J pre W → pre.length < 2 → YieldAt Fence.wide (m - 1) Try.prog l #[.int .u16 x] W fun e W' =>
      (e = .returned (.bool true) ∧ J (pre ++ [x]) W' ∧ KBlk [Bf, Bv, Ba] W W') ∨ (e = .returned (.bool false) ∧ Jx (pre ++ [x]) W'))
    (hf : W.cell? ⟨Bf, 0, none⟩ = some (.int .u16 (withG v n))) (hv : W.cell? ⟨Bv, 2, none⟩ = some (.int .i64 a))
    (h1 : W.cell? ⟨Ba, 1, none⟩ = some (.int .u16 (withoutG (withG v n) o))) (h2 : W.cell? ⟨Ba, 2, none⟩ = some (.int .u16 (withG (withoutG (withG v n) o) f))) (h0 : J [] W) :
    CallsIn Fence.wide m Try.prog 39 #[.func (.yield l) #[] #[], .pointer (some ⟨Bf, 0, none⟩), .pointer (some ⟨Bv, 0, none⟩), .pointer (some ⟨Ba, 0, none⟩)] W fun e W' => (∃ v, e = .returned v) ∧
      ((∃ ys, ys = looksV o v a f n ∧ J ys W') ∨ (∃ pre, pre <+: looksV o v a f n ∧ Jx pre W')) := by
  obtain ⟨fn, tmps, assign, body, hy, hR⟩ := hY [] (withG v n) W h0 (by simp)
  refine callsIn_of_wp Try.func39 rfl trivial ?_ rfl
  simp only [Try.ntmps39, List.size_toArray, List.length_cons, List.length_nil, Nat.reduceAdd, Nat.reduceSub, Array.replicate_succ, Array.replicate_zero, List.push_toArray, List.append_toArray, List.nil_append, List.cons_append]
  gi_wp2
  refine ⟨fun h => (by cases h), hR.mono ?_⟩
  rintro e W3 (⟨rfl, hJ3, hk3⟩ | ⟨rfl, hJx3⟩)
  · have c2 : W3.cell? ⟨Bv, 2, none⟩ = some (.int .i64 a) := hk3 Bv (by simp) 2 _ hv
    have d1 : W3.cell? ⟨Ba, 1, none⟩ = some (.int .u16 (withoutG (withG v n) o)) := hk3 Ba (by simp) 1 _ h1
    have d2 : W3.cell? ⟨Ba, 2, none⟩ = some (.int .u16 (withG (withoutG (withG v n) o) f)) := hk3 Ba (by simp) 2 _ h2
    rw [List.nil_append] at hJ3
    by_cases e0 : a = 0
    · subst e0
      gi_wp2
      go_end0
      exact ⟨⟨_, rfl⟩, .inl ⟨_, rfl, hJ3⟩⟩
    · have hL : looksV o v a f n = [withG v n, lookA o v a f n] := by unfold looksV look1; rw [if_neg e0]
      obtain ⟨fn', tmps', assign', body', hy', hR'⟩ := hY [withG v n] (lookA o v a f n) W3 hJ3 (by simp)
      have q0 : (a == 0) = false := by simpa using e0
      rcases (show a = 1 ∨ a = 2 by omega) with rfl | rfl
      · have hA : lookA o v 1 f n = withoutG (withG v n) o := by unfold lookA; rw [if_pos rfl]
        rw [hA] at hy' hR' hL
        have HL := Lib.hid hL
        clear hA hL
        gi_wp2
        refine ⟨fun h => (by cases h), hR'.mono ?_⟩
        rintro e W4 (⟨rfl, hJ4, hk4⟩ | ⟨rfl, hJx4⟩)
        · gi_wp2
          go_end0
          exact ⟨⟨_, rfl⟩, .inl ⟨_, rfl, by rw [HL.out]; exact hJ4⟩⟩
        · gi_wp2
          go_end0
          exact ⟨⟨_, rfl⟩, .inr ⟨_, by rw [HL.out]; exact List.prefix_refl _, hJx4⟩⟩
      · have hA : lookA o v 2 f n = withG (withoutG (withG v n) o) f := by unfold lookA; rw [if_neg (by decide)]
        rw [hA] at hy' hR' hL
        have HL := Lib.hid hL
        clear hA hL
        gi_wp2
        refine ⟨fun h => (by cases h), hR'.mono ?_⟩
        rintro e W4 (⟨rfl, hJ4, hk4⟩ | ⟨rfl, hJx4⟩)
        · gi_wp2
          go_end0
          exact ⟨⟨_, rfl⟩, .inl ⟨_, rfl, by rw [HL.out]; exact hJ4⟩⟩
        · gi_wp2
          go_end0
          exact ⟨⟨_, rfl⟩, .inr ⟨_, by rw [HL.out]; exact List.prefix_refl _, hJx4⟩⟩
  · gi_wp2
    go_end0
    refine ⟨⟨_, rfl⟩, .inr ⟨[] ++ [withG v n], ?_, hJx3⟩⟩
    unfold looksV look1
    split
    · exact List.prefix_refl _
    · exact ⟨[lookA o v a f n], rfl⟩
theorem looks_stops (m Bf Bv Ba : Nat) (o v a f n : Int) (ha : 0 ≤ a ∧ a ≤ 2) (w : World) (b1 : Bf < w.heap.size) (b2 : Bv < w.heap.size) (b3 : Ba < w.heap.size)
    (hf : w.cell? ⟨Bf, 0, none⟩ = some (.int .u16 (withG v n))) (hv : w.cell? ⟨Bv, 2, none⟩ = some (.int .i64 a))
    (h1 : w.cell? ⟨Ba, 1, none⟩ = some (.int .u16 (withoutG (withG v n) o))) (h2 : w.cell? ⟨Ba, 2, none⟩ = some (.int .u16 (withG (withoutG (withG v n) o) f))) :
    SeqStopsK Fence.wide m Try.prog 39 #[.pointer (some ⟨Bf, 0, none⟩), .pointer (some ⟨Bv, 0, none⟩), .pointer (some ⟨Ba, 0, none⟩)] (fun x : Int => #[Value.int .u16 x]) (KBlk [Bf, Bv, Ba]) (fun ys => ys = looksV o v a f n) (fun pre => pre <+: looksV o v a f n) 2 w := fun l J Jx W hW _ _ hY h0 =>
  looks1_in m l Bf Bv Ba o v a f n ha J Jx W hY ((hW.cell (p := ⟨Bf, 0, none⟩) b1).trans hf) ((hW.cell (p := ⟨Bv, 2, none⟩) b2).trans hv) ((hW.cell (p := ⟨Ba, 1, none⟩) b3).trans h1) ((hW.cell (p := ⟨Ba, 2, none⟩) b3).trans h2) h0
end Go.Proofs.Ytcfloaplbmpoaaa.Hand
