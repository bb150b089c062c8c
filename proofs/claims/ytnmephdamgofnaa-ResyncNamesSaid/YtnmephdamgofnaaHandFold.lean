/- What resync.Fold computes, by hand: a range over the rounds. -/
import Derived.Test.YtnmephdamgofnaaHandFold0
import Derived.Test.YtnmephdamgofnaaHandStill
import Derived.Outline
import Derived.Lib.Hide
set_option linter.unusedVariables false
set_option linter.unusedSimpArgs false
namespace Go.Proofs.Ytnmephdamgofnaa.Hand
open Go.RowKit Go.Shelf Go.Proofs.Ytnmephdamgofnaa.PA Go.Proofs.Ytnmephdamgofnaa.PB Go.Proofs.YtnmephdamgofnaaW.PrintWords Go.Proofs.YtnmephdamgofnaaW.PrintMore
attribute [local go_sem] Oper.semAt_some

theorem turns_in (m : Nat) (p : Pl) (A : Option Addr) (n c : Nat) (w : World) : CallsIn Fence.wide m Try.prog 24 #[.agg (planC p), .slice A n c] w fun e w' => e = .returned (.func (.func 32) #[] #[.pointer (some ⟨w.heap.size + 1, 0, none⟩), .pointer (some ⟨w.heap.size, 0, none⟩)]) ∧ w' = (w.alloc (.cells (planC p) 23)).alloc (.cells #[.slice A n c] 27) := by
  refine callsIn_of_wp Try.func24 rfl trivial ?_ rfl
  simp only [Try.ntmps24, List.size_toArray, List.length_cons, List.length_nil, Nat.reduceAdd, Nat.reduceSub, Array.replicate_succ, Array.replicate_zero, List.push_toArray, List.append_toArray, List.nil_append, List.cons_append]
  unfold planC
  gi_wp2
  go_ret
  exact ⟨rfl, rfl⟩
theorem gr_drew {a b : World} {row : Option Nat} (h : a.drew.grownBy b row) : a.grownBy b row := ⟨h.os, h.tape, h.output, h.size, h.block⟩
theorem gr_self (a : World) (row : Option Nat) : a.grownBy a.drew row := ⟨rfl, rfl, rfl, Nat.le_refl _, fun _ _ _ => rfl⟩
/-- What holds between rounds; and where the body is left. -/
def foldI (k : Nat) (p : Pl) (ls : List (List Int)) (res : TS × Int) (w : World) (pre : List (TS × Int)) (W : World) : Prop :=
  (W.heap[w.heap.size + 1]? = some (.cells (stC (0, 0, 0, false)) 25 (0, 0)) ∧ W.heap[w.heap.size + 2]? = some (.cells (stC (lastT pre)) 25 (0, 0)) ∧ W.heap[w.heap.size + 3]? = some (.cells #[.int .i64 0] 28 (0, 0)) ∧ goodT (turnP k p) ls res pre) ∧ Below w.heap.size w W
def foldX (res : TS × Int) (w : World) (cd : Code) (pre : List (TS × Int)) (W : World) : Prop :=
  (W.heap[w.heap.size + 1]? = some (.cells (stC (0, 0, 0, false)) 25 (0, 0)) ∧ W.heap[w.heap.size + 2]? = some (.cells (stC res.1) 25 (0, 0)) ∧ W.heap[w.heap.size + 3]? = some (.cells #[.int .i64 res.2] 28 (0, 0)) ∧ cd = .exit 0) ∧ Below w.heap.size w W
theorem foldI_all (k : Nat) (p : Pl) (ls : List (List Int)) (res : TS × Int) (w : World) (n : Nat) (hn : w.heap.size + 4 ≤ n) : AllFrom n (foldI k p ls res w) := fun s A B row hs hg hr =>
  ⟨⟨blk_grown hs.1.1 hg (fun q => by have := hr _ q.symm; omega), blk_grown hs.1.2.1 hg (fun q => by have := hr _ q.symm; omega), blk_grown hs.1.2.2.1 hg (fun q => by have := hr _ q.symm; omega), hs.1.2.2.2⟩, hs.2.grown hg hs.2.size (fun r q => by have := hr r q; omega)⟩
theorem foldX_all (res : TS × Int) (w : World) (cd : Code) (n : Nat) (hn : w.heap.size + 4 ≤ n) : AllFrom n (foldX res w cd) := fun s A B row hs hg hr =>
  ⟨⟨blk_grown hs.1.1 hg (fun q => by have := hr _ q.symm; omega), blk_grown hs.1.2.1 hg (fun q => by have := hr _ q.symm; omega), blk_grown hs.1.2.2.1 hg (fun q => by have := hr _ q.symm; omega), hs.1.2.2.2⟩, hs.2.grown hg hs.2.size (fun r q => by have := hr r q; omega)⟩
/-- A round of the body. -/
theorem fold_next {k : Nat} {p : Pl} {ls : List (List Int)} {res : TS × Int} {pre : List (TS × Int)} {x : TS × Int} (hN : nextT (turnP k p) ls pre x) (hg : goodT (turnP k p) ls res pre) : if x.2 = 0 then goodT (turnP k p) ls res (pre ++ [x]) else res = x := by
  obtain ⟨hlt, y, hT⟩ := hN
  obtain ⟨s', y', e', hT', h⟩ := foldG_step hg hlt
  rw [hT] at hT'
  have h2 := Option.some.inj hT'
  simp only [Prod.mk.injEq] at h2
  obtain ⟨h1, h2, h3, h4, h5, h6⟩ := h2
  have hs : s' = x.1 := by
    obtain ⟨s1, s2, s3, s4⟩ := s'
    obtain ⟨⟨q1, q2, q3, q4⟩, q5⟩ := x
    simp only at h1 h2 h3 h4
    subst h1; subst h2; subst h3; subst h4
    rfl
  subst hs
  rw [← h6] at h
  by_cases h0 : x.2 = 0
  · rw [if_pos h0] at h ⊢
    unfold goodT
    rw [lastT_append, List.length_append, List.length_singleton]
    exact h
  · rw [if_neg h0] at h ⊢
    exact h
set_option maxRecDepth 100000 in
set_option maxHeartbeats 8000000 in
theorem fold_in (k : Nat) (p : Pl) (A : Option Addr) (cp : Nat) (ls : List (List Int)) (res : TS × Int) (hf : foldG (turnP k p) ls (0, 0, 0, false) = some res) (w : World) (hM : Kd.C (Kd.slice 2 (Kd.int .i64)) w A ls.length ls) (hcp : ls.length ≤ cp) (hbig : ls.length ≤ 1000000) :
    CallsIn Fence.wide 3 Try.prog 11 #[.agg (planC p), .slice A ls.length cp] w fun e W' => e = .returned (.tuple #[.agg (stC res.1), .int .i64 res.2]) ∧ Below w.heap.size w W' := by
  have hp16 := planC_size p
  have hR := Lib.hid hf
  clear hf
  refine callsIn_of_wp_marks Try.func11 rfl trivial ?_ rfl
  simp only [Try.ntmps11, List.size_toArray, List.length_cons, List.length_nil, Nat.reduceAdd, Nat.reduceSub, Array.replicate_succ, Array.replicate_zero, List.push_toArray, List.append_toArray, List.nil_append, List.cons_append]
  unfold planC
  gi_wp2
  refine wpIn_wide.2 (wp_scope_straight ((wpIn_wide (n := 3)).1 ?_))
  gi_wp2
  refine wpIn_label ?_
  gi_wp2_with (refine ⟨trivial, ?_⟩; gi_at_call 24; refine (turns_in 2 p _ _ _ _).mono ?_; rintro e w' ⟨rfl, rfl⟩)
  simp only [Nat.add_assoc, Nat.reduceAdd]
  obtain ⟨V, hV⟩ : ∃ V, ((((((w.alloc (.cells (planC p) 23)).alloc (.cells (stC (0, 0, 0, false)) 25)).alloc (.cells (stC (0, 0, 0, false)) 25)).alloc (.cells #[.int .i64 0] 28)).alloc (.cells (planC p) 23)).alloc (.cells #[.slice A ls.length cp] 27)) = V := ⟨_, rfl⟩
  have hsz : V.heap.size = w.heap.size + 6 := by rw [← hV]; simp
  have h1 : V.heap[w.heap.size + 1]? = some (.cells (stC (0, 0, 0, false)) 25 (0, 0)) := by
    rw [← hV]
    have := blk_new (w.alloc (.cells (planC p) 23)) (.cells (stC (0, 0, 0, false)) 25)
    rw [World.size_alloc] at this
    exact blk_alloc (blk_alloc (blk_alloc (blk_alloc this _) _) _) _
  have h2 : V.heap[w.heap.size + 2]? = some (.cells (stC (0, 0, 0, false)) 25 (0, 0)) := by
    rw [← hV]
    have := blk_new ((w.alloc (.cells (planC p) 23)).alloc (.cells (stC (0, 0, 0, false)) 25)) (.cells (stC (0, 0, 0, false)) 25)
    rw [World.size_alloc, World.size_alloc] at this
    exact blk_alloc (blk_alloc (blk_alloc this _) _) _
  have h3 : V.heap[w.heap.size + 3]? = some (.cells #[.int .i64 0] 28 (0, 0)) := by
    rw [← hV]
    have := blk_new (((w.alloc (.cells (planC p) 23)).alloc (.cells (stC (0, 0, 0, false)) 25)).alloc (.cells (stC (0, 0, 0, false)) 25)) (.cells #[.int .i64 0] 28)
    rw [World.size_alloc, World.size_alloc, World.size_alloc] at this
    exact blk_alloc (blk_alloc this _) _
  have h4 : V.heap[w.heap.size + 4]? = some (.cells (planC p) 23 (0, 0)) := by
    rw [← hV]
    have := blk_new ((((w.alloc (.cells (planC p) 23)).alloc (.cells (stC (0, 0, 0, false)) 25)).alloc (.cells (stC (0, 0, 0, false)) 25)).alloc (.cells #[.int .i64 0] 28)) (.cells (planC p) 23)
    rw [World.size_alloc, World.size_alloc, World.size_alloc, World.size_alloc] at this
    exact blk_alloc this _
  have h5 : V.heap[w.heap.size + 5]? = some (.cells #[.slice A ls.length cp] 27 (0, 0)) := by
    rw [← hV]
    have := blk_new (((((w.alloc (.cells (planC p) 23)).alloc (.cells (stC (0, 0, 0, false)) 25)).alloc (.cells (stC (0, 0, 0, false)) 25)).alloc (.cells #[.int .i64 0] 28)).alloc (.cells (planC p) 23)) (.cells #[.slice A ls.length cp] 27)
    rwa [World.size_alloc, World.size_alloc, World.size_alloc, World.size_alloc, World.size_alloc] at this
  have hBV : Below w.heap.size w V := by
    rw [← hV]
    exact ((((((Below.refl _ w).alloc (Nat.le_refl _) _).alloc (by simp) _).alloc (by simp <;> omega) _).alloc (by simp <;> omega) _).alloc (by simp <;> omega) _).alloc (by simp <;> omega) _
  rw [show ((((((w.alloc (.cells #[.int .i64 p.a0, .int .i64 p.a1, .int .i64 p.a2, .int .i64 p.a3, .int .i64 p.a4, .int .i64 p.a5, .int .i64 p.a6, .int .i64 p.a7, .int .i64 p.a8, .int .i64 p.a9, .int .i64 p.a10, .int .i64 p.a11, .int .i64 p.a12, .int .i64 p.a13, .int .i64 p.a14, .int .i64 p.a15] 23)).alloc (.cells #[.int .i64 0, .int .i64 0, .int .i64 0, .bool false] 25)).alloc (.cells #[.int .i64 0, .int .i64 0, .int .i64 0, .bool false] 25)).alloc (.cells #[.int .i64 0] 28)).alloc (.cells (planC p) 23)).alloc (.cells #[.slice A ls.length cp] 27)) = V from hV]
  clear hV
  have hend : ∀ (W : World) (s : TS) (e : Int), W.heap[w.heap.size + 2]? = some (.cells (stC s) 25 (0, 0)) → True := fun _ _ _ _ => trivial
  refine wpIn_rangeFunc_ordA rfl (by omega) (gf := 32) (lb := #[.pointer (some ⟨w.heap.size + 5, 0, none⟩), .pointer (some ⟨w.heap.size + 4, 0, none⟩)]) rfl trivial (enters_of Try.func32 (by kernel_rfl) rfl)
    (turns1_in 2 (w.heap.size + 2) (w.heap.size + 3) (w.heap.size + 5) (w.heap.size + 4) k p A cp ls res w V hBV hM hcp hbig h5 h4 (by omega) (by omega) (by omega)) kf_t (kf_b (by omega)) (Below.refl _ _) (fun _ => rfl)
    (foldI k p ls res w) (foldX res w) (foldI_all k p ls res w _ (by omega)) (fun cd => foldX_all res w cd _ (by omega)) (fun pre W h => h.1.2.2.2) ⟨⟨h1, h2, h3, by unfold goodT; exact hR.out⟩, hBV⟩
    (fun x a' W => ∃ g, a' = { tmps := #[.agg #[.int .i64 p.a0, .int .i64 p.a1, .int .i64 p.a2, .int .i64 p.a3, .int .i64 p.a4, .int .i64 p.a5, .int .i64 p.a6, .int .i64 p.a7, .int .i64 p.a8, .int .i64 p.a9, .int .i64 p.a10, .int .i64 p.a11, .int .i64 p.a12, .int .i64 p.a13, .int .i64 p.a14, .int .i64 p.a15], .slice A ls.length cp, .pointer (some ⟨w.heap.size, 0, none⟩), undef, .pointer (some ⟨w.heap.size + 1, 0, none⟩), .int .i64 0, .pointer (some ⟨w.heap.size + 2, 0, none⟩), .pointer (some ⟨w.heap.size + 3, 0, none⟩), .pointer (some ⟨g, 0, none⟩), .int .i64 x.2, .agg #[.int .i64 p.a0, .int .i64 p.a1, .int .i64 p.a2, .int .i64 p.a3, .int .i64 p.a4, .int .i64 p.a5, .int .i64 p.a6, .int .i64 p.a7, .int .i64 p.a8, .int .i64 p.a9, .int .i64 p.a10, .int .i64 p.a11, .int .i64 p.a12, .int .i64 p.a13, .int .i64 p.a14, .int .i64 p.a15], .slice A ls.length cp, .func (.func 32) #[] #[.pointer (some ⟨w.heap.size + 5, 0, none⟩), .pointer (some ⟨w.heap.size + 4, 0, none⟩)], .agg (stC x.1), .int .i64 x.2, undef, undef, undef, undef, undef, undef], defers := [] } ∧ W.heap[g]? = some (.cells (stC x.1) 25 (0, 0)) ∧ w.heap.size + 4 ≤ g)
    (fun x a' s A B row hs hg hr => by obtain ⟨g, e, hb, hl⟩ := hs; exact ⟨g, e, blk_grown hb hg (fun q => by obtain ⟨o, ho, hcl⟩ := (hr _ q.symm).2; rw [hb] at ho; cases ho; cases hcl), hl⟩) ?assign ?body ?done ?stop
  case assign =>
    intro l0 pre x W K hN hI hK
    have hz := blk_lt hI.1.2.2.1
    obtain ⟨⟨n1, n2, n3, n4⟩, e⟩ := x
    unfold encT stC
    gi_wp2
    exact hK _ _ (KeepsFrom.of_grownBy (World.grownBy_alloc W _ none) (fun j q => by cases q)) ⟨fun i o h _ _ _ => blk_alloc h _, (Below.refl _ W).alloc (by omega) _⟩ (foldI_all k p ls res w _ (Nat.le_refl _) pre W _ none hI (World.grownBy_alloc W _ none) (fun r q => by cases q)) ⟨W.heap.size, rfl, blk_new _ _, by omega⟩
  case body =>
    rintro l0 pre x a' W hN ⟨⟨hb1, hb2, hb3, hg⟩, hB⟩ ⟨g, rfl, hb4, hgl⟩
    have hnx := Lib.hid (fold_next hN hg)
    clear hN hg
    obtain ⟨⟨n1, n2, n3, n4⟩, e⟩ := x
    generalize lastT pre = st at hb2
    obtain ⟨s1, s2, s3, s4⟩ := st
    have a0 : W.cell? ⟨g, 0, none⟩ = some (.int .i64 n1) := blk_cell hb4 0
    have a1 : W.cell? ⟨g, 1, none⟩ = some (.int .i64 n2) := blk_cell hb4 1
    have a2 : W.cell? ⟨g, 2, none⟩ = some (.int .i64 n3) := blk_cell hb4 2
    have a3 : W.cell? ⟨g, 3, none⟩ = some (.bool n4) := blk_cell hb4 3
    have b0 : W.cell? ⟨w.heap.size + 2, 0, none⟩ = some (.int .i64 s1) := blk_cell hb2 0
    have b1 : W.cell? ⟨w.heap.size + 2, 1, none⟩ = some (.int .i64 s2) := blk_cell hb2 1
    have b2 : W.cell? ⟨w.heap.size + 2, 2, none⟩ = some (.int .i64 s3) := blk_cell hb2 2
    have b3 : W.cell? ⟨w.heap.size + 2, 3, none⟩ = some (.bool s4) := blk_cell hb2 3
    have f0 := blk_frozen hb2 0
    have f1 := blk_frozen hb2 1
    have f2 := blk_frozen hb2 2
    have f3 := blk_frozen hb2 3
    have c0 : W.cell? ⟨w.heap.size + 3, 0, none⟩ = some (.int .i64 0) := blk_cell hb3 0
    have fc := blk_frozen hb3 0
    have hg1 : W.grownBy ((((W.setCell ⟨w.heap.size + 2, 0, none⟩ (.int .i64 n1)).setCell ⟨w.heap.size + 2, 1, none⟩ (.int .i64 n2)).setCell ⟨w.heap.size + 2, 2, none⟩ (.int .i64 n3)).setCell ⟨w.heap.size + 2, 3, none⟩ (.bool n4)) (some (w.heap.size + 2)) := setCells_grown W (w.heap.size + 2) 0 [.int .i64 n1, .int .i64 n2, .int .i64 n3, .bool n4]
    have q2 := blk_set (blk_set (blk_set (blk_set hb2 0 (.int .i64 n1)) 1 (.int .i64 n2)) 2 (.int .i64 n3)) 3 (.bool n4)
    have q3 := blk_grown hb3 hg1 (fun q => by injection q with q; omega)
    have q1 := blk_grown hb1 hg1 (fun q => by injection q with q; omega)
    have hKF : KF (w.heap.size + 2) (w.heap.size + 3) w.heap.size W ((((W.setCell ⟨w.heap.size + 2, 0, none⟩ (.int .i64 n1)).setCell ⟨w.heap.size + 2, 1, none⟩ (.int .i64 n2)).setCell ⟨w.heap.size + 2, 2, none⟩ (.int .i64 n3)).setCell ⟨w.heap.size + 2, 3, none⟩ (.bool n4)) :=
      ⟨fun i o hq _ h2 _ => blk_grown hq hg1 (fun q => by injection q with q; exact h2 q), (Below.refl _ W).grown hg1 hB.size (fun j q => by injection q with q; omega)⟩
    have hkk := KeepsFrom.of_grownBy (B := V.heap.size) hg1 (fun j q => by injection q with q; omega)
    have fin : ∀ (W2 : World), ((((W.setCell ⟨w.heap.size + 2, 0, none⟩ (.int .i64 n1)).setCell ⟨w.heap.size + 2, 1, none⟩ (.int .i64 n2)).setCell ⟨w.heap.size + 2, 2, none⟩ (.int .i64 n3)).setCell ⟨w.heap.size + 2, 3, none⟩ (.bool n4)).setCell ⟨w.heap.size + 3, 0, none⟩ (.int .i64 e) = W2 →
        KeepsFrom V.heap.size W W2 ∧ KF (w.heap.size + 2) (w.heap.size + 3) w.heap.size W W2 ∧ (W2.heap[w.heap.size + 1]? = some (.cells (stC (0, 0, 0, false)) 25 (0, 0)) ∧ W2.heap[w.heap.size + 2]? = some (.cells (stC (n1, n2, n3, n4)) 25 (0, 0)) ∧ W2.heap[w.heap.size + 3]? = some (.cells #[.int .i64 e] 28 (0, 0))) ∧ Below w.heap.size w W2 := by
      intro W2 hW2
      generalize (((W.setCell ⟨w.heap.size + 2, 0, none⟩ (.int .i64 n1)).setCell ⟨w.heap.size + 2, 1, none⟩ (.int .i64 n2)).setCell ⟨w.heap.size + 2, 2, none⟩ (.int .i64 n3)).setCell ⟨w.heap.size + 2, 3, none⟩ (.bool n4) = W1 at hg1 q1 q2 q3 hKF hkk hW2
      have hg2 : W1.grownBy W2 (some (w.heap.size + 3)) := by rw [← hW2]; exact setCells_grown W1 (w.heap.size + 3) 0 [.int .i64 e]
      have r3 : W2.heap[w.heap.size + 3]? = some (.cells #[.int .i64 e] 28 (0, 0)) := by rw [← hW2]; simpa using blk_set q3 0 (.int .i64 e)
      refine ⟨hkk.trans (KeepsFrom.of_grownBy hg2 (fun j q => by injection q with q; omega)), kf_t hKF ⟨fun i o hq _ _ h3 => blk_grown hq hg2 (fun q => by injection q with q; exact h3 q), (Below.refl _ W1).grown hg2 (Nat.le_trans hB.size hKF.2.size) (fun j q => by injection q with q; omega)⟩,
        ⟨blk_grown q1 hg2 (fun q => by injection q with q; omega), ?_, r3⟩, (hB.trans hKF.2).grown hg2 (Nat.le_trans hB.size hKF.2.size) (fun j q => by injection q with q; omega)⟩
      have r2 := blk_grown q2 hg2 (fun q => by injection q with q; omega)
      simpa [stC] using r2
    clear hg1 q1 q2 q3 hKF hkk
    by_cases h0 : e = 0
    · subst h0
      gi_wp2
      obtain ⟨k1, k2, ⟨k3, k4, k5⟩, k6⟩ := fin _ rfl
      have hn := hnx.out
      rw [if_pos trivial] at hn
      exact ⟨hsz ▸ k1, k2, ⟨k3, by rw [lastT_append]; exact k4, k5, hn⟩, k6⟩
    · gi_wp2
      obtain ⟨k1, k2, ⟨k3, k4, k5⟩, k6⟩ := fin _ rfl
      have hn := hnx.out
      rw [if_neg h0] at hn
      subst hn
      exact ⟨hsz ▸ k1, ⟨k3, k4, k5, rfl⟩, k6⟩
  case done =>
    rintro D xs W hD hS ⟨⟨hb1, hb2, hb3, hg⟩, hB⟩ hK
    unfold goodT at hg
    rw [hS, List.drop_length] at hg
    have hr : res = (lastT xs, 0) := (Option.some.inj hg).symm
    subst hr
    clear hg hR
    gi_wp2
    generalize hst : lastT xs = st at hb2
    obtain ⟨s1, s2, s3, s4⟩ := st
    have b0 : W.cell? ⟨w.heap.size + 2, 0, none⟩ = some (.int .i64 s1) := blk_cell hb2 0
    have b1 : W.cell? ⟨w.heap.size + 2, 1, none⟩ = some (.int .i64 s2) := blk_cell hb2 1
    have b2 : W.cell? ⟨w.heap.size + 2, 2, none⟩ = some (.int .i64 s3) := blk_cell hb2 2
    have b3 : W.cell? ⟨w.heap.size + 2, 3, none⟩ = some (.bool s4) := blk_cell hb2 3
    have a0 : W.cell? ⟨w.heap.size + 1, 0, none⟩ = some (.int .i64 0) := blk_cell hb1 0
    have a1 : W.cell? ⟨w.heap.size + 1, 1, none⟩ = some (.int .i64 0) := blk_cell hb1 1
    have a2 : W.cell? ⟨w.heap.size + 1, 2, none⟩ = some (.int .i64 0) := blk_cell hb1 2
    have a3 : W.cell? ⟨w.heap.size + 1, 3, none⟩ = some (.bool false) := blk_cell hb1 3
    have f0 := blk_frozen hb1 0
    have f1 := blk_frozen hb1 1
    have f2 := blk_frozen hb1 2
    have f3 := blk_frozen hb1 3
    have c0 : W.cell? ⟨w.heap.size + 3, 0, none⟩ = some (.int .i64 0) := blk_cell hb3 0
    have HK : Hid (∀ w', W.grownBy w' (some (w.heap.size + 1)) → w'.cell? ⟨w.heap.size + 2, 0, none⟩ = some (.int .i64 s1) ∧ w'.cell? ⟨w.heap.size + 2, 1, none⟩ = some (.int .i64 s2) ∧ w'.cell? ⟨w.heap.size + 2, 2, none⟩ = some (.int .i64 s3) ∧ w'.cell? ⟨w.heap.size + 2, 3, none⟩ = some (.bool s4) ∧ w'.cell? ⟨w.heap.size + 3, 0, none⟩ = some (.int .i64 0)) := by
      intro w' hg
      have g2 := blk_grown hb2 hg (fun q => by injection q with q; omega)
      have g3 := blk_grown hb3 hg (fun q => by injection q with q; omega)
      exact ⟨blk_cell g2 0, blk_cell g2 1, blk_cell g2 2, blk_cell g2 3, blk_cell g3 0⟩
    refine wpIn_wide.2 ?_
    go_region_held3 (fun w' => w'.cell? ⟨w.heap.size + 2, 0, none⟩ = some (.int .i64 s1) ∧ w'.cell? ⟨w.heap.size + 2, 1, none⟩ = some (.int .i64 s2) ∧ w'.cell? ⟨w.heap.size + 2, 2, none⟩ = some (.int .i64 s3) ∧ w'.cell? ⟨w.heap.size + 2, 3, none⟩ = some (.bool s4) ∧ w'.cell? ⟨w.heap.size + 3, 0, none⟩ = some (.int .i64 0))
      ((refine HK.out _ ?_; first | exact gr_self _ _ | exact gr_drew (setCells_grown W.drew (w.heap.size + 1) 0 [.int .i64 s1, .int .i64 s2, .int .i64 s3, .bool s4])))
      (fail)
    gi_wp2
    have hg4 : W.grownBy ((((W.setCell ⟨w.heap.size + 1, 0, none⟩ (.int .i64 s1)).setCell ⟨w.heap.size + 1, 1, none⟩ (.int .i64 s2)).setCell ⟨w.heap.size + 1, 2, none⟩ (.int .i64 s3)).setCell ⟨w.heap.size + 1, 3, none⟩ (.bool s4)) (some (w.heap.size + 1)) := setCells_grown W (w.heap.size + 1) 0 [.int .i64 s1, .int .i64 s2, .int .i64 s3, .bool s4]
    have q1 := blk_set (blk_set (blk_set (blk_set hb1 0 (.int .i64 s1)) 1 (.int .i64 s2)) 2 (.int .i64 s3)) 3 (.bool s4)
    generalize (((W.setCell ⟨w.heap.size + 1, 0, none⟩ (.int .i64 s1)).setCell ⟨w.heap.size + 1, 1, none⟩ (.int .i64 s2)).setCell ⟨w.heap.size + 1, 2, none⟩ (.int .i64 s3)).setCell ⟨w.heap.size + 1, 3, none⟩ (.bool s4) = W4 at hg4 q1 ⊢
    have q2 : W4.heap[w.heap.size + 1]? = some (.cells (stC (s1, s2, s3, s4)) 25 (0, 0)) := by simpa [stC] using q1
    have hK4 := blk_grown hK hg4 (fun q => by injection q with q; omega)
    have hB4 : Below w.heap.size w W4 := hB.grown hg4 hB.size (fun j q => by injection q with q; omega)
    refine ⟨by simp, .inl ⟨_, _, rfl, run_takeDeferred hK4, ?_⟩⟩
    exact ⟨_, results_ct rfl _ _ (w.heap.size + 1) 25 (stC (s1, s2, s3, s4)) (0, 0) _ rfl ((World.putObj_heap_other (by omega)).trans q2) Try.underlying25 rfl rfl, (by first | rfl | (rw [hst]; rfl) | simp [hst]), hB4.drew.trans (belowK_b (w := w) (Nat.le_refl _) W4.drew D _ _ (by omega) hK4 rfl rfl)⟩
  case stop =>
    rintro D cd pre W hD _ ⟨⟨hb1, hb2, hb3, rfl⟩, hB⟩ hK
    clear hR
    obtain ⟨⟨s1, s2, s3, s4⟩, en⟩ := res
    gi_wp2
    have b0 : W.cell? ⟨w.heap.size + 2, 0, none⟩ = some (.int .i64 s1) := blk_cell hb2 0
    have b1 : W.cell? ⟨w.heap.size + 2, 1, none⟩ = some (.int .i64 s2) := blk_cell hb2 1
    have b2 : W.cell? ⟨w.heap.size + 2, 2, none⟩ = some (.int .i64 s3) := blk_cell hb2 2
    have b3 : W.cell? ⟨w.heap.size + 2, 3, none⟩ = some (.bool s4) := blk_cell hb2 3
    have a0 : W.cell? ⟨w.heap.size + 1, 0, none⟩ = some (.int .i64 0) := blk_cell hb1 0
    have a1 : W.cell? ⟨w.heap.size + 1, 1, none⟩ = some (.int .i64 0) := blk_cell hb1 1
    have a2 : W.cell? ⟨w.heap.size + 1, 2, none⟩ = some (.int .i64 0) := blk_cell hb1 2
    have a3 : W.cell? ⟨w.heap.size + 1, 3, none⟩ = some (.bool false) := blk_cell hb1 3
    have f0 := blk_frozen hb1 0
    have f1 := blk_frozen hb1 1
    have f2 := blk_frozen hb1 2
    have f3 := blk_frozen hb1 3
    have c0 : W.cell? ⟨w.heap.size + 3, 0, none⟩ = some (.int .i64 en) := blk_cell hb3 0
    have HK : Hid (∀ w', W.grownBy w' (some (w.heap.size + 1)) → w'.cell? ⟨w.heap.size + 2, 0, none⟩ = some (.int .i64 s1) ∧ w'.cell? ⟨w.heap.size + 2, 1, none⟩ = some (.int .i64 s2) ∧ w'.cell? ⟨w.heap.size + 2, 2, none⟩ = some (.int .i64 s3) ∧ w'.cell? ⟨w.heap.size + 2, 3, none⟩ = some (.bool s4) ∧ w'.cell? ⟨w.heap.size + 3, 0, none⟩ = some (.int .i64 en)) := by
      intro w' hg
      have g2 := blk_grown hb2 hg (fun q => by injection q with q; omega)
      have g3 := blk_grown hb3 hg (fun q => by injection q with q; omega)
      exact ⟨blk_cell g2 0, blk_cell g2 1, blk_cell g2 2, blk_cell g2 3, blk_cell g3 0⟩
    refine wpIn_wide.2 ?_
    go_region_held3 (fun w' => w'.cell? ⟨w.heap.size + 2, 0, none⟩ = some (.int .i64 s1) ∧ w'.cell? ⟨w.heap.size + 2, 1, none⟩ = some (.int .i64 s2) ∧ w'.cell? ⟨w.heap.size + 2, 2, none⟩ = some (.int .i64 s3) ∧ w'.cell? ⟨w.heap.size + 2, 3, none⟩ = some (.bool s4) ∧ w'.cell? ⟨w.heap.size + 3, 0, none⟩ = some (.int .i64 en))
      ((refine HK.out _ ?_; first | exact gr_self _ _ | exact gr_drew (setCells_grown W.drew (w.heap.size + 1) 0 [.int .i64 s1, .int .i64 s2, .int .i64 s3, .bool s4])))
      (fail)
    gi_wp2
    have hg4 : W.grownBy ((((W.setCell ⟨w.heap.size + 1, 0, none⟩ (.int .i64 s1)).setCell ⟨w.heap.size + 1, 1, none⟩ (.int .i64 s2)).setCell ⟨w.heap.size + 1, 2, none⟩ (.int .i64 s3)).setCell ⟨w.heap.size + 1, 3, none⟩ (.bool s4)) (some (w.heap.size + 1)) := setCells_grown W (w.heap.size + 1) 0 [.int .i64 s1, .int .i64 s2, .int .i64 s3, .bool s4]
    have q1 := blk_set (blk_set (blk_set (blk_set hb1 0 (.int .i64 s1)) 1 (.int .i64 s2)) 2 (.int .i64 s3)) 3 (.bool s4)
    generalize (((W.setCell ⟨w.heap.size + 1, 0, none⟩ (.int .i64 s1)).setCell ⟨w.heap.size + 1, 1, none⟩ (.int .i64 s2)).setCell ⟨w.heap.size + 1, 2, none⟩ (.int .i64 s3)).setCell ⟨w.heap.size + 1, 3, none⟩ (.bool s4) = W4 at hg4 q1 ⊢
    have q2 : W4.heap[w.heap.size + 1]? = some (.cells (stC (s1, s2, s3, s4)) 25 (0, 0)) := by simpa [stC] using q1
    have hK4 := blk_grown hK hg4 (fun q => by injection q with q; omega)
    have hB4 : Below w.heap.size w W4 := hB.grown hg4 hB.size (fun j q => by injection q with q; omega)
    refine ⟨by simp, .inl ⟨_, _, rfl, run_takeDeferred hK4, ?_⟩⟩
    exact ⟨_, results_ct rfl _ _ (w.heap.size + 1) 25 (stC (s1, s2, s3, s4)) (0, 0) _ rfl ((World.putObj_heap_other (by omega)).trans q2) Try.underlying25 rfl rfl, (by first | rfl | (rw [hst]; rfl) | simp [hst]), hB4.drew.trans (belowK_b (w := w) (Nat.le_refl _) W4.drew D _ _ (by omega) hK4 rfl rfl)⟩
/-- What resync.Fold computes. -/
def resync_Fold.f (k : Nat) (a0_0 a0_1 a0_2 a0_3 a0_4 a0_5 a0_6 a0_7 a0_8 a0_9 a0_10 a0_11 a0_12 a0_13 a0_14 a0_15 : Int) (l1 : List (List Int)) : Option (Int × Int × Int × Bool × Int) := if l1.length ≤ 1000000 then (foldG (turnP k ⟨a0_0, a0_1, a0_2, a0_3, a0_4, a0_5, a0_6, a0_7, a0_8, a0_9, a0_10, a0_11, a0_12, a0_13, a0_14, a0_15⟩) l1 (0, 0, 0, false)).map fun r => (r.1.1, r.1.2.1, r.1.2.2.1, r.1.2.2.2, r.2) else none
theorem foldG_mono {T T' : TS → List Int → Option RF} (h : ∀ s l, LeO (T s l) (T' s l)) : ∀ (ls : List (List Int)) (s : TS), LeO (foldG T ls s) (foldG T' ls s)
  | [], s => fun r h => h
  | l :: ls, s => fun r hr => by
    simp only [foldG] at hr ⊢
    cases hT : T s l with
    | none => rw [hT] at hr; cases hr
    | some q =>
      rw [hT, Option.bind_some] at hr
      rw [h s l q hT, Option.bind_some]
      by_cases h0 : q.2.2.2.2.2 = 0
      · rw [if_pos h0] at hr ⊢; exact foldG_mono h ls _ r hr
      · rw [if_neg h0] at hr ⊢; exact hr
theorem resync_Fold.mono : ∀ y0 y1 y2 y3 y4 y5 y6 y7 y8 y9 y10 y11 y12 y13 y14 y15 l k, LeO (resync_Fold.f k y0 y1 y2 y3 y4 y5 y6 y7 y8 y9 y10 y11 y12 y13 y14 y15 l) (resync_Fold.f (k + 1) y0 y1 y2 y3 y4 y5 y6 y7 y8 y9 y10 y11 y12 y13 y14 y15 l) := by
  intro y0 y1 y2 y3 y4 y5 y6 y7 y8 y9 y10 y11 y12 y13 y14 y15 l k r hr
  unfold resync_Fold.f at hr ⊢
  by_cases hb : l.length ≤ 1000000
  case neg => rw [if_neg hb] at hr; cases hr
  rw [if_pos hb] at hr ⊢
  obtain ⟨q, hq, e⟩ := Option.map_eq_some_iff.1 hr
  have hq2 := foldG_mono (T' := turnP (k + 1) ⟨y0, y1, y2, y3, y4, y5, y6, y7, y8, y9, y10, y11, y12, y13, y14, y15⟩) (fun s l => resync_Turn.mono _ _ _ _ _ _ _ _ _ _ _ _ _ _ _ _ _ _ _ _ _ k) l _ q hq
  rw [hq2]
  exact congrArg some e
theorem resync_Fold.calls (k : Nat) (a0_0 a0_1 a0_2 a0_3 a0_4 a0_5 a0_6 a0_7 a0_8 a0_9 a0_10 a0_11 a0_12 a0_13 a0_14 a0_15 : Int) (A1 : Option Addr) (c1 : Nat) (l1 : List (List Int)) (r1 r2 r3 : Int) (r4 : Bool) (r5 : Int) (w : World) (hr1 : Kd.C (Kd.slice 2 (Kd.int .i64)) w A1 l1.length l1) (hc1 : l1.length ≤ c1) (h : resync_Fold.f k a0_0 a0_1 a0_2 a0_3 a0_4 a0_5 a0_6 a0_7 a0_8 a0_9 a0_10 a0_11 a0_12 a0_13 a0_14 a0_15 l1 = some (r1, r2, r3, r4, r5)) :
    Calls Try.prog 11 #[.agg #[.int .i64 a0_0, .int .i64 a0_1, .int .i64 a0_2, .int .i64 a0_3, .int .i64 a0_4, .int .i64 a0_5, .int .i64 a0_6, .int .i64 a0_7, .int .i64 a0_8, .int .i64 a0_9, .int .i64 a0_10, .int .i64 a0_11, .int .i64 a0_12, .int .i64 a0_13, .int .i64 a0_14, .int .i64 a0_15], .slice A1 l1.length c1] w fun e w' => e = .returned (.tuple #[.agg #[.int .i64 r1, .int .i64 r2, .int .i64 r3, .bool r4], .int .i64 r5]) ∧ Below w.heap.size w w' := by
  unfold resync_Fold.f at h
  by_cases hb : l1.length ≤ 1000000
  case neg => rw [if_neg hb] at h; cases h
  rw [if_pos hb] at h
  obtain ⟨⟨⟨q1, q2, q3, q4⟩, q5⟩, hq, e⟩ := Option.map_eq_some_iff.1 h
  simp only [Prod.mk.injEq] at e
  obtain ⟨rfl, rfl, rfl, rfl, rfl⟩ := e
  exact callsIn_wide.1 (fold_in k _ A1 c1 l1 _ hq w hr1 hc1 hb)
end Go.Proofs.Ytnmephdamgofnaa.Hand
