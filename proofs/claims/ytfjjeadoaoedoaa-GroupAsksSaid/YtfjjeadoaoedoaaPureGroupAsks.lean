/- GroupAsks: what is told of any two groups, and any number, is the document's. -/
import Derived.Test.YtfjjeadoaoedoaaPureGroupRef
namespace Go.Proofs.Ytfjjeadoaoedoaa.Pure
open Go.RowKit Go.Proofs.Ytfjjeadoaoedoaa.Grp Go.Proofs.Ytfjjeadoaoedoaa.Hand Go.Proofs.Ytfjjeadoaoedoaa.PA Go.Proofs.YtfjjeadoaoedoaaW.PrintWords Go.Proofs.YtfjjeadoaoedoaaW.PrintLast

theorem wf16 {a : Int} (h : (Lit.int .u16 a).wf = true) : G16 a := by
  simp [Lit.wf, IntKind.min, IntKind.max, IntKind.bits, IntKind.signed] at h
  constructor <;> omega
theorem asks_tail (a b n : Int) (ha : G16 a) (hb : G16 b) (L : Int) (xs : List Int) : ∀ (d k i : Nat), (i : Int) + d = L → L ≤ 16 → xs.length = L → d + 100 < k → ∀ ys : List Int, (ys.length : Int) = L → vesperslaw03_GroupAsks.l0 k a b n ys true L (i : Int) = some true := by
  intro d
  induction d with
  | zero =>
    intro k i hi hL _ hk ys hy
    obtain ⟨k, rfl⟩ : ∃ m, k = m + 1 := ⟨k - 1, by omega⟩
    unfold vesperslaw03_GroupAsks.l0
    have hl := list_len a
    rw [if_neg (by omega), if_pos rfl]
    simp only [group_List.f, group_Has.f, group_With.f, group_Without.f, group_Next.f, List_eq a ha k (by omega), Ints_self (listG a) k (by omega) (by omega), Has_eq a n ha k (by omega), With_eq a n ha k (by omega), Without_eq a n ha k (by omega), Count_eq a ha k (by omega), gcount_eq a ha, Next_eq a n ha k (by omega), grank_eq a n ha, Rank_eq a n ha k (by omega), gfirst_eq, First_eq n k (by omega), Both_eq a b ha hb k (by omega), Less_eq a b ha hb k (by omega), hasB_eq ha, Option.bind_some, if_true, beq_self_eq_true, group_Both.f, group_Less.f, bothG, lessG]
  | succ d ih =>
    intro k i hi hL hx hk ys hy
    obtain ⟨k, rfl⟩ : ∃ m, k = m + 1 := ⟨k - 1, by omega⟩
    unfold vesperslaw03_GroupAsks.l0
    rw [if_pos (by omega), if_pos (by omega), if_pos (by omega), wrap_id (by omega) (by omega), show (i : Int) + 1 = ((i + 1 : Nat) : Int) by omega]
    exact ih k (i + 1) (by omega) hL hx (by omega) _ (by rw [List.length_set]; exact hy)
theorem GroupAsks : vesperslaw03_GroupAsks.Pure := by
  intro a b n wa wb wn
  have ha := wf16 wa
  have hb := wf16 wb
  have hl := list_len a
  refine ⟨200, ?_⟩
  unfold vesperslaw03_GroupAsks.f
  rw [show group_List.f a = some (listG a) from rfl, Option.bind_some, List_eq a ha 200 (by omega), Option.bind_some, Ints_self (listG a) 200 (by omega) (by omega), Option.bind_some]
  exact asks_tail a b n ha hb _ (listG a) (listG a).length 200 0 (by omega) (by omega) rfl (by omega) _ rfl
end Go.Proofs.Ytfjjeadoaoedoaa.Pure
