/- MidpointSpread: the spread is how far the ends are apart; with one more dropped it is no greater; the midpoint lies between. -/
import Derived.Test.YtcagoddljhagiaaPureMid1
namespace Go.Proofs.Ytcagoddljhagiaa.Pure
open Go.RowKit Go.Proofs.Ytcagoddljhagiaa.Hand Go.Proofs.Ytcagoddljhagiaa.Mid Go.Proofs.Ytcagoddljhagiaa.PA Go.Proofs.YtcagoddljhagiaaW.PrintWords Go.Proofs.YtcagoddljhagiaaW.PrintLast

theorem spread_j1 (A : List Int) (n : Nat) (G : GoodM A n) (hb : A.length ≤ 30) (k : Nat) (hk : 40 ≤ k) :
    vesperslaw14_MidpointSpread.j1 (k + 1) true (n : Int) A (trimL A (n : Int)) (srt A (A.length - 1 - n) - srt A n) ((srt A n + srt A (A.length - 1 - n)) / 2) false = some true := by
  have hr := G.room
  have f1 := srt_fine G n (by omega)
  have f2 := srt_fine G (A.length - 1 - n) (by omega)
  have hm := srt_mono A n (A.length - 1 - n) (by omega) (by omega)
  have hl := trimL_len A n
  have h0 : rd (trimL A (n : Int)) 0 = srt A n := by have := trimL_rd A n 0 (by omega); simpa using this
  have h1 : rd (trimL A (n : Int)) (((trimL A (n : Int)).length : Int) - 1) = srt A (A.length - 1 - n) := by
    have := trimL_rd A n (A.length - 2 * n - 1) (by omega)
    rw [show n + (A.length - 2 * n - 1) = A.length - 1 - n by omega] at this
    rw [← this]
    congr 1
    omega
  simp only [vesperslaw14_MidpointSpread.j1]
  rw [if_neg (by decide), if_pos (by omega), wrap_id (x := ((trimL A (n : Int)).length : Int) - 1) (by omega) (by omega), if_pos (by omega), if_pos (by omega), h1, h0, wrap_id (x := 2 * (n : Int)) (by omega) (by omega), wrap_id (x := 2 * (n : Int) + 3) (by omega) (by omega), wrap_id (x := (n : Int) + 1) (by omega) (by omega), show (n : Int) + 1 = ((n + 1 : Nat) : Int) by omega]
  clear h0 h1
  generalize hlo : srt A n = lo at *
  generalize hhi : srt A (A.length - 1 - n) = hi at *
  rw [wrap_id (x := hi - lo) (by omega) (by omega), wrap_id (x := 2 * ((lo + hi) / 2)) (by omega) (by omega), wrap_id (x := lo + hi) (by omega) (by omega), wrap_id (x := lo + hi - 1) (by omega) (by omega), if_pos rfl, if_neg (by omega), if_neg (by omega), if_neg (by omega), if_neg (by omega)]
  by_cases h3 : 2 * (n + 1) + 1 ≤ A.length
  · have G' : GoodM A (n + 1) := ⟨h3, G.big, G.fine⟩
    rw [Spread_good G' k (by omega), Option.bind_some]
    simp only [if_true]
    have m1 := srt_mono A n (n + 1) (by omega) (by omega)
    have m2 := srt_mono A (A.length - 1 - (n + 1)) (A.length - 1 - n) (by omega) (by omega)
    rw [hlo] at m1
    rw [hhi] at m2
    rw [decide_eq_true (by omega : srt A (A.length - 1 - (n + 1)) - srt A (n + 1) ≤ hi - lo), decide_eq_true (by omega : (A.length : Int) ≥ 2 * (n : Int) + 3)]
    rfl
  · rw [Spread_bad (by omega) (fun m hm hg => by have := hg.room; omega) k, Option.bind_some]
    simp only [if_true]
    rw [decide_eq_false (by omega : ¬ (A.length : Int) ≥ 2 * (n : Int) + 3)]
    rfl
theorem MidpointSpread : vesperslaw14_MidpointSpread.Pure := by
  intro l a _ _ _ wa
  have ha := wf8 wa
  obtain ⟨k, hk⟩ : ∃ k : Nat, k = 200 := ⟨200, rfl⟩
  refine ⟨k + 1 + 1, ?_⟩
  unfold vesperslaw14_MidpointSpread.f
  rw [alive_true (k + 1 + 1) (by omega), Option.bind_some]
  by_cases h0 : (l.length : Int) = 0
  · rw [if_pos h0]
    simp only [vesperslaw14_MidpointSpread.j0]
    rw [if_pos trivial]
  rw [if_neg h0]
  by_cases h1 : (l.length : Int) > 30
  · rw [if_pos h1]
    simp only [vesperslaw14_MidpointSpread.j0]
    rw [if_pos trivial]
  rw [if_neg h1, Bool.not_true]
  simp only [vesperslaw14_MidpointSpread.j0]
  have hsome := some_eq l (by omega) (k + 1) (by omega)
  have hL : l.length ≤ 30 := by omega
  obtain ⟨hne, n, hn, e⟩ := cut_eq l.length a (by omega) (by omega) ha
  rw [if_neg (by decide), if_neg hne, hsome, Option.bind_some, e]
  clear e hne hsome
  have G := modL_good l n hn (by omega)
  have hl := modL_len l
  have hp := trimL_len (modL l) n
  rw [Trim_good G, Option.bind_some, Spread_good G (k + 1) (by omega), Option.bind_some, Of_good G (k + 1) (by omega), Option.bind_some]
  simp only [if_true]
  rw [show (((trimL (modL l) (n : Int)).length : Int) == 0) = false by rw [beq_eq_false_iff_ne]; omega]
  exact spread_j1 (modL l) n G (by omega) k (by omega)
end Go.Proofs.Ytcagoddljhagiaa.Pure
