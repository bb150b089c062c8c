/- ProtocolSteps, the plain law: all that the layer says is what the document says. -/
import Derived.Test.YtbbiihifhdcniaaDoorPCx3
import Derived.Test.YtbbiihifhdcniaaDoorPureProtoD
set_option linter.unusedVariables false
set_option linter.unusedSimpArgs false
namespace Go.Proofs.YtbbiihifhdcniaaDoor.Pure
set_option maxRecDepth 100000
open Go.RowKit Go.Proofs.YtbbiihifhdcniaaDoor.Hand Go.Proofs.YtbbiihifhdcniaaDoor.PA Go.Proofs.YtbbiihifhdcniaaDoor.PC Go.Proofs.YtbbiihifhdcniaaDoorW.PrintWords Go.Proofs.YtbbiihifhdcniaaDoorW.PrintLast

theorem rway_in : ∀ a ∈ [(0 : Int), 1, 2, 3, 4, 5, 6], ∀ b ∈ [(0 : Int), 1, 2, 3, 4, 5, 6], vespersref20_Way.f 2000 a b = some (wayTo a b, 0) := by decide +kernel
theorem rway_out (a b : Int) (h : ¬ ((0 ≤ a ∧ a ≤ 6) ∧ 0 ≤ b ∧ b ≤ 6)) (k : Nat) : vespersref20_Way.f (k + 1) a b = some ([], 200) := by
  have hj : ∀ x y, vespersref20_Way.j0 (k + 1) x y true = some ([], 200) := fun x y => by simp [vespersref20_Way.j0]
  unfold vespersref20_Way.f
  by_cases h1 : a < 0
  · rw [if_pos h1, hj]
  by_cases h2 : a > 6
  · rw [if_neg h1, if_pos h2, hj]
  by_cases h3 : b < 0
  · rw [if_neg h1, if_neg h2, if_pos h3, hj]
  have h4 : b > 6 := by omega
  rw [if_neg h1, if_neg h2, if_neg h3, decide_eq_true h4, hj]
theorem way_both (a b : Int) : ∃ r1 r2, protocol_Way.f a b = some (r1, r2) ∧ (∀ k, 2000 ≤ k → vespersref20_Way.f k a b = some (r1, r2)) ∧ r1.length ≤ 7 := by
  by_cases h : (0 ≤ a ∧ a ≤ 6) ∧ 0 ≤ b ∧ b ≤ 6
  · have ha := mem7 h.1.1 h.1.2
    have hb := mem7 h.2.1 h.2.2
    exact ⟨wayTo a b, 0, by unfold protocol_Way.f; rw [if_pos h], fun k hk => at_rounds (fun k => vespersref20_Way.mono a b k) hk (rway_in a ha b hb), (way_short a ha b hb).2.1⟩
  · exact ⟨[], 200, by unfold protocol_Way.f; rw [if_neg h], fun k hk => by obtain ⟨k, rfl⟩ : ∃ m, k = m + 1 := ⟨k - 1, by omega⟩; exact rway_out a b h k, by simp⟩
theorem steps_tail (a0 a2 a3 : Int) (w0 : fitI a0) (r1 : List Int) (r2 : Int) (hw : protocol_Way.f a0 a3 = some (r1, r2)) (hl : r1.length ≤ 7) (n : Nat) : ∀ (d i k : Nat) (u : List Int), u.length = n → n - i = d → i ≤ n → n ≤ 7 → d + 100 < k →
    vesperslaw20_ProtocolSteps.l0 k a0 a2 a3 u r1 (n : Int) (i : Int) = some true := by
  intro d
  induction d with
  | zero =>
    intro i k u hu hd hi hn hk
    obtain ⟨k, rfl⟩ : ∃ j, k = j + 1 := ⟨k - 1, by omega⟩
    have hE : protocol_Events.f a0 = some (evL a0) := by unfold protocol_Events.f; rw [if_pos w0]
    have he := evL_len a0
    unfold vesperslaw20_ProtocolSteps.l0
    rw [if_neg (by omega), hw]
    simp only [Option.bind_some]
    rw [same_eq r1 r1 rfl (by omega) k (by omega)]
    simp only [Option.bind_some, if_true]
    rw [hE]
    simp only [Option.bind_some]
    rw [revents_eq a0 k (by omega)]
    simp only [Option.bind_some]
    rw [same_eq _ _ rfl (by omega) k (by omega)]
    simp only [Option.bind_some, if_true]
    rw [show protocol_May.f a0 a2 = some (mayB a0 a2) from rfl, rmay_eq]
    simp only [Option.bind_some, beq_self_eq_true, if_true]
    rw [show protocol_Name.f a0 = some (nameB a0) from rfl, rname_eq]
    simp only [Option.bind_some, beq_self_eq_true]
  | succ d ih =>
    intro i k u hu hd hi hn hk
    obtain ⟨k, rfl⟩ : ∃ j, k = j + 1 := ⟨k - 1, by omega⟩
    unfold vesperslaw20_ProtocolSteps.l0
    rw [if_pos (by omega), if_pos (by omega), if_pos (by omega), w_id (by omega) (by omega)]
    exact ih (i + 1) k _ (by simpa using hu) (by omega) (by omega) hn (by omega)
theorem ProtocolSteps : vesperslaw20_ProtocolSteps.Pure := by
  intro a0 a1 a2 a3 l4 a5 w0 w1 w2 w3 hm y4 hw4 w5
  refine ⟨3003, ?_⟩
  have hj : vesperslaw20_ProtocolSteps.j0 3003 a0 a1 a2 a3 l4 a5 true = some true := by
    show vesperslaw20_ProtocolSteps.j0 (3002 + 1) a0 a1 a2 a3 l4 a5 true = some true
    simp [vesperslaw20_ProtocolSteps.j0]
  unfold vesperslaw20_ProtocolSteps.f
  by_cases hl : (l4.length : Int) > 100
  · rw [if_pos hl, hj]
  rw [if_neg hl]
  by_cases hs : (a5.size : Int) > 100
  · rw [decide_eq_true hs, hj]
  rw [decide_eq_false hs]
  clear hj
  obtain ⟨r1, r2, hW, hR, hlen⟩ := way_both a0 a3
  have hN : protocol_Next.f a0 a1 = some (nextR a0 a1) := by unfold protocol_Next.f; rw [if_pos ⟨w0, w1⟩]
  have hrl := runL_len l4 a0
  show vesperslaw20_ProtocolSteps.j0 (3002 + 1) a0 a1 a2 a3 l4 a5 false = some true
  rw [vesperslaw20_ProtocolSteps.j0]
  rw [if_neg (by decide), hN]
  simp only [Option.bind_some]
  rw [rnext_eq a0 a1 3002 (by decide)]
  simp only [Option.bind_some, List.nil_append]
  rw [if_pos (by simp; omega), run_eq l4 (by omega) hw4 a0 w0 3002 (by omega)]
  simp only [Option.bind_some]
  rw [rrun_eq l4 (by omega) a0 3002 (by omega)]
  simp only [Option.bind_some]
  rw [show protocol_Parse.f a5 = some (parseR a5) from rfl, rparse_eq a5 3002 (by decide)]
  simp only [Option.bind_some]
  rw [hW, hR 3002 (by decide)]
  simp only [Option.bind_some, if_true]
  rw [same_eq _ _ rfl (by omega) 3002 (by omega)]
  simp only [Option.bind_some, if_true]
  rw [same_eq _ _ rfl (by omega) 3002 (by omega)]
  simp only [Option.bind_some, if_true, bne_self_eq_false]
  show vesperslaw20_ProtocolSteps.j1 (3001 + 1) a0 a2 a3 r1 r1 false = some true
  rw [vesperslaw20_ProtocolSteps.j1]
  rw [if_neg (by decide)]
  exact steps_tail a0 a2 a3 w0 r1 r2 hW hlen r1.length r1.length 0 3001 r1 rfl (by omega) (by omega) hlen (by omega)
end Go.Proofs.YtbbiihifhdcniaaDoor.Pure
