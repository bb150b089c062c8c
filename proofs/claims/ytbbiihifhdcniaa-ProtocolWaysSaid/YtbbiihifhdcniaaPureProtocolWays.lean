/- The plain law of ProtocolWays. -/
import Derived.Test.YtbbiihifhdcniaaPDx1
import Derived.Test.YtbbiihifhdcniaaPureProto0
set_option linter.unusedVariables false
set_option linter.unusedSimpArgs false
namespace Go.Proofs.Ytbbiihifhdcniaa.Pure
open Go.RowKit Go.Proofs.Ytbbiihifhdcniaa.Hand Go.Proofs.Ytbbiihifhdcniaa.PA Go.Proofs.Ytbbiihifhdcniaa.PD Go.Proofs.YtbbiihifhdcniaaW.PrintWords Go.Proofs.YtbbiihifhdcniaaW.PrintLast

def all7 : List Int := [0, 1, 2, 3, 4, 5, 6]
theorem in7 {a : Int} (h0 : 0 ≤ a) (h1 : a ≤ 6) : a ∈ all7 := by
  simp [all7]
  omega
theorem run_way : ∀ a ∈ all7, ∀ b ∈ all7, (runL a (wayTo a b)).length = (wayTo a b).length ∧ (wayTo a b).length ≤ 7 ∧ (decide (a = b) = decide ((wayTo a b).length = 0)) ∧ (∀ x ∈ wayTo a b, 0 ≤ x ∧ x ≤ 10) ∧
    (∀ i ∈ List.range (wayTo a b).length, ((runL a (wayTo a b)).getD i 0 == b) = (i + 1 == (wayTo a b).length)) := by decide +kernel
theorem way_least : ∀ (l : List Int) (s b : Int), 0 ≤ s ∧ s < 7 → 0 ≤ b ∧ b < 7 → (runL s l).length = l.length → lastS s (runL s l) = b → (wayTo s b).length ≤ l.length
  | [], s, b, hs, hb, _, h => by
    have hw := (run_way s (in7 hs.1 (by omega)) b (in7 hb.1 (by omega))).2.2.1
    have : s = b := h
    rw [decide_eq_true this] at hw
    have := of_decide_eq_true hw.symm
    omega
  | e :: t, s, b, hs, hb, hlen, h => by
    unfold runL at hlen h
    cases hn : nextO s e with
    | none => rw [hn] at hlen; simp at hlen
    | some n =>
      rw [hn] at hlen h
      simp only [List.length_cons, Nat.add_right_cancel_iff] at hlen
      rw [lastS_cons] at h
      have hr := nextO_range hn
      have he : 0 ≤ e ∧ e < 10 := by
        rcases Decidable.em (0 ≤ s ∧ s < 7 ∧ 0 ≤ e ∧ e < 10) with q | q
        · exact q.2.2
        · rw [nextO_out q] at hn; cases hn
      have ih := way_least t n b hr hb hlen h
      have hmem : e ∈ events10 := by simp [events10]; omega
      have hst := way_step s (in7 hs.1 (by omega)) e hmem b (in7 hb.1 (by omega))
      rw [hn] at hst
      simp only [Bool.and_eq_true, decide_eq_true_eq] at hst
      have := hst.2
      simp only [List.length_cons]
      omega
theorem lastS_rd' (s : Int) (l : List Int) (h : 0 < l.length) : rd l ((l.length : Int) - 1) = lastS s l := by
  unfold rd lastS
  rw [List.getLast?_eq_getElem?, List.getD_eq_getElem?_getD, show ((l.length : Int) - 1).toNat = l.length - 1 by omega, List.getElem?_eq_getElem (by omega)]
  rfl
theorem ways_l0 (o : List Int) (ho : o.length ≤ 6 → ∀ x ∈ o, fitI x) (a b : Int) (ha : 0 ≤ a ∧ a < 7) (hb : 0 ≤ b ∧ b < 7) : ∀ (d i k : Nat), (wayTo a b).length - i = d → i ≤ (wayTo a b).length → d + 10 < k →
    vesperslaw20_ProtocolWays.l0 k o true a b (wayTo a b) (runL a (wayTo a b)) (runL a (wayTo a b)) ((runL a (wayTo a b)).length : Int) (i : Int) = some true := by
  obtain ⟨h1, h2, _, _, h5⟩ := run_way a (in7 ha.1 (by omega)) b (in7 hb.1 (by omega))
  intro d
  induction d with
  | zero =>
    intro i k hd hi hk
    obtain ⟨k, rfl⟩ : ∃ j, k = j + 1 := ⟨k - 1, by omega⟩
    rw [vesperslaw20_ProtocolWays.l0]
    rw [if_neg (by omega)]
    by_cases c1 : (o.length : Int) > 6
    · rw [if_pos c1]
    rw [if_neg c1]
    by_cases c2 : (o.length : Int) ≥ ((wayTo a b).length : Int)
    · rw [if_pos c2]
    rw [if_neg c2]
    rw [run_eq o (by omega) (ho (by omega)) a (fit_small ha) k (by omega)]
    simp only [Option.bind_some, if_true]
    by_cases c3 : ((runL a o).length : Int) < (o.length : Int)
    · rw [if_pos c3]
    rw [if_neg c3]
    by_cases c4 : ((runL a o).length : Int) = 0
    · rw [if_pos c4]
    have hle := runL_len o a
    rw [if_neg c4, w_id (by omega) (by omega), if_pos (by omega), if_pos (by omega), lastS_rd' a _ (by omega)]
    have : lastS a (runL a o) ≠ b := fun q => by
      have := way_least o a b ha hb (by omega) q
      omega
    simp [this]
  | succ d ih =>
    intro i k hd hi hk
    obtain ⟨k, rfl⟩ : ∃ j, k = j + 1 := ⟨k - 1, by omega⟩
    have hlt : i < (wayTo a b).length := by omega
    have hstep := ih (i + 1) k (by omega) (by omega) (by omega)
    rw [show ((i + 1 : Nat) : Int) = (i : Int) + 1 by omega] at hstep
    have h6 := h5 i (by simpa using hlt)
    rw [vesperslaw20_ProtocolWays.l0]
    rw [if_pos (by omega), if_pos (by omega), if_pos (by omega), w_id (n := (i : Int) + 1) (by omega) (by omega), w_id (n := ((runL a (wayTo a b)).length : Int) - 1) (by omega) (by omega)]
    have h7 : rd (runL a (wayTo a b)) (i : Int) = (runL a (wayTo a b)).getD i 0 := by simp [rd]
    rw [h7, h6, if_neg, hstep]
    rw [h1]
    have : (((i : Int)) == ((wayTo a b).length : Int) - 1) = (i + 1 == (wayTo a b).length) := by
      rw [Bool.eq_iff_iff]; simp; omega
    rw [this]
    simp
theorem ProtocolWays : vesperslaw20_ProtocolWays.Pure := by
  intro a0 a1 l2 w0 w1 hm hy hf
  have b0 : 0 ≤ a0 ∧ a0 ≤ 255 := by
    have : (decide (IntKind.u8.min ≤ a0) && decide (a0 ≤ IntKind.u8.max)) = true := w0
    rw [show IntKind.u8.min = 0 by decide, show IntKind.u8.max = 255 by decide] at this
    simpa using this
  have b1 : 0 ≤ a1 ∧ a1 ≤ 255 := by
    have : (decide (IntKind.u8.min ≤ a1) && decide (a1 ≤ IntKind.u8.max)) = true := w1
    rw [show IntKind.u8.min = 0 by decide, show IntKind.u8.max = 255 by decide] at this
    simpa using this
  have ha : 0 ≤ Int.tmod (wrap64 a0) 7 ∧ Int.tmod (wrap64 a0) 7 < 7 := by rw [w_id (by omega) (by omega), Int.tmod_eq_emod_of_nonneg b0.1]; omega
  have hb : 0 ≤ Int.tmod (wrap64 a1) 7 ∧ Int.tmod (wrap64 a1) 7 < 7 := by rw [w_id (by omega) (by omega), Int.tmod_eq_emod_of_nonneg b1.1]; omega
  refine ⟨100, ?_⟩
  unfold vesperslaw20_ProtocolWays.f
  generalize Int.tmod (wrap64 a0) 7 = a at ha ⊢
  generalize Int.tmod (wrap64 a1) 7 = b at hb ⊢
  obtain ⟨h1, h2, h3, h4, h5⟩ := run_way a (in7 ha.1 (by omega)) b (in7 hb.1 (by omega))
  have hfw : ∀ x ∈ wayTo a b, fitI x := fun x hx => by have := h4 x hx; rw [fitI_iff]; omega
  rw [alive_eq]
  simp only [Option.bind_some]
  rw [show protocol_Way.f a b = some (wayTo a b, 0) by unfold protocol_Way.f; rw [if_pos (by omega)]]
  simp only [Option.bind_some]
  rw [run_eq _ (by omega) hfw a (fit_small ha) 100 (by omega)]
  simp only [Option.bind_some]
  rw [if_pos trivial, if_pos (by omega), if_neg (by omega)]
  have hx : ((a == b) != (((wayTo a b).length : Int) == 0)) = false := by
    have e1 : (a == b) = decide (a = b) := rfl
    have e2 : (((wayTo a b).length : Int) == 0) = decide ((wayTo a b).length = 0) := by rw [Bool.eq_iff_iff]; simp
    rw [e1, e2, h3]
    simp
  rw [hx, vesperslaw20_ProtocolWays.j0, if_neg (by decide)]
  exact ways_l0 l2 (fun _ => hf) a b ha hb _ 0 _ rfl (Nat.zero_le _) (by omega)
end Go.Proofs.Ytbbiihifhdcniaa.Pure
