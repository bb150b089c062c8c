/- The plain law of ProtocolParts. -/
import Derived.Test.YtbbiihifhdcniaaPAx2
import Derived.Test.YtbbiihifhdcniaaPureProto0
set_option linter.unusedVariables false
set_option linter.unusedSimpArgs false
namespace Go.Proofs.Ytbbiihifhdcniaa.Pure
open Go.RowKit Go.Proofs.Ytbbiihifhdcniaa.Hand Go.Proofs.Ytbbiihifhdcniaa.PA Go.Proofs.YtbbiihifhdcniaaW.PrintWords Go.Proofs.YtbbiihifhdcniaaW.PrintLast

theorem lead_l0 (l : List Int) (n : Nat) (ev : List Int) (he : ev.length ≤ 1000) (hl : l.length ≤ 1000) (hno : n < l.length → l.getD n 0 ∉ ev) : ∀ (d i k : Nat), ev.length - i = d → i ≤ ev.length → d < k →
    vesperslaw20_ProtocolParts.l0 k l true (n : Int) 0 ev (ev.length : Int) (i : Int) = some true := by
  intro d
  induction d with
  | zero =>
    intro i k hd hi hk
    obtain ⟨k, rfl⟩ : ∃ j, k = j + 1 := ⟨k - 1, by omega⟩
    rw [vesperslaw20_ProtocolParts.l0]
    rw [if_neg (by omega), if_pos rfl]
    rfl
  | succ d ih =>
    intro i k hd hi hk
    obtain ⟨k, rfl⟩ : ∃ j, k = j + 1 := ⟨k - 1, by omega⟩
    have hlt : i < ev.length := by omega
    have hstep := ih (i + 1) k (by omega) (by omega) (by omega)
    rw [show ((i + 1 : Nat) : Int) = (i : Int) + 1 by omega] at hstep
    rw [vesperslaw20_ProtocolParts.l0]
    rw [if_pos (by omega), if_pos (by omega), if_pos (by omega), w_id (n := (i : Int) + 1) (by omega) (by omega)]
    by_cases hn : n < l.length
    · rw [if_pos (by omega), if_pos (by omega)]
      rw [if_neg, hstep]
      intro q
      have h1 : rd ev (i : Int) = ev[i] := by simp [rd, hlt]
      have h2 : rd l (n : Int) = l.getD n 0 := by simp [rd]
      rw [h1, h2] at q
      exact hno hn (q ▸ List.getElem_mem hlt)
    · rw [if_neg (by omega), hstep]
theorem evL_no {s e : Int} (h : nextO s e = none) : e ∉ evL s := by
  unfold evL
  intro q
  rw [List.mem_filter, h] at q
  cases q.2
theorem evL_len (s : Int) : (evL s).length ≤ 10 := by
  unfold evL
  exact Nat.le_trans (List.length_filter_le _ _) (by simp)
theorem lastS_rd (s : Int) (l : List Int) (h : 0 < l.length) : rd l ((l.length : Int) - 1) = lastS s l := by
  unfold rd lastS
  rw [List.getLast?_eq_getElem?, List.getD_eq_getElem?_getD, show ((l.length : Int) - 1).toNat = l.length - 1 by omega, List.getElem?_eq_getElem (by omega)]
  rfl
theorem part3 (l : List Int) (hl : l.length ≤ 1000) (s : Int) (hs : 0 ≤ s ∧ s < 7) (k : Nat) (hk : 100 < k) : vesperslaw20_ProtocolParts.j3 k l true s (runL s l) ((runL s l).length : Int) false = some true := by
  obtain ⟨k, rfl⟩ : ∃ j, k = j + 1 := ⟨k - 1, by omega⟩
  have hlen := runL_len l s
  rw [vesperslaw20_ProtocolParts.j3]
  rw [if_neg (by decide)]
  have key : vesperslaw20_ProtocolParts.j4 k l true ((runL s l).length : Int) (lastS s (runL s l)) = some true := by
    obtain ⟨k, rfl⟩ : ∃ j, k = j + 1 := ⟨k - 1, by omega⟩
    rw [vesperslaw20_ProtocolParts.j4]
    have hr := lastS_range hs (fun x hx => runL_range l s x hx)
    rw [show protocol_Events.f (lastS s (runL s l)) = some (evL (lastS s (runL s l))) by unfold protocol_Events.f; rw [if_pos (fit_small hr)]]
    simp only [Option.bind_some]
    have h10 := evL_len (lastS s (runL s l))
    exact lead_l0 l _ _ (by omega) hl (fun hn => evL_no (runL_stop l s hn)) _ 0 k rfl (by omega) (by omega)
  by_cases h0 : 0 < (runL s l).length
  · rw [if_pos (by omega), w_id (by omega) (by omega), if_pos (by omega), if_pos (by omega), lastS_rd s _ h0]
    exact key
  · rw [if_neg (by omega)]
    have h1 : runL s l = [] := List.length_eq_zero_iff.1 (by omega)
    rw [h1] at key ⊢
    exact key
theorem ProtocolParts : vesperslaw20_ProtocolParts.Pure := by
  intro a0 l a2 h0 hl1 hl2 hw h2
  refine ⟨399 + 1, ?_⟩
  unfold vesperslaw20_ProtocolParts.f
  rw [alive_eq]
  simp only [Option.bind_some]
  by_cases hl : (l.length : Int) > 100
  · rw [if_pos hl]
    rw [vesperslaw20_ProtocolParts.j0]
    rw [if_pos rfl]
  rw [if_neg hl]
  have hb0 : 0 ≤ a0 ∧ a0 ≤ 255 := by
    rw [show (Lit.int .u8 a0).wf = (decide (IntKind.u8.min ≤ a0) && decide (a0 ≤ IntKind.u8.max)) from rfl, show IntKind.u8.min = 0 by decide, show IntKind.u8.max = 255 by decide] at h0
    simpa using h0
  have hb2 : 0 ≤ a2 ∧ a2 ≤ 255 := by
    rw [show (Lit.int .u8 a2).wf = (decide (IntKind.u8.min ≤ a2) && decide (a2 ≤ IntKind.u8.max)) from rfl, show IntKind.u8.min = 0 by decide, show IntKind.u8.max = 255 by decide] at h2
    simpa using h2
  have hlen : l.length ≤ 100 := by omega
  have hf : ∀ x ∈ l, fitI x := hw
  rw [vesperslaw20_ProtocolParts.j0]
  rw [if_neg (by decide), w_id (n := a0) (by omega) (by omega), w_id (n := a2) (by omega) (by omega), w_id (n := (l.length : Int) + 1) (by omega) (by omega)]
  obtain ⟨s, hs⟩ : ∃ s, Int.tmod a0 7 = s := ⟨_, rfl⟩
  have hsr : 0 ≤ s ∧ s < 7 := by rw [Int.tmod_eq_emod_of_nonneg (by omega)] at hs; omega
  obtain ⟨c, hc⟩ : ∃ c : Nat, Int.tmod a2 ((l.length : Int) + 1) = (c : Int) ∧ c ≤ l.length := by
    rw [Int.tmod_eq_emod_of_nonneg (by omega)]
    have h1 := Int.emod_nonneg a2 (show (l.length : Int) + 1 ≠ 0 by omega)
    have h3 := Int.emod_lt_of_pos a2 (show 0 < (l.length : Int) + 1 by omega)
    generalize a2 % ((l.length : Int) + 1) = z at *
    exact ⟨z.toNat, by omega, by omega⟩
  obtain ⟨hc1, hc2⟩ := hc
  rw [hs, hc1]
  clear hs hc1 h0 h2 hb0 hb2 hl1 hl2 hw
  have hrun := run_eq l (by omega) hf s (fit_small hsr)
  have htl : (l.take c).length = c := by simp; omega
  have hone := run_eq (l.take c) (by omega) (fun x hx => hf x (List.mem_of_mem_take hx)) s (fit_small hsr)
  rw [hrun _ (by omega)]
  simp only [Option.bind_some]
  rw [if_neg (by omega), if_pos (by omega), if_pos (by omega), Int.toNat_natCast, hone _ (by omega)]
  simp only [Option.bind_some]
  obtain ⟨one, hOne⟩ : ∃ one, runL s (l.take c) = one := ⟨_, rfl⟩
  have hlone : one.length ≤ c := by rw [← hOne]; have := runL_len (l.take c) s; omega
  have hrone : ∀ x ∈ one, 0 ≤ x ∧ x < 7 := fun x hx => runL_range (l.take c) s x (by rw [hOne]; exact hx)
  have hsplit := runL_split l s c hc2
  rw [hOne] at hsplit ⊢
  have hla := lastS_range hsr hrone
  have key : vesperslaw20_ProtocolParts.j1 (398 + 1) l true s (runL s l) ((runL s l).length : Int) (c : Int) one (one.length : Int) (lastS s one) = some true := by
    rw [vesperslaw20_ProtocolParts.j1]
    rw [if_pos (by omega), if_pos (by omega), Int.toNat_natCast]
    have htwo := run_eq (l.drop c) (by simp; omega) (fun x hx => hf x (List.mem_of_mem_drop hx)) (lastS s one) (fit_small hla)
    rw [htwo _ (by simp; omega)]
    simp only [Option.bind_some]
    have hlall := runL_len l s
    by_cases hlt : one.length < c
    · rw [if_pos (by omega)]
      rw [if_pos hlt] at hsplit
      rw [vesperslaw20_ProtocolParts.j2]
      rw [hsplit, if_pos (by rw [w_id (by omega) (by omega)]; omega), if_pos (by simp; omega), same_eq _ _ (by simp) (by omega) _ (by omega)]
      simp only [Option.bind_some, Bool.not_true]
      have := part3 l (by omega) s hsr 397 (by omega)
      rw [hsplit] at this
      exact this
    · rw [if_neg (by omega)]
      rw [if_neg hlt] at hsplit
      rw [vesperslaw20_ProtocolParts.j2]
      have hl2 := runL_len (l.drop c) (lastS s one)
      have hl3 : (l.drop c).length = l.length - c := by simp
      rw [if_pos (by rw [hsplit, w_id (by omega) (by omega)]; simp), if_pos (by omega), same_eq _ _ hsplit (by omega) _ (by omega)]
      simp only [Option.bind_some, Bool.not_true]
      exact part3 l (by omega) s hsr 397 (by omega)
  by_cases ho : 0 < one.length
  · rw [if_pos (by omega), w_id (by omega) (by omega), if_pos (by omega), if_pos (by omega), lastS_rd s _ ho]
    exact key
  · rw [if_neg (by omega)]
    have : one = [] := List.length_eq_zero_iff.1 (by omega)
    rw [this] at key ⊢
    exact key
end Go.Proofs.Ytbbiihifhdcniaa.Pure
