/- Have all nodes but one the same vector?, by hand. -/
import Derived.Test.YtcfloaplbmpoaaaHandClus
set_option linter.unusedVariables false
set_option linter.unusedSimpArgs false
namespace Go.Proofs.Ytcfloaplbmpoaaa.Hand
open Go.RowKit Go.Shelf Go.Proofs.Ytcfloaplbmpoaaa.Grp Go.Proofs.Ytcfloaplbmpoaaa.Cl Go.Proofs.Ytcfloaplbmpoaaa.PA Go.Proofs.Ytcfloaplbmpoaaa.PB Go.Proofs.YtcfloaplbmpoaaaW.PrintWords Go.Proofs.YtcfloaplbmpoaaaW.PrintLast Go.Proofs.YtcfloaplbmpoaaaW.PrintMore
attribute [local go_sem] Oper.semAt_some
theorem same1_at {bad all g : Nat} {gone : Bool} : ∀ {L : List Q} {s : Nat}, same1 bad all gone g s L = true → ∀ (j : Nat) (q : Q), L[j]? = some q → s + j ≠ bad → q.v = g ∧ wN q.v bad = all ∧ (gone = true → q.v.testBit bad = false) ∧ q.z = 0
  | [], s, h, j, q, hq, _ => by simp at hq
  | x :: t, s, h, 0, q, hq, hb => by
    rw [same1, Bool.and_eq_true] at h
    obtain ⟨h, _⟩ := h
    have e : (s == bad) = false := beq_eq_false_iff_ne.mpr (by omega)
    rw [e, Bool.false_or] at h
    simp only [Bool.and_eq_true] at h
    obtain ⟨⟨⟨h1, h2⟩, h3⟩, h4⟩ := h
    have hx : x = q := by simpa using hq
    subst hx
    refine ⟨by simpa using h1, by simpa using h2, fun hg => ?_, by simpa using h4⟩
    subst hg
    simpa using h3
  | x :: t, s, h, j + 1, q, hq, hb => by
    rw [same1, Bool.and_eq_true] at h
    exact same1_at h.2 j q (by simpa using hq) (by omega)
set_option maxRecDepth 100000 in
set_option maxHeartbeats 4000000 in
theorem same_core (g bl bz cl cz n bad all : Nat) (gone : Bool) (L : List Q) (w : World) (hc : CL w g bl bz cl cz n L L) (hn : n ≤ 16) (hn2 : 2 ≤ n) (hb : bad < n) (hv : ∀ q ∈ L, q.v < 65536) (h : same bad all gone L = true) :
    Calls Try.prog 26 #[.pointer (some ⟨g, 0, none⟩), .int .i64 bad, .int .u16 all, .bool gone] w fun e w' => e = .returned (.bool true) ∧ w' = w := by
  have HC := Aside0.mk hc
  have hlen := hc.len
  obtain ⟨fi, hfi⟩ : ∃ f : Nat, (bif bad == 0 then 1 else 0) = f := ⟨_, rfl⟩
  unfold same at h
  rw [hfi] at h
  have hfn : fi < n := by
    cases hb0 : (bad == 0) <;> rw [hb0] at hfi <;> simp only [cond_true, cond_false] at hfi <;> omega
  obtain ⟨qf, hqf⟩ : ∃ q, L[fi]? = some q := ⟨_, List.getElem?_eq_getElem (by omega)⟩
  rw [nth_of hqf] at h
  have hfb : ∀ i : Nat, i ≠ bad → i ≤ fi → i = fi := by
    intro i h1 h2
    by_cases hb0 : bad = 0
    · rw [hb0] at hfi
      simp at hfi
      omega
    · have e : (bad == 0) = false := beq_eq_false_iff_ne.mpr hb0
      rw [e] at hfi
      simp at hfi
      omega
  have hne : fi ≠ bad := by
    by_cases hb0 : bad = 0
    · rw [hb0] at hfi ⊢
      simp at hfi
      omega
    · have e : (bad == 0) = false := beq_eq_false_iff_ne.mpr hb0
      rw [e] at hfi
      simp at hfi
      omega
  obtain ⟨gv, hgv⟩ : ∃ v, qf.v = v := ⟨_, rfl⟩
  rw [hgv] at h
  have HS := Aside0.mk h
  have HF := Aside0.mk hfb
  have HG := Aside0.mk hgv
  have HQ := Aside0.mk hqf
  have HV := Aside0.mk hv
  have HL := Aside0.mk hlen
  clear h hfb hgv hqf hc hfi hv hlen
  have hcg_0 := HC.out.c0
  go_enter Try.func26, Try.ntmps26
  go_wp2
  go_loop [9, 17] (fun v9 v17 => ∃ (j : Nat) (x : Int), v17 = .int .i64 (j : Int) ∧ v9 = .int .i64 x ∧ Aside0 (j ≤ n ∧ x = if fi < j then (fi : Int) else -1)) (fun _ v17 => n - (intOf v17).toNat)
  case atStart => exact ⟨0, -1, rfl, rfl, ⟨by omega, rfl⟩⟩
  case round =>
    obtain ⟨j, x, rfl, rfl, HJ⟩ := hrel
    by_cases cj : j < n
    · have cjb : decide ((j : Int) < (n : Int)) = true := decide_eq_true (by omega)
      obtain ⟨q, hq⟩ : ∃ q, L[j]? = some q := ⟨_, List.getElem?_eq_getElem (by rw [HL.out]; exact cj)⟩
      have hmem := List.mem_of_getElem? hq
      have hqv := HV.out q hmem
      by_cases cb : j = bad
      · have e : ((j : Int) == (bad : Int)) = true := beq_iff_eq.mpr (by omega)
        have hx : x = if fi < j + 1 then (fi : Int) else -1 := by
          rw [HJ.out.2]
          by_cases h : fi < j
          · rw [if_pos h, if_pos (by omega)]
          · rw [if_neg h, if_neg (by omega)]
        have HX := Aside0.mk hx
        clear hx hq hmem hqv cb
        go_wp2
        go_round
        case rel => exact ⟨j + 1, x, by first | rfl | (simp; done), by first | rfl | trivial, ⟨by omega, HX.out⟩⟩
        case measure => simp [intOf]; omega
      · have e : ((j : Int) == (bad : Int)) = false := beq_eq_false_iff_ne.mpr (by omega)
        obtain ⟨h1, h2, h3, h4⟩ := same1_at HS.out j q hq (by omega)
        have hW : withG (gv : Int) (bad : Int) = (all : Int) := by rw [← h1, wN_int hqv (by omega), h2]
        have hH : gone = true → hasB (gv : Int) (bad : Int) = false := fun hg => by rw [← h1, has_int hqv (by omega)]; exact h3 hg
        obtain ⟨_, hv1, _, _⟩ := HC.out.view hq
        obtain ⟨_, hf1, _, _⟩ := HC.out.view HQ.out
        have hct := HC.out.told hq
        have hcg_1 := HC.out.c1
        rw [h1] at hv1
        rw [HG.out] at hf1
        rw [h4] at hct
        have HWW := Aside0.mk hW
        have HHH := Aside0.mk hH
        have hfj : (x = (fi : Int) ∧ fi < j + 1) ∨ (x = -1 ∧ j = fi) := by
          rw [HJ.out.2]
          by_cases h : fi < j
          · rw [if_pos h]; exact .inl ⟨rfl, by omega⟩
          · rw [if_neg h]; exact .inr ⟨rfl, HF.out j cb (by omega)⟩
        clear hq hmem hqv cb h1 h2 h3 h4 hW hH HJ
        rcases hfj with ⟨rfl, hfj0⟩ | ⟨rfl, rfl⟩
        · have hfj1 := Aside0.mk hfj0
          clear hfj0
          cases gone with
          | true =>
            have hB := HHH.out rfl
            have hwb : (withG (gv : Int) (bad : Int) != (all : Int)) = false := by rw [HWW.out]; simp
            go_wp2_with (first | (go_at_call 37; refine (with_core _ _ _).mono ?_; rintro e w' ⟨rfl, rfl⟩) | (go_at_call 33; refine (has_core _ _ _).mono ?_; rintro e w' ⟨rfl, rfl⟩))
            go_round
            case rel => exact ⟨j + 1, _, by first | rfl | (simp; done), rfl, ⟨by omega, by rw [if_pos hfj1.out]⟩⟩
            case measure => simp [intOf]; omega
          | false =>
            have hwb : (withG (gv : Int) (bad : Int) != (all : Int)) = false := by rw [HWW.out]; simp
            go_wp2_with (first | (go_at_call 37; refine (with_core _ _ _).mono ?_; rintro e w' ⟨rfl, rfl⟩) | (go_at_call 33; refine (has_core _ _ _).mono ?_; rintro e w' ⟨rfl, rfl⟩))
            go_round
            case rel => exact ⟨j + 1, _, by first | rfl | (simp; done), rfl, ⟨by omega, by rw [if_pos hfj1.out]⟩⟩
            case measure => simp [intOf]; omega
        · clear hf1
          cases gone with
          | true =>
            have hB := HHH.out rfl
            have hwb : (withG (gv : Int) (bad : Int) != (all : Int)) = false := by rw [HWW.out]; simp
            go_wp2_with (first | (go_at_call 37; refine (with_core _ _ _).mono ?_; rintro e w' ⟨rfl, rfl⟩) | (go_at_call 33; refine (has_core _ _ _).mono ?_; rintro e w' ⟨rfl, rfl⟩))
            go_round
            case rel => exact ⟨j + 1, _, by first | rfl | (simp; done), rfl, ⟨by omega, by rw [if_pos (by omega)]⟩⟩
            case measure => simp [intOf]; omega
          | false =>
            have hwb : (withG (gv : Int) (bad : Int) != (all : Int)) = false := by rw [HWW.out]; simp
            go_wp2_with (first | (go_at_call 37; refine (with_core _ _ _).mono ?_; rintro e w' ⟨rfl, rfl⟩) | (go_at_call 33; refine (has_core _ _ _).mono ?_; rintro e w' ⟨rfl, rfl⟩))
            go_round
            case rel => exact ⟨j + 1, _, by first | rfl | (simp; done), rfl, ⟨by omega, by rw [if_pos (by omega)]⟩⟩
            case measure => simp [intOf]; omega
    · have cjb : decide ((j : Int) < (n : Int)) = false := decide_eq_false (by omega)
      go_wp2
      go_ret
      exact ⟨rfl, rfl⟩
end Go.Proofs.Ytcfloaplbmpoaaa.Hand
