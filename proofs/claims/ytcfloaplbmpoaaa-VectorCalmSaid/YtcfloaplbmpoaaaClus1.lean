/- A cluster's slots: the numbers' answers and the layer's are the same; plain. -/
import Derived.Test.YtcfloaplbmpoaaaClus0
import Derived.Test.YtcfloaplbmpoaaaHandLooks
import Derived.Test.YtcfloaplbmpoaaaHandResult
set_option linter.unusedVariables false
set_option linter.unusedSimpArgs false
namespace Go.Proofs.Ytcfloaplbmpoaaa.Cl
open Go.RowKit Go.Proofs.Ytcfloaplbmpoaaa.Grp Go.Proofs.Ytcfloaplbmpoaaa.Hand

theorem nth_of : ∀ {L : List Q} {i : Nat} {q : Q}, L[i]? = some q → nth L i = q
  | [], i, q, h => by simp at h
  | x :: t, 0, q, h => by simpa [nth] using h
  | x :: t, i + 1, q, h => by
    rw [nth]
    exact nth_of (by simpa using h)
theorem wN_lt {v n : Nat} (hv : v < 65536) (hn : n < 16) : wN v n < 65536 := by
  unfold wN
  refine Nat.or_lt_two_pow (n := 16) (by simpa using hv) ?_
  rw [Nat.one_shiftLeft]
  exact Nat.pow_lt_pow_right (by decide) hn
theorem oN_lt {v : Nat} (n : Nat) (hv : v < 65536) : oN v n < 65536 := Nat.lt_of_le_of_lt Nat.and_le_left hv
theorem only_int {n : Nat} (hn : n < 16) : onlyG (n : Int) = ((1 <<< n : Nat) : Int) := by
  unfold onlyG
  rw [if_pos ⟨by omega, by omega⟩, Nat.one_shiftLeft, Int.toNat_natCast]
theorem bit_lt {n : Nat} (hn : n < 16) : 1 <<< n < 65536 := by
  rw [Nat.one_shiftLeft]
  exact Nat.pow_lt_pow_right (a := 2) (n := 16) (by decide) hn
theorem wN_int {v n : Nat} (hv : v < 65536) (hn : n < 16) : withG (v : Int) (n : Int) = ((wN v n : Nat) : Int) := by
  unfold withG wN
  rw [only_int hn, or_nat v _ hv (bit_lt hn)]
theorem oN_int {v n : Nat} (hv : v < 65536) (hn : n < 16) : withoutG (v : Int) (n : Int) = ((oN v n : Nat) : Int) := by
  unfold withoutG oN
  rw [only_int hn, andNot_nat v _ hv (bit_lt hn)]
theorem has_int {v n : Nat} (hv : v < 65536) (hn : n < 16) : hasB (v : Int) (n : Int) = v.testBit n := by
  rw [hasB_eq (g16_nat hv), has_at hn, tb_nat]
theorem node_int {n : Nat} (hn : n < 16) : nodeB (n : Int) = true := by
  unfold nodeB
  simp
  omega
theorem view_int {i : Nat} {q : Q} (hi : i < 16) (hv : q.v < 65536) (h : may i q = true) : viewV (i : Int) q.v q.a q.f = true ∧ q.f < 16 ∧ q.a ≤ 2 := by
  obtain ⟨v, a, f, z⟩ := q
  simp only at hv ⊢
  unfold may at h
  match a, h with
  | 0, h =>
    have hf : f = 0 := by simpa using h
    subst hf
    refine ⟨?_, by omega, by omega⟩
    unfold viewV
    rw [node_int hi]
    simp
  | 1, h =>
    have h2 : f = 0 ∧ v.testBit i = true := by simpa using h
    obtain ⟨rfl, hb⟩ := h2
    refine ⟨?_, by omega, by omega⟩
    unfold viewV
    rw [node_int hi, has_int hv hi, hb]
    simp
  | 2, h =>
    have h2 : (f < 16 ∧ ¬ f = i) ∧ v.testBit i = true := by simpa [Nat.blt_eq] using h
    obtain ⟨⟨hf, hn⟩, hb⟩ := h2
    refine ⟨?_, hf, by omega⟩
    unfold viewV
    have hne : ¬ (f : Int) = (i : Int) := by omega
    rw [node_int hi, has_int hv hi, hb, node_int hf]
    simp [hne]
theorem may_int {i s : Nat} {q : Q} (hi : i < 16) (hs : s < 16) (hn : s ≠ i) (hv : q.v < 65536) (h : may i q = true) : mayV (i : Int) q.v q.a q.f s = true := by
  have hne : ¬ (s : Int) = (i : Int) := by omega
  unfold mayV
  rw [(view_int hi hv h).1, node_int hs]
  simp [hne]
/-- What a slot's result is: nothing is seen, or what the looks say. -/
def resN (i s frame : Nat) (none : Bool) (q : Q) : Int := if none = true then 0 else resultV (looksV (i : Int) q.v q.a q.f s) frame
theorem res_one (x g : Int) : resultV [x] g = if x = g then 2 else 1 := by
  unfold resultV
  simp
theorem res_two (x y g : Int) : resultV [x, y] g = if x = g then 2 else if y = g then 3 else 1 := by
  unfold resultV
  simp
theorem hear_int {i s frame : Nat} {none : Bool} {q q' : Q} (hi : i < 16) (hs : s < 16) (hn : s ≠ i) (hv : q.v < 65536) (h : hear i s frame none q = some q') :
    mayV (i : Int) q.v q.a q.f s = true ∧ q'.v < 65536 ∧ ∃ says : Int, stepV (i : Int) q.v q.a q.f s (resN i s frame none q) = ((i : Int), (q'.v : Int), (q'.a : Int), (q'.f : Int), says, (0 : Int)) ∧ q'.z = q.z + (if says = 3 then 1 else 0) := by
  unfold hear at h
  cases hm : may i q with
  | false => rw [hm] at h; cases h
  | true =>
    rw [hm, cond_true] at h
    have hM := may_int hi hs hn hv hm
    obtain ⟨_, hf, ha⟩ := view_int hi hv hm
    refine ⟨hM, ?_⟩
    unfold stepV
    rw [if_pos hM]
    unfold resN
    cases none with
    | true =>
      rw [cond_true] at h
      cases h
      rw [if_pos (show true = true from rfl), if_pos (show (0 : Int) = 0 from rfl), oN_int hv hs]
      exact ⟨oN_lt s hv, 0, rfl, rfl⟩
    | false =>
      rw [cond_false] at h
      rw [if_neg (show ¬ (false = true) by decide)]
      obtain ⟨v, a, f, z⟩ := q
      simp only at h hv hf ha hM ⊢
      have hw := wN_int hv hs
      have hwl := wN_lt hv hs
      have z0 : ((0 : Nat) : Int) = 0 := rfl
      have z1 : ((1 : Nat) : Int) = 1 := rfl
      have z2 : ((2 : Nat) : Int) = 2 := rfl
      cases he : (wN v s == frame) with
      | true =>
        rw [he, cond_true] at h
        cases h
        have e : wN v s = frame := by simpa using he
        have hr : resultV (looksV (i : Int) v a f s) frame = 2 := by
          unfold looksV look1
          split
          · rw [res_one, hw, e, if_pos rfl]
          · rw [res_two, hw, e, if_pos rfl]
        rw [hr, if_neg (show ¬ (2 : Int) = 0 by decide), if_neg (show ¬ (2 : Int) = 1 by decide), if_pos rfl, hw]
        exact ⟨hwl, 1, rfl, rfl⟩
      | false =>
        rw [he, cond_false] at h
        have e : ¬ ((wN v s : Nat) : Int) = (frame : Int) := by
          intro e
          have : wN v s = frame := by omega
          rw [this] at he
          simp at he
        have hone (x : Q) (h2 : x = ⟨oN v s, a, f, z⟩) : x.v < 65536 ∧ ∃ says : Int, ((i : Int), withoutG (v : Int) (s : Int), (a : Int), (f : Int), (2 : Int), (0 : Int)) = ((i : Int), (x.v : Int), (x.a : Int), (x.f : Int), says, (0 : Int)) ∧ x.z = z + (if says = 3 then 1 else 0) := by
          subst h2
          rw [oN_int hv hs]
          exact ⟨oN_lt s hv, 2, rfl, rfl⟩
        match a, ha, h, hM, hone with
        | 0, _, h, hM, hone =>
          have h := Option.some.inj h
          have hr : resultV (looksV (i : Int) v (0 : Nat) f s) frame = 1 := by
            unfold looksV look1
            rw [if_pos z0, res_one, hw, if_neg e]
          rw [hr, if_neg (show ¬ (1 : Int) = 0 by decide), if_pos rfl]
          exact hone _ h.symm
        | 1, _, h, hM, hone =>
          have hl : resultV (looksV (i : Int) v (1 : Nat) f s) frame = if ((oN (wN v s) i : Nat) : Int) = frame then 3 else 1 := by
            unfold looksV look1 lookA
            rw [if_neg (by decide), res_two, hw, if_neg e, if_pos z1, oN_int hwl hi]
          cases he2 : (oN (wN v s) i == frame) with
          | true =>
            simp only [he2, cond_true] at h
            have h := Option.some.inj h
            have e2 : oN (wN v s) i = frame := by simpa using he2
            rw [hl, e2, if_pos rfl, if_neg (show ¬ (3 : Int) = 0 by decide), if_neg (show ¬ (3 : Int) = 1 by decide), if_neg (show ¬ (3 : Int) = 2 by decide), if_pos rfl, if_neg (show ¬ ((1 : Nat) : Int) = 0 by decide), if_pos z1, oN_int hv hs, ← h]
            exact ⟨oN_lt s hv, 2, rfl, rfl⟩
          | false =>
            simp only [he2, cond_false] at h
            have h := Option.some.inj h
            have e2 : ¬ ((oN (wN v s) i : Nat) : Int) = (frame : Int) := by
              intro e
              have : oN (wN v s) i = frame := by omega
              rw [this] at he2
              simp at he2
            rw [hl, if_neg e2, if_neg (show ¬ (1 : Int) = 0 by decide), if_pos rfl]
            exact hone _ h.symm
        | 2, _, h, hM, hone =>
          have hol := oN_lt i hwl
          have hl : resultV (looksV (i : Int) v (2 : Nat) f s) frame = if ((wN (oN (wN v s) i) f : Nat) : Int) = frame then 3 else 1 := by
            unfold looksV look1 lookA
            rw [if_neg (show ¬ ((2 : Nat) : Int) = 0 by decide), res_two, hw, if_neg (show ¬ ((2 : Nat) : Int) = 1 by decide), if_neg e, oN_int hwl hi, wN_int hol hf]
          cases he2 : (wN (oN (wN v s) i) f == frame) with
          | true =>
            simp only [he2, cond_true] at h
            have h := Option.some.inj h
            have e2 : wN (oN (wN v s) i) f = frame := by simpa using he2
            have h1 := oN_lt i hv
            have h2 := wN_lt h1 hs
            rw [hl, e2, if_pos rfl, if_neg (show ¬ (3 : Int) = 0 by decide), if_neg (show ¬ (3 : Int) = 1 by decide), if_neg (show ¬ (3 : Int) = 2 by decide), if_pos rfl, if_neg (show ¬ ((2 : Nat) : Int) = 0 by decide), if_neg (show ¬ ((2 : Nat) : Int) = 1 by decide), oN_int hv hi, wN_int h1 hs, wN_int h2 hf, ← h]
            exact ⟨wN_lt h2 hf, 3, rfl, rfl⟩
          | false =>
            simp only [he2, cond_false] at h
            have h := Option.some.inj h
            have e2 : ¬ ((wN (oN (wN v s) i) f : Nat) : Int) = (frame : Int) := by
              intro e
              have : wN (oN (wN v s) i) f = frame := by omega
              rw [this] at he2
              simp at he2
            rw [hl, if_neg e2, if_neg (show ¬ (1 : Int) = 0 by decide), if_pos rfl]
            exact hone _ h.symm
theorem send_int {i : Nat} {sent : Bool} {q q' : Q} (hi : i < 16) (hv : q.v < 65536) (h : send i sent q = some q') :
    viewV (i : Int) q.v q.a q.f = true ∧ q'.v < 65536 ∧ q'.z = q.z ∧ (if sent = true then ((i : Int), withG (q.v : Int) i, (1 : Int), (0 : Int)) else (i, withoutG q.v i, 0, 0)) = ((i : Int), (q'.v : Int), (q'.a : Int), (q'.f : Int)) := by
  unfold send at h
  cases hm : may i q with
  | false => rw [hm] at h; cases h
  | true =>
    rw [hm, cond_true] at h
    refine ⟨(view_int hi hv hm).1, ?_⟩
    cases sent with
    | true =>
      rw [cond_true] at h
      cases h
      rw [if_pos rfl, wN_int hv hi]
      exact ⟨wN_lt hv hi, rfl, rfl⟩
    | false =>
      rw [cond_false] at h
      cases h
      rw [if_neg (by decide), oN_int hv hi]
      exact ⟨oN_lt i hv, rfl, rfl⟩
end Go.Proofs.Ytcfloaplbmpoaaa.Cl
