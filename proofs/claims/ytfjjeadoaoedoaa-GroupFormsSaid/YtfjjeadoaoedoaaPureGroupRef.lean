/- Groups: what the document's answer (vespersref03) computes, in bits. -/
import Derived.Test.YtfjjeadoaoedoaaPAx3
set_option linter.unusedVariables false
set_option linter.unusedSimpArgs false
namespace Go.Proofs.Ytfjjeadoaoedoaa.Pure
open Go.RowKit Go.Proofs.Ytfjjeadoaoedoaa.Grp Go.Proofs.Ytfjjeadoaoedoaa.Hand Go.Proofs.Ytfjjeadoaoedoaa.PA Go.Proofs.YtfjjeadoaoedoaaW.PrintWords Go.Proofs.YtfjjeadoaoedoaaW.PrintLast Go.Proofs.YtfjjeadoaoedoaaW.PrintMore

theorem wrap_id {x : Int} (h0 : -9223372036854775808 ≤ x) (h1 : x ≤ 9223372036854775807) : wrap64 x = x := by
  unfold wrap64; omega
theorem rd_drop (l : List Int) (i : Nat) (h : i < l.length) : l.drop i = rd l (i : Int) :: l.drop (i + 1) := by
  rw [List.drop_eq_getElem_cons h]
  unfold rd
  rw [Int.toNat_natCast, List.getD_eq_getElem?_getD, List.getElem?_eq_getElem h, Option.getD_some]
theorem hasG_no (g n : Int) (h : n < 0 ∨ 15 < n) : hasG g n = false := by
  unfold hasG
  rcases h with h | h
  · simp [show ¬ (0 ≤ n) by omega]
  · simp [show ¬ (n < 16) by omega]

theorem Has_l0 (n : Int) (hn : n < 16) : ∀ (d k i x : Nat), x < 65536 → (i : Int) + d = n → d < k → vespersref03_Has.l0 k (x : Int) n (i : Int) = some (x.testBit d)
  | 0, k + 1, i, x, hx, hi, hk => by
    unfold vespersref03_Has.l0
    rw [if_neg (by omega)]
    congr 1
    rw [show Int.tmod (x : Int) 2 = ((x % 2 : Nat) : Int) from rfl, Nat.testBit_zero, Bool.eq_iff_iff]
    simp
    omega
  | d + 1, k + 1, i, x, hx, hi, hk => by
    unfold vespersref03_Has.l0
    rw [if_pos (by omega), show Int.tdiv (x : Int) 2 = ((x / 2 : Nat) : Int) from rfl, wraps_u16 _ (by omega) (by simp; omega), wrap_id (by omega) (by omega)]
    have := Has_l0 n hn d k (i + 1) (x / 2) (by omega) (by push_cast; omega) (by omega)
    rw [show ((i + 1 : Nat) : Int) = (i : Int) + 1 by push_cast; rfl] at this
    rw [this, Nat.testBit_div_two]
theorem Has_eq (g n : Int) (hg : G16 g) (k : Nat) (hk : 20 < k) : vespersref03_Has.f k g n = some (hasG g n) := by
  obtain ⟨a, ha, rfl⟩ := nat_of hg
  obtain ⟨k, rfl⟩ : ∃ m, k = m + 1 := ⟨k - 1, by omega⟩
  unfold vespersref03_Has.f
  by_cases h0 : n < 0
  · rw [if_pos h0, hasG_no _ _ (.inl h0)]
    simp [vespersref03_Has.j0]
  · rw [if_neg h0]
    by_cases h1 : n > 15
    · rw [hasG_no _ _ (.inr h1)]
      simp [vespersref03_Has.j0, h1]
    · simp only [vespersref03_Has.j0]
      rw [if_neg (by simp; omega)]
      obtain ⟨d, rfl⟩ := Int.eq_ofNat_of_zero_le (show 0 ≤ n by omega)
      have := Has_l0 (d : Int) (by omega) d k 0 a ha (by simp) (by omega)
      rw [show ((0 : Nat) : Int) = 0 from rfl] at this
      rw [this, has_at (by omega), tb_nat]
theorem one_l0 (n : Int) (hn : n < 16) : ∀ (d k i : Nat), (i : Int) + d = n → d < k → vespersref03_one.l0 k n ((2 ^ i : Nat) : Int) (i : Int) = some (onlyG n)
  | 0, k + 1, i, hi, hk => by
    unfold vespersref03_one.l0 onlyG
    rw [if_neg (by omega), if_pos (by omega), show n.toNat = i by omega]
  | d + 1, k + 1, i, hi, hk => by
    unfold vespersref03_one.l0
    have hp : (2 ^ (i + 1) : Nat) < 2 ^ 16 := Nat.pow_lt_pow_right (by decide) (by omega)
    have e : (2 : Int) * ((2 ^ i : Nat) : Int) = ((2 ^ (i + 1) : Nat) : Int) := by rw [Nat.pow_succ]; generalize (2 ^ i : Nat) = y; omega
    rw [if_pos (by omega), e, wraps_u16 _ (Int.natCast_nonneg _) (by exact_mod_cast hp), wrap_id (by omega) (by omega)]
    have := one_l0 n hn d k (i + 1) (by push_cast; omega) (by omega)
    rw [show ((i + 1 : Nat) : Int) = (i : Int) + 1 by push_cast; rfl] at this
    exact this
theorem one_eq (n : Int) (k : Nat) (hk : 20 < k) : vespersref03_one.f k n = some (onlyG n) := by
  obtain ⟨k, rfl⟩ : ∃ m, k = m + 1 := ⟨k - 1, by omega⟩
  unfold vespersref03_one.f
  by_cases h0 : n < 0
  · rw [if_pos h0]
    simp [vespersref03_one.j0, onlyG, show ¬ (0 ≤ n ∧ n < 16) by omega]
  · rw [if_neg h0]
    by_cases h1 : n > 15
    · simp [vespersref03_one.j0, h1, onlyG, show ¬ (0 ≤ n ∧ n < 16) by omega]
    · simp only [vespersref03_one.j0]
      rw [if_neg (by simp; omega)]
      obtain ⟨d, rfl⟩ := Int.eq_ofNat_of_zero_le (show 0 ≤ n by omega)
      have := one_l0 (d : Int) (by omega) d k 0 (by simp) (by omega)
      simpa using this
/-- A bit that is not set, added. -/
theorem add_only (g n : Int) (hg : G16 g) (h : hasG g n = false) : IntKind.u16.wrap (g + onlyG n) = withG g n := by
  by_cases hn : 0 ≤ n ∧ n < 16
  · obtain ⟨a, ha, rfl⟩ := nat_of hg
    obtain ⟨d, rfl⟩ := Int.eq_ofNat_of_zero_le hn.1
    have hd : d < 16 := by omega
    rw [has_at hd, tb_nat] at h
    have hp : (2 ^ d : Nat) < 2 ^ 16 := Nat.pow_lt_pow_right (by decide) hd
    have hp2 : (2 ^ d : Nat) < 65536 := by simpa using hp
    have ho : onlyG (d : Int) = ((2 ^ d : Nat) : Int) := by unfold onlyG; rw [if_pos hn, Int.toNat_natCast]
    unfold withG
    rw [ho, or_nat a _ ha hp2]
    have hz : BitVec.ofNat 16 a &&& BitVec.ofNat 16 (2 ^ d) = 0#16 := by
      apply BitVec.eq_of_getLsbD_eq
      intro i hi
      simp [BitVec.getLsbD_ofNat, Nat.testBit_two_pow]
      intro _ h1 _ he
      subst he
      rw [h] at h1
      cases h1
    have := congrArg BitVec.toNat (BitVec.add_eq_or_of_and_eq_zero _ _ hz)
    have hor : a ||| 2 ^ d < 65536 := Nat.or_lt_two_pow (n := 16) (by simpa using ha) (by simpa using hp)
    simp only [BitVec.toNat_add, BitVec.toNat_or, BitVec.toNat_ofNat] at this
    rw [Nat.mod_eq_of_lt (by simpa using ha : a < 2 ^ 16), Nat.mod_eq_of_lt hp] at this
    rw [wrap_u16]
    have e : ((a : Int) + ((2 ^ d : Nat) : Int)) % 65536 = (((a + 2 ^ d) % 65536 : Nat) : Int) := by generalize (2 ^ d : Nat) = y; omega
    rw [e]
    rw [show (2 : Nat) ^ 16 = 65536 from rfl] at this
    rw [this]
  · have ho : onlyG n = 0 := by unfold onlyG; rw [if_neg hn]
    unfold withG
    rw [ho, Int.add_zero, wraps_u16 g hg.1 hg.2]
    refine ext16 hg (or_g16 hg ⟨by omega, by omega⟩) (fun i hi => ?_)
    rw [tb_or hg ⟨by omega, by omega⟩]
    simp [tb]
theorem with_id {g n : Int} (hg : G16 g) (h : hasG g n = true) : withG g n = g :=
  ext_has (with_g16 hg n) hg (fun m _ _ => by
    rw [has_with hg]
    by_cases e : m = n
    · subst e; rw [h]; rfl
    · simp [e])
theorem without_id {g n : Int} (hg : G16 g) (h : hasG g n = false) : withoutG g n = g :=
  ext_has (without_g16 hg n) hg (fun m _ _ => by
    rw [has_without hg]
    by_cases e : m = n
    · subst e; rw [h]; rfl
    · simp [e])
theorem has_node {g n : Int} (h : hasG g n = true) : 0 ≤ n ∧ n < 16 := by
  unfold hasG at h
  simp at h
  omega
theorem with_without {g n : Int} (hg : G16 g) (h : hasG g n = true) : withG (withoutG g n) n = g := by
  have hn := has_node h
  exact ext_has (with_g16 (without_g16 hg n) n) hg (fun m h0 h1 => by
    rw [has_with (without_g16 hg n), has_without hg]
    by_cases e : m = n
    · subst e; simp [h, h0, h1]
    · simp [e])
theorem With_eq (g n : Int) (hg : G16 g) (k : Nat) (hk : 20 < k) : vespersref03_With.f k g n = some (withG g n) := by
  unfold vespersref03_With.f
  rw [Has_eq g n hg k hk, Option.bind_some]
  cases h : hasG g n with
  | true => rw [if_pos rfl, with_id hg h]
  | false => rw [if_neg (by simp), one_eq n k hk, Option.bind_some, add_only g n hg h]
theorem Without_eq (g n : Int) (hg : G16 g) (k : Nat) (hk : 20 < k) : vespersref03_Without.f k g n = some (withoutG g n) := by
  unfold vespersref03_Without.f
  rw [Has_eq g n hg k hk, Option.bind_some]
  cases h : hasG g n with
  | false => rw [if_neg (by simp), without_id hg h]
  | true =>
    rw [if_pos rfl, one_eq n k hk, Option.bind_some]
    have h1 := without_g16 hg n
    have h2 : hasG (withoutG g n) n = false := by rw [has_without hg]; simp
    have h3 := add_only _ n h1 h2
    rw [with_without hg h, wrap_u16] at h3
    have h4 := hg.1; have h5 := hg.2; have h6 := h1.1; have h7 := h1.2; have h8 := (only_g16 n).1; have h9 := (only_g16 n).2
    rw [wrap_u16]
    congr 1
    omega

/-! ### lists of nodes -/
def nodes : List Int := aftL 15 16
theorem nodes_drop : ∀ i : Fin 16, nodes.drop i.val = ((i.val : Nat) : Int) :: nodes.drop (i.val + 1) := by decide +kernel
theorem nodes_len : nodes.length = 16 := by decide +kernel
theorem nodes_mem {x : Int} : x ∈ nodes ↔ 0 ≤ x ∧ x < 16 := by
  constructor
  · have : ∀ y ∈ nodes, 0 ≤ y ∧ y < 16 := by decide +kernel
    exact this x
  · intro h
    obtain ⟨d, rfl⟩ := Int.eq_ofNat_of_zero_le h.1
    have : ∀ i : Fin 16, ((i.val : Nat) : Int) ∈ nodes := by decide +kernel
    exact this ⟨d, by omega⟩
theorem filter_has {g : Int} (hg : G16 g) (l : List Int) : l.filter (fun x => hasB g x) = l.filter (hasG g) := by
  congr 1
  funext x
  exact hasB_eq hg x
theorem listG_eq {g : Int} (hg : G16 g) : listG g = nodes.filter (hasG g) := filter_has hg _
theorem mem_list {g : Int} (hg : G16 g) (x : Int) : x ∈ listG g ↔ hasG g x = true := by
  rw [listG_eq hg, List.mem_filter, nodes_mem]
  exact ⟨fun h => h.2, fun h => ⟨has_node h, h⟩⟩
theorem list_len (g : Int) : (listG g).length ≤ 16 := by
  have := List.length_filter_le (fun x => hasB g x) (aftL 15 16)
  rw [aftL_len] at this
  exact this
theorem List_l0 (g : Int) (hg : G16 g) : ∀ (d k i : Nat) (acc : List Int), i + d = 16 → d + 20 < k → acc.length + d ≤ 16 → vespersref03_List.l0 k g acc (i : Int) = some (acc ++ (nodes.drop i).filter (hasG g))
  | 0, k + 1, i, acc, hi, hk, ha => by
    unfold vespersref03_List.l0
    rw [if_neg (by omega), List.drop_eq_nil_of_le (by rw [nodes_len]; omega)]
    simp
  | d + 1, k + 1, i, acc, hi, hk, ha => by
    unfold vespersref03_List.l0
    rw [if_pos (by omega), Has_eq g _ hg k (by omega), Option.bind_some]
    have hd := nodes_drop ⟨i, by omega⟩
    simp only at hd
    rw [hd, List.filter_cons, wrap_id (by omega) (by omega), show (i : Int) + 1 = ((i + 1 : Nat) : Int) by push_cast; rfl]
    cases h : hasG g (i : Int) with
    | true =>
      rw [if_pos rfl, if_pos (by omega), List_l0 g hg d k (i + 1) _ (by omega) (by omega) (by simp; omega), if_pos rfl]
      simp
    | false =>
      rw [if_neg (by simp), List_l0 g hg d k (i + 1) _ (by omega) (by omega) (by omega), if_neg (by simp)]
theorem List_eq (g : Int) (hg : G16 g) (k : Nat) (hk : 40 < k) : vespersref03_List.f k g = some (listG g) := by
  unfold vespersref03_List.f
  have := List_l0 g hg 16 k 0 [] (by omega) (by omega) (by simp)
  rw [show ((0 : Nat) : Int) = 0 from rfl] at this
  rw [this, listG_eq hg]
  rfl
theorem Ints_l0 (l : List Int) : ∀ (d k i : Nat), i + d = l.length → d < k → l.length < 1000000 → vespersref03_Ints.l0 k l l (i : Int) = some true
  | 0, k + 1, i, hi, hk, hl => by
    unfold vespersref03_Ints.l0
    rw [if_neg (by omega)]
  | d + 1, k + 1, i, hi, hk, hl => by
    unfold vespersref03_Ints.l0
    rw [if_pos (by omega), if_pos (by omega), if_pos (by omega), if_pos rfl, wrap_id (by omega) (by omega), show (i : Int) + 1 = ((i + 1 : Nat) : Int) by push_cast; rfl]
    exact Ints_l0 l d k (i + 1) (by omega) (by omega) hl
theorem Ints_self (l : List Int) (k : Nat) (hk : l.length < k) (hl : l.length < 1000000) : vespersref03_Ints.f k l l = some true := by
  unfold vespersref03_Ints.f
  rw [if_pos rfl]
  exact Ints_l0 l l.length k 0 (by omega) (by omega) hl

/-! ### counts -/
theorem ones_bits : ∀ n : Fin 256, Lib.onesCount n.val = (List.range 8).countP (fun i => n.val.testBit i) := by decide +kernel
theorem nodes_map : nodes = (List.range 16).map (fun i : Nat => (i : Int)) := by decide +kernel
theorem range16 : List.range 16 = List.range 8 ++ (List.range 8).map (· + 8) := by decide
theorem count_len {g : Int} (hg : G16 g) : countG g = ((listG g).length : Int) := by
  rw [listG_eq hg, nodes_map, ← List.countP_eq_length_filter, List.countP_map]
  obtain ⟨a, ha, rfl⟩ := nat_of hg
  have e : (List.range 16).countP (hasG (a : Int) ∘ fun i : Nat => (i : Int)) = (List.range 16).countP (fun i => a.testBit i) := by
    apply List.countP_congr
    intro i hi
    rw [List.mem_range] at hi
    rw [Function.comp_apply, has_at hi, tb_nat]
  rw [e, range16, List.countP_append, List.countP_map]
  unfold countG
  rw [Int.toNat_natCast, ones_bits ⟨a / 256, by omega⟩, ones_bits ⟨a % 256, by omega⟩]
  have e1 : (List.range 8).countP (fun i => (a / 256).testBit i) = (List.range 8).countP ((fun i => a.testBit i) ∘ (· + 8)) := by
    congr 1
    funext i
    rw [Function.comp_apply, show (256 : Nat) = 2 ^ 8 from rfl, Nat.testBit_div_two_pow, Nat.add_comm]
  have e2 : (List.range 8).countP (fun i => (a % 256).testBit i) = (List.range 8).countP (fun i => a.testBit i) := by
    apply List.countP_congr
    intro i hi
    rw [List.mem_range] at hi
    rw [show (256 : Nat) = 2 ^ 8 from rfl, Nat.testBit_mod_two_pow]
    simp [hi]
  simp only at e1 e2 ⊢
  rw [e1, e2, Nat.add_comm]
theorem Count_eq (g : Int) (hg : G16 g) (k : Nat) (hk : 40 < k) : vespersref03_Count.f k g = some (countG g) := by
  unfold vespersref03_Count.f
  rw [List_eq g hg k hk, Option.bind_some, count_len hg]
theorem gcount_eq (g : Int) (hg : G16 g) : group_Count.f g = some (countG g) := by
  unfold group_Count.f bits_OnesCount16.f
  rw [if_pos (show 0 ≤ g ∧ g < 65536 from hg)]
  rfl

/-! ### what follows -/
theorem nextG_eq {g : Int} (hg : G16 g) (n : Nat) (hn : n < 16) : nextG g (n : Int) = ((aftL n 16).find? (hasG g)).getD (-1) := by
  unfold nextG
  rw [if_pos (by simp [nodeB]; omega), Int.toNat_natCast]
  congr 2
  funext x
  exact hasB_eq hg x
theorem aft_drop (n : Nat) (i : Nat) (h : i < 16) : (aftL n 16).drop i = aft n i :: (aftL n 16).drop (i + 1) := by
  rw [List.drop_eq_getElem_cons (by rw [aftL_len]; exact h)]
  congr 1
  simp [aftL]
theorem Next_l0 (g : Int) (hg : G16 g) (n : Nat) (hn : n < 16) : ∀ (d k i : Nat), i + d = 16 → d + 20 < k → vespersref03_Next.l0 k g (n : Int) ((i + 1 : Nat) : Int) = some ((((aftL n 16).drop i).find? (hasG g)).getD (-1))
  | 0, k + 1, i, hi, hk => by
    unfold vespersref03_Next.l0
    rw [if_neg (by omega), List.drop_eq_nil_of_le (by rw [aftL_len]; omega)]
    rfl
  | d + 1, k + 1, i, hi, hk => by
    simp only [vespersref03_Next.l0]
    have e : Int.tmod (wrap64 ((n : Int) + ((i + 1 : Nat) : Int))) 16 = aft n i := by
      rw [wrap_id (by omega) (by omega)]
      unfold aft
      rw [show (n : Int) + ((i + 1 : Nat) : Int) = ((n + 1 + i : Nat) : Int) by omega]
      rfl
    rw [if_pos (by omega), e, Has_eq g _ hg k (by omega), Option.bind_some, aft_drop n i (by omega), List.find?_cons]
    cases h : hasG g (aft n i) with
    | true => rw [if_pos rfl]; rfl
    | false =>
      rw [if_neg (by simp), wrap_id (by omega) (by omega), show ((i + 1 : Nat) : Int) + 1 = ((i + 1 + 1 : Nat) : Int) by omega]
      exact Next_l0 g hg n hn d k (i + 1) (by omega) (by omega)
theorem Next_eq (g n : Int) (hg : G16 g) (k : Nat) (hk : 50 < k) : vespersref03_Next.f k g n = some (nextG g n) := by
  obtain ⟨k, rfl⟩ : ∃ m, k = m + 1 := ⟨k - 1, by omega⟩
  unfold vespersref03_Next.f
  by_cases h0 : n < 0
  · rw [if_pos h0]
    simp only [vespersref03_Next.j0, if_true]
    unfold nextG
    rw [if_neg (by simp [nodeB]; omega)]
  · rw [if_neg h0]
    by_cases h1 : n > 15
    · simp only [vespersref03_Next.j0]
      rw [if_pos (by simp; omega)]
      unfold nextG
      rw [if_neg (by simp [nodeB]; omega)]
    · simp only [vespersref03_Next.j0]
      rw [if_neg (by simp; omega)]
      obtain ⟨d, rfl⟩ := Int.eq_ofNat_of_zero_le (show 0 ≤ n by omega)
      rw [nextG_eq hg d (by omega)]
      exact Next_l0 g hg d (by omega) 16 k 0 (by omega) (by omega)

/-! ### the first -/
def firstG (n : Int) : Int := ((2 ^ (min n 16).toNat - 1 : Nat) : Int)
theorem first_g16 (n : Int) : G16 (firstG n) := by
  unfold firstG
  refine g16_nat ?_
  have : (2 : Nat) ^ (min n 16).toNat ≤ 2 ^ 16 := Nat.pow_le_pow_right (by decide) (by omega)
  have h2 : (2 : Nat) ^ 16 = 65536 := rfl
  omega
theorem gfirst_eq (n : Int) : group_First.f n = some (firstG n) := by
  unfold group_First.f firstG
  have hm : (mx 0 (mn n 16)).toNat = (min n 16).toNat := by unfold mx mn; split <;> split <;> omega
  rw [hm]
  congr 1
  have : ∀ i : Fin 17, IntKind.u16.wrap (IntKind.u16.wrap (2 ^ i.val) - 1) = ((2 ^ i.val - 1 : Nat) : Int) := by decide +kernel
  exact this ⟨(min n 16).toNat, by omega⟩
theorem with_first : ∀ i : Fin 16, withG (((2 ^ i.val - 1 : Nat) : Int)) (i.val : Int) = ((2 ^ (i.val + 1) - 1 : Nat) : Int) := by decide +kernel
theorem pow_g16 (i : Nat) (h : i ≤ 16) : G16 (((2 ^ i - 1 : Nat) : Int)) := by
  refine g16_nat ?_
  have : (2 : Nat) ^ i ≤ 2 ^ 16 := Nat.pow_le_pow_right (by decide) h
  have h2 : (2 : Nat) ^ 16 = 65536 := rfl
  omega
theorem First_l0 (n : Int) : ∀ (d k i : Nat), i + d = 16 → d + 25 < k → (i : Int) ≤ max 0 n → vespersref03_First.l0 k n ((2 ^ i - 1 : Nat) : Int) (i : Int) = some (firstG n)
  | 0, k + 1, i, hi, hk, hn => by
    obtain rfl : i = 16 := by omega
    have e : firstG n = ((2 ^ 16 - 1 : Nat) : Int) := by unfold firstG; rw [show (min n 16).toNat = 16 by omega]
    unfold vespersref03_First.l0
    by_cases h : ((16 : Nat) : Int) < n
    · rw [if_pos h, if_neg (by omega), e]
    · rw [if_neg h, e]
  | d + 1, k + 1, i, hi, hk, hn => by
    unfold vespersref03_First.l0
    by_cases h : (i : Int) < n
    · rw [if_pos h, if_pos (by omega), With_eq _ _ (pow_g16 i (by omega)) k (by omega), Option.bind_some, with_first ⟨i, by omega⟩, wrap_id (by omega) (by omega), show (i : Int) + 1 = ((i + 1 : Nat) : Int) by omega]
      exact First_l0 n d k (i + 1) (by omega) (by omega) (by omega)
    · rw [if_neg h]
      unfold firstG
      rw [show (min n 16).toNat = i by omega]
theorem First_eq (n : Int) (k : Nat) (hk : 50 < k) : vespersref03_First.f k n = some (firstG n) := by
  unfold vespersref03_First.f
  have := First_l0 n 16 k 0 (by omega) (by omega) (by omega)
  simpa using this
theorem tb_first (n : Int) (i : Nat) : tb (firstG n) i = decide ((i : Int) < min n 16) := by
  unfold firstG
  rw [tb_nat, Nat.testBit_two_pow_sub_one]
  rw [Bool.eq_iff_iff]
  simp only [decide_eq_true_eq]
  omega
theorem has_first (n x : Int) (h0 : 0 ≤ x) (h1 : x < 16) : hasG (firstG n) x = decide (x < n) := by
  obtain ⟨d, rfl⟩ := Int.eq_ofNat_of_zero_le h0
  rw [has_at (by omega), tb_first, Bool.eq_iff_iff]
  simp
  omega

/-! ### two groups -/
def bothG (a b : Int) : Int := Go.bits .and .u16 a b
def lessG (a b : Int) : Int := Go.bits .andNot .u16 a b
theorem has_both {a b : Int} (ha : G16 a) (hb : G16 b) (x : Int) : hasG (bothG a b) x = (hasG a x && hasG b x) := by
  unfold hasG bothG
  rw [tb_and ha hb]
  cases decide (0 ≤ x) <;> cases decide (x < 16) <;> simp
theorem has_less {a b : Int} (ha : G16 a) (hb : G16 b) (x : Int) : hasG (lessG a b) x = (hasG a x && !hasG b x) := by
  unfold hasG lessG
  rw [tb_andNot ha hb]
  cases decide (0 ≤ x) <;> cases decide (x < 16) <;> simp
theorem Both_l0 (b : Int) (hb : G16 b) (l : List Int) (hl : l.length ≤ 16) : ∀ (d k i : Nat) (out : Int), G16 out → i + d = l.length → d + 25 < k → (∀ x ∈ l, 0 ≤ x ∧ x < 16) →
    ∃ r, vespersref03_Both.l0 k b l out (i : Int) = some r ∧ G16 r ∧ ∀ x, hasG r x = (hasG out x || ((l.drop i).contains x && hasG b x)) := by
  intro d
  induction d with
  | zero =>
    intro k i out ho hi hk hm
    obtain ⟨k, rfl⟩ : ∃ m, k = m + 1 := ⟨k - 1, by omega⟩
    refine ⟨out, ?_, ho, ?_⟩
    · unfold vespersref03_Both.l0
      rw [if_neg (by omega)]
    · intro x
      rw [List.drop_eq_nil_of_le (by omega)]
      simp
  | succ d ih =>
    intro k i out ho hi hk hm
    obtain ⟨k, rfl⟩ : ∃ m, k = m + 1 := ⟨k - 1, by omega⟩
    unfold vespersref03_Both.l0
    have hd := rd_drop l i (by omega)
    have hx : rd l (i : Int) ∈ l := List.mem_of_mem_drop (i := i) (by rw [hd]; simp)
    rw [if_pos (by omega), if_pos (by omega), Has_eq b _ hb k (by omega), Option.bind_some, wrap_id (by omega) (by omega), show (i : Int) + 1 = ((i + 1 : Nat) : Int) by omega]
    cases h : hasG b (rd l (i : Int)) with
    | true =>
      rw [if_pos rfl, With_eq _ _ ho k (by omega), Option.bind_some]
      obtain ⟨r, h1, h2, h3⟩ := ih k (i + 1) _ (with_g16 ho (rd l (i : Int))) (by omega) (by omega) hm
      refine ⟨r, h1, h2, fun x => ?_⟩
      rw [h3, has_with ho, hd, List.contains_cons]
      by_cases e : x = rd l (i : Int)
      · subst e
        have := hm _ hx
        simp [this, h]
      · have : (x == rd l (i : Int)) = false := by simpa using e
        simp [e, this]
    | false =>
      rw [if_neg (by simp)]
      obtain ⟨r, h1, h2, h3⟩ := ih k (i + 1) _ ho (by omega) (by omega) hm
      refine ⟨r, h1, h2, fun x => ?_⟩
      rw [h3, hd, List.contains_cons]
      by_cases e : x = rd l (i : Int)
      · subst e; simp [h]
      · have : (x == rd l (i : Int)) = false := by simpa using e
        simp [e, this]
theorem list_contains {g : Int} (hg : G16 g) (x : Int) : (listG g).contains x = hasG g x := by
  rw [Bool.eq_iff_iff, List.contains_iff_mem, mem_list hg]
theorem zero16 : G16 0 := ⟨by omega, by omega⟩
theorem has_zero (x : Int) : hasG 0 x = false := by unfold hasG; simp [tb]
theorem Both_eq (a b : Int) (ha : G16 a) (hb : G16 b) (k : Nat) (hk : 60 < k) : vespersref03_Both.f k a b = some (bothG a b) := by
  unfold vespersref03_Both.f
  rw [List_eq a ha k (by omega), Option.bind_some]
  obtain ⟨r, h1, h2, h3⟩ := Both_l0 b hb (listG a) (list_len a) (listG a).length k 0 0 zero16 (by omega) (by have := list_len a; omega) (fun x hx => has_node ((mem_list ha x).1 hx))
  rw [show ((0 : Nat) : Int) = 0 from rfl] at h1
  rw [h1]
  congr 1
  refine ext_has h2 (and_g16 ha hb) (fun x _ _ => ?_)
  rw [h3, has_zero, List.drop_zero, list_contains ha, Bool.false_or]
  exact (has_both ha hb x).symm
theorem Less_l0 (l : List Int) (hl : l.length ≤ 16) : ∀ (d k i : Nat) (out : Int), G16 out → i + d = l.length → d + 25 < k →
    ∃ r, vespersref03_Less.l0 k out l (i : Int) = some r ∧ G16 r ∧ ∀ x, hasG r x = (hasG out x && !(l.drop i).contains x) := by
  intro d
  induction d with
  | zero =>
    intro k i out ho hi hk
    obtain ⟨k, rfl⟩ : ∃ m, k = m + 1 := ⟨k - 1, by omega⟩
    refine ⟨out, ?_, ho, ?_⟩
    · unfold vespersref03_Less.l0
      rw [if_neg (by omega)]
    · intro x
      rw [List.drop_eq_nil_of_le (by omega)]
      simp
  | succ d ih =>
    intro k i out ho hi hk
    obtain ⟨k, rfl⟩ : ∃ m, k = m + 1 := ⟨k - 1, by omega⟩
    unfold vespersref03_Less.l0
    have hd := rd_drop l i (by omega)
    rw [if_pos (by omega), if_pos (by omega), Without_eq _ _ ho k (by omega), Option.bind_some, wrap_id (by omega) (by omega), show (i : Int) + 1 = ((i + 1 : Nat) : Int) by omega]
    obtain ⟨r, h1, h2, h3⟩ := ih k (i + 1) _ (without_g16 ho (rd l (i : Int))) (by omega) (by omega)
    refine ⟨r, h1, h2, fun x => ?_⟩
    rw [h3, has_without ho, hd, List.contains_cons]
    by_cases e : x = rd l (i : Int)
    · subst e; simp
    · have : (x == rd l (i : Int)) = false := by simpa using e
      simp [e, this]
theorem Less_eq (a b : Int) (ha : G16 a) (hb : G16 b) (k : Nat) (hk : 60 < k) : vespersref03_Less.f k a b = some (lessG a b) := by
  unfold vespersref03_Less.f
  rw [List_eq b hb k (by omega), Option.bind_some]
  obtain ⟨r, h1, h2, h3⟩ := Less_l0 (listG b) (list_len b) (listG b).length k 0 a ha (by omega) (by have := list_len b; omega)
  rw [show ((0 : Nat) : Int) = 0 from rfl] at h1
  rw [h1]
  congr 1
  refine ext_has h2 (andNot_g16 ha hb) (fun x _ _ => ?_)
  rw [h3, List.drop_zero, list_contains hb]
  exact (has_less ha hb x).symm

/-! ### ranks -/
def rankG (g n : Int) : Int := (((listG g).countP (fun x => decide (x < n)) : Nat) : Int)
theorem Rank_l0 (n : Int) (l : List Int) (hl : l.length ≤ 16) : ∀ (d k i m : Nat), i + d = l.length → d < k → m ≤ i → vespersref03_Rank.l0 k n l (m : Int) (i : Int) = some (((m + (l.drop i).countP (fun x => decide (x < n)) : Nat) : Int))
  | 0, k + 1, i, m, hi, hk, hm => by
    unfold vespersref03_Rank.l0
    rw [if_neg (by omega), List.drop_eq_nil_of_le (by omega)]
    rfl
  | d + 1, k + 1, i, m, hi, hk, hm => by
    unfold vespersref03_Rank.l0
    have hd := rd_drop l i (by omega)
    rw [if_pos (by omega), if_pos (by omega), hd, List.countP_cons, wrap_id (by omega) (by omega), wrap_id (by omega) (by omega), show (i : Int) + 1 = ((i + 1 : Nat) : Int) by omega, show (m : Int) + 1 = ((m + 1 : Nat) : Int) by omega]
    by_cases h : rd l (i : Int) < n
    · rw [if_pos h, Rank_l0 n l hl d k (i + 1) (m + 1) (by omega) (by omega) (by omega), if_pos (decide_eq_true h)]
      congr 2
      omega
    · rw [if_neg h, Rank_l0 n l hl d k (i + 1) m (by omega) (by omega) (by omega), if_neg (by simpa using h)]
      rfl
theorem Rank_eq (g n : Int) (hg : G16 g) (k : Nat) (hk : 60 < k) : vespersref03_Rank.f k g n = some (rankG g n) := by
  unfold vespersref03_Rank.f
  rw [List_eq g hg k (by omega), Option.bind_some]
  have := Rank_l0 n (listG g) (list_len g) (listG g).length k 0 0 (by omega) (by have := list_len g; omega) (by omega)
  simpa [rankG] using this
theorem grank_eq (g n : Int) (hg : G16 g) : group_Rank.f g n = some (rankG g n) := by
  unfold group_Rank.f
  rw [gfirst_eq, Option.bind_some]
  unfold group_Both.f
  rw [Option.bind_some, gcount_eq _ (and_g16 hg (first_g16 n)), Option.bind_some, count_len (and_g16 hg (first_g16 n)), listG_eq (and_g16 hg (first_g16 n))]
  unfold rankG
  rw [listG_eq hg, List.countP_eq_length_filter, List.filter_filter]
  congr 3
  apply List.filter_congr
  intro x hx
  have hx := nodes_mem.1 hx
  have := has_both hg (first_g16 n) x
  unfold bothG at this
  rw [this, has_first n x hx.1 hx.2, Bool.and_comm]
end Go.Proofs.Ytfjjeadoaoedoaa.Pure
