/- Two parties: what stands behind each node that is dealt, and what a round counts; plain. -/
import Derived.Test.YtjdojhioifelnaaHandClique
import Derived.Test.YtjdojhioifelnaaHandResult
set_option linter.unusedVariables false
set_option linter.unusedSimpArgs false
namespace Go.Proofs.Ytjdojhioifelnaa.Par
open Go.RowKit Go.Proofs.Ytjdojhioifelnaa.Grp Go.Proofs.Ytjdojhioifelnaa.Hand Go.Proofs.YtjdojhioifelnaaW.PrintWords Go.Proofs.YtjdojhioifelnaaW.PrintMore

def cn (l : List Int) (k : Int) : Int := ((l.countP (fun x => x == k) : Nat) : Int)
theorem cn_nonneg (l : List Int) (k : Int) : 0 ≤ cn l k := Int.natCast_nonneg _
theorem cn_snoc (l : List Int) (x k : Int) : cn (l ++ [x]) k = cn l k + (if x = k then 1 else 0) := by
  unfold cn
  rw [List.countP_append]
  by_cases h : x = k
  · simp [h]
  · simp [h]
theorem cn_two (l : List Int) (h : ∀ x ∈ l, x = 0 ∨ x = 1) : cn l 0 + cn l 1 = l.length := by
  induction l with
  | nil => rfl
  | cons x t ih =>
    have ih := ih (fun y hy => h y (List.mem_cons_of_mem _ hy))
    unfold cn at *
    rw [List.countP_cons, List.countP_cons, List.length_cons]
    rcases h x (List.mem_cons_self ..) with rfl | rfl <;> simp <;> omega
structure PI (a b : Int) (i : Nat) (P : List Int) (v0 v1 l0 l1 : Int) : Prop where
  len : P.length = i
  par : ∀ x ∈ P, x = 0 ∨ x = 1
  c0 : l0 = a - cn P 0
  c1 : l1 = b - cn P 1
  n0 : 0 ≤ l0
  n1 : 0 ≤ l1
  g0 : G16 v0
  g1 : G16 v1
  b0 : ∀ j, j < 16 → tb v0 j = decide (P[j]? = some 0)
  b1 : ∀ j, j < 16 → tb v1 j = decide (P[j]? = some 1)
theorem g16_zero : G16 0 := ⟨by decide, by decide⟩
theorem tb_zero (j : Nat) : tb 0 j = false := by
  show (0 : Int).toNat.testBit j = false
  simp
theorem PI.start {a b : Int} (ha : 0 ≤ a) (hb : 0 ≤ b) : PI a b 0 [] 0 0 a b :=
  ⟨rfl, (fun x hx => by simp at hx), (by show a = a - 0; omega), (by show b = b - 0; omega), ha, hb, g16_zero, g16_zero, (fun j _ => by rw [tb_zero]; simp), (fun j _ => by rw [tb_zero]; simp)⟩
theorem PI.sum {a b : Int} {i : Nat} {P : List Int} {v0 v1 l0 l1 : Int} (h : PI a b i P v0 v1 l0 l1) : l0 + l1 = a + b - i := by
  have := cn_two P h.par
  have := h.len
  have := h.c0
  have := h.c1
  omega
theorem bit_snoc {P : List Int} {i : Nat} (hl : P.length = i) (v x y : Int) (hv : G16 v) (hb : ∀ j, j < 16 → tb v j = decide (P[j]? = some y)) (hi : i < 16) (j : Nat) (hj : j < 16) :
    (if x = y then tb (withG v (i : Int)) j else tb v j) = decide ((P ++ [x])[j]? = some y) := by
  rw [tb_with hv, hb j hj]
  rcases Nat.lt_trichotomy j i with h | h | h
  · rw [List.getElem?_append_left (by omega)]
    have e : (i = j) = False := eq_false (by omega)
    simp [e]
  · subst h
    rw [List.getElem?_append_right (by omega), hl]
    have e : P[j]? = none := List.getElem?_eq_none (by omega)
    rw [e]
    have hj' : (j : Int) < 16 := by omega
    by_cases hxy : x = y
    · simp [hxy, hj']
    · simp [hxy]
  · rw [List.getElem?_append_right (by omega)]
    have e : P[j]? = none := List.getElem?_eq_none (by omega)
    have e2 : ([x] : List Int)[j - P.length]? = none := List.getElem?_eq_none (by simp; omega)
    have e3 : (i = j) = False := eq_false (by omega)
    rw [e, e2]
    simp [e3]
theorem PI.step0 {a b : Int} {i : Nat} {P : List Int} {v0 v1 l0 l1 : Int} (h : PI a b i P v0 v1 l0 l1) (hi : i < 16) (hl : l0 ≠ 0) : PI a b (i + 1) (P ++ [0]) (withG v0 (i : Int)) v1 (l0 - 1) l1 := by
  have hn := h.n0
  have hc := h.c0
  have hd := h.c1
  refine ⟨by simp [h.len], ?_, ?_, ?_, by omega, h.n1, with_g16 h.g0 _, h.g1, ?_, ?_⟩
  · intro x hx
    rcases List.mem_append.1 hx with hx | hx
    · exact h.par x hx
    · left; simpa using hx
  · rw [cn_snoc, if_pos rfl]; omega
  · rw [cn_snoc, if_neg (by decide)]; omega
  · intro j hj
    have := bit_snoc h.len v0 0 0 h.g0 h.b0 hi j hj
    rwa [if_pos rfl] at this
  · intro j hj
    have := bit_snoc h.len v1 0 1 h.g1 h.b1 hi j hj
    rwa [if_neg (by decide)] at this
theorem PI.step1 {a b : Int} {i : Nat} {P : List Int} {v0 v1 l0 l1 : Int} (h : PI a b i P v0 v1 l0 l1) (hi : i < 16) (hl : l1 ≠ 0) : PI a b (i + 1) (P ++ [1]) v0 (withG v1 (i : Int)) l0 (l1 - 1) := by
  have hn := h.n1
  have hc := h.c0
  have hd := h.c1
  refine ⟨by simp [h.len], ?_, ?_, ?_, h.n0, by omega, h.g0, with_g16 h.g1 _, ?_, ?_⟩
  · intro x hx
    rcases List.mem_append.1 hx with hx | hx
    · exact h.par x hx
    · right; simpa using hx
  · rw [cn_snoc, if_neg (by decide)]; omega
  · rw [cn_snoc, if_pos rfl]; omega
  · intro j hj
    have := bit_snoc h.len v0 1 0 h.g0 h.b0 hi j hj
    rwa [if_neg (by decide)] at this
  · intro j hj
    have := bit_snoc h.len v1 1 1 h.g1 h.b1 hi j hj
    rwa [if_pos rfl] at this
theorem rd01 {a b : Int} {i : Nat} {P : List Int} {v0 v1 l0 l1 : Int} (h : PI a b i P v0 v1 l0 l1) {j : Nat} (hj : j < P.length) : rd P (j : Int) = 0 ∨ rd P (j : Int) = 1 := by
  have e : rd P (j : Int) = P[j] := by simp [rd, hj]
  rw [e]
  exact h.par _ (List.getElem_mem hj)
theorem getD_rd {P : List Int} {j : Nat} (hj : j < P.length) : P.getD j 9 = rd P (j : Int) := by simp [rd, hj]
theorem node_eq (n j k : Nat) (s : Int) (hs : (n : Int) = s) : Int.tmod ((j : Int) + (k : Int)) s = (((j + k) % n : Nat) : Int) := by
  subst hs
  rfl
theorem node_emod (n j k : Nat) (s : Int) (hs : (n : Int) = s) : ((j : Int) + (k : Int)) % s = (((j + k) % n : Nat) : Int) := by
  subst hs
  rfl
theorem rot_ne {n j k : Nat} (hj : j < n) (h1 : 1 ≤ k) (hk : k < n) : (j + k) % n ≠ j := by
  by_cases h : j + k < n
  · rw [Nat.mod_eq_of_lt h]; omega
  · rw [Nat.mod_eq_sub_mod (by omega), Nat.mod_eq_of_lt (by omega)]; omega
theorem look_eq (v : Int) {j m : Nat} (hj : j < 16) (hm : m < 16) (h : m ≠ j) : vector_Looks.f (j : Int) v 0 0 (m : Int) = some ([withG v (m : Int)], 0) := by
  have hv : viewV (j : Int) v 0 0 = true := by
    unfold viewV nodeB
    simp
    omega
  have hmay : mayV (j : Int) v 0 0 (m : Int) = true := by
    unfold mayV nodeB
    rw [hv]
    simp
    omega
  unfold vector_Looks.f
  rw [if_pos hmay]
  rfl
/-! ### a round -/
def T (P : List Int) (i : Nat) (x : Int) (k : Nat) : Int := cn ((List.range k).map (fun m => P.getD ((i + m) % P.length) 9)) x
theorem T_succ (P : List Int) (i : Nat) (x : Int) (k : Nat) : T P i x (k + 1) = T P i x k + (if P.getD ((i + k) % P.length) 9 = x then 1 else 0) := by
  unfold T
  rw [List.range_succ, List.map_append, List.map_cons, List.map_nil, cn_snoc]
theorem T_one {P : List Int} {i : Nat} {x : Int} (hi : i < P.length) (hx : P.getD i 9 = x) : T P i x 1 = 1 := by
  rw [T_succ, Nat.add_zero, Nat.mod_eq_of_lt hi, if_pos hx]
  rfl
theorem T_bounds (P : List Int) (i : Nat) (x : Int) (k : Nat) : 0 ≤ T P i x k ∧ T P i x k ≤ k := by
  refine ⟨cn_nonneg _ _, ?_⟩
  unfold T cn
  have := List.countP_le_length (p := fun y => y == x) (l := (List.range k).map (fun m => P.getD ((i + m) % P.length) 9))
  rw [List.length_map, List.length_range] at this
  exact_mod_cast this
theorem rot_eq (P : List Int) (i : Nat) (hi : i < P.length) : (List.range P.length).map (fun m => P.getD ((i + m) % P.length) 9) = P.drop i ++ P.take i := by
  apply List.ext_getElem?
  intro m
  by_cases hm : m < P.length
  · rw [List.getElem?_map, List.getElem?_range hm, Option.map_some]
    by_cases h : m < P.length - i
    · rw [List.getElem?_append_left (by simp; omega), List.getElem?_drop, Nat.mod_eq_of_lt (by omega), List.getD_eq_getElem?_getD, List.getElem?_eq_getElem (by omega)]
      rfl
    · rw [List.getElem?_append_right (by simp; omega), List.length_drop, List.getElem?_take_of_lt (by omega)]
      have e : (i + m) % P.length = m - (P.length - i) := by
        rw [Nat.mod_eq_sub_mod (by omega), Nat.mod_eq_of_lt (by omega)]
        omega
      rw [e, List.getD_eq_getElem?_getD, List.getElem?_eq_getElem (by omega)]
      rfl
  · rw [List.getElem?_eq_none (by simp; omega), List.getElem?_eq_none (by simp; omega)]
theorem T_all (P : List Int) (i : Nat) (x : Int) (hi : i < P.length) : T P i x P.length = cn P x := by
  unfold T
  rw [rot_eq P i hi]
  unfold cn
  rw [List.countP_append]
  have : P.countP (fun y => y == x) = (P.take i ++ P.drop i).countP (fun y => y == x) := by rw [List.take_append_drop]
  rw [this, List.countP_append]
  omega
end Go.Proofs.Ytjdojhioifelnaa.Par
