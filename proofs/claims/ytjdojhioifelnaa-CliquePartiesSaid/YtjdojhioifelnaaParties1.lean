/- Two parties: what a node makes of another one's slot; plain. -/
import Derived.Test.YtjdojhioifelnaaParties0
import Derived.Test.YtjdojhioifelnaaPAx3
import Derived.Test.YtjdojhioifelnaaPAx4
set_option linter.unusedVariables false
set_option linter.unusedSimpArgs false
namespace Go.Proofs.Ytjdojhioifelnaa.Par
open Go.RowKit Go.Proofs.Ytjdojhioifelnaa.Grp Go.Proofs.Ytjdojhioifelnaa.Hand Go.Proofs.Ytjdojhioifelnaa.PA Go.Proofs.YtjdojhioifelnaaW.PrintWords Go.Proofs.YtjdojhioifelnaaW.PrintMore

theorem with_same {v : Int} (hv : G16 v) {m : Nat} (hm : m < 16) (h : tb v m = true) : withG v (m : Int) = v := by
  refine ext16 (with_g16 hv _) hv (fun i hi => ?_)
  rw [tb_with hv]
  by_cases e : i = m
  · subst e; rw [h]; rfl
  · have : decide ((0 : Int) ≤ (m : Int) ∧ (m : Int) < 16 ∧ ((m : Int)).toNat = i) = false := decide_eq_false (by omega)
    rw [this, Bool.or_false]
theorem without_same {v : Int} (hv : G16 v) {m : Nat} (hm : m < 16) (h : tb v m = false) : withoutG v (m : Int) = v := by
  refine ext16 (without_g16 hv _) hv (fun i hi => ?_)
  rw [tb_without hv]
  by_cases e : i = m
  · subst e; rw [h]; rfl
  · have : decide ((0 : Int) ≤ (m : Int) ∧ (m : Int) < 16 ∧ ((m : Int)).toNat = i) = false := decide_eq_false (by omega)
    rw [this, Bool.not_false, Bool.and_true]
theorem in_P {P : List Int} {m : Nat} {x : Int} (hm : m < P.length) (hx : rd P (m : Int) = x) : P[m]? = some x := by
  rw [List.getElem?_eq_getElem hm, ← hx]
  simp [rd, hm]
theorem own_bit {v : Int} {P : List Int} {x : Int} (hb : ∀ j, j < 16 → tb v j = decide (P[j]? = some x)) {m : Nat} (hm : m < P.length) (hP : P.length ≤ 16) (hx : rd P (m : Int) = x) : tb v m = true := by
  rw [hb m (by omega), in_P hm hx]
  exact decide_eq_true rfl
theorem far_bit {v : Int} {P : List Int} {x y : Int} (hb : ∀ j, j < 16 → tb v j = decide (P[j]? = some x)) {m : Nat} (hm : m < P.length) (hP : P.length ≤ 16) (hy : rd P (m : Int) = y) (hxy : y ≠ x) : tb v m = false := by
  rw [hb m (by omega), in_P hm hy]
  exact decide_eq_false (fun h => hxy (Option.some.inj h))
theorem may_eq {v : Int} {j m : Nat} (hj : j < 16) (hm : m < 16) (h : m ≠ j) : mayV (j : Int) v 0 0 (m : Int) = true := by
  have hv : viewV (j : Int) v 0 0 = true := by
    unfold viewV nodeB
    simp
    omega
  unfold mayV nodeB
  rw [hv]
  simp
  omega
theorem inC_of {n : Int} (h0 : 0 ≤ n) (h1 : n ≤ 1000) : inC n = true := by
  unfold inC
  rw [decide_eq_true h0, decide_eq_true (by omega)]
  rfl
theorem add_a {A F : Int} (hA : 0 ≤ A ∧ A ≤ 100) (hF : 0 ≤ F ∧ F ≤ 100) : clique_Add.f A F [1] = some (A + 1, F, 0) := by
  have h1 : (inC A && inC F) = true := by rw [inC_of hA.1 (by omega), inC_of hF.1 (by omega)]; rfl
  have h2 : (inC (A + 1) && inC F) = true := by rw [inC_of (n := A + 1) (by omega) (by omega), inC_of hF.1 (by omega)]; rfl
  have h3 : cntC [1] 1 = 1 := by decide
  have h4 : cntC [1] 2 = 0 := by decide
  have h5 : cntC [1] 3 = 0 := by decide
  have h6 : saysOk [1] = true := by decide
  unfold clique_Add.f addC
  rw [if_pos (show ([1] : List Int).length * 8 ≤ 140737488351232 by decide), h1, h6, h3, h4, h5, show F + 0 + 0 = F by omega, h2]
  rfl
theorem add_f {A F : Int} (hA : 0 ≤ A ∧ A ≤ 100) (hF : 0 ≤ F ∧ F ≤ 100) : clique_Add.f A F [2] = some (A, F + 1, 0) := by
  have h1 : (inC A && inC F) = true := by rw [inC_of hA.1 (by omega), inC_of hF.1 (by omega)]; rfl
  have h2 : (inC A && inC (F + 1)) = true := by rw [inC_of (n := F + 1) (by omega) (by omega), inC_of hA.1 (by omega)]; rfl
  have h3 : cntC [2] 1 = 0 := by decide
  have h4 : cntC [2] 2 = 1 := by decide
  have h5 : cntC [2] 3 = 0 := by decide
  have h6 : saysOk [2] = true := by decide
  unfold clique_Add.f addC
  rw [if_pos (show ([2] : List Int).length * 8 ≤ 140737488351232 by decide), h1, h6, h3, h4, h5, show F + 1 + 0 = F + 1 by omega, show A + 0 = A by omega, h2]
  rfl
theorem follow_same {v A F : Int} {j m : Nat} (hj : j < 16) (hm : m < 16) (h : m ≠ j) (hw : withG v (m : Int) = v) (hA : 0 ≤ A ∧ A ≤ 100) (hF : 0 ≤ F ∧ F ≤ 100) : clique_Follow.f (j : Int) v 0 0 A F (m : Int) 2 = some ((j : Int), v, 0, 0, A + 1, F, 1, 0) := by
  unfold clique_Follow.f vector_Step.f stepV
  rw [if_pos (may_eq hj hm h), if_neg (by decide), if_neg (by decide), if_pos rfl, Option.bind_some]
  simp only []
  rw [if_pos trivial, add_a hA hF, Option.bind_some, hw]
  rfl
theorem follow_other {v A F : Int} {j m : Nat} (hj : j < 16) (hm : m < 16) (h : m ≠ j) (hw : withoutG v (m : Int) = v) (hA : 0 ≤ A ∧ A ≤ 100) (hF : 0 ≤ F ∧ F ≤ 100) : clique_Follow.f (j : Int) v 0 0 A F (m : Int) 1 = some ((j : Int), v, 0, 0, A, F + 1, 2, 0) := by
  unfold clique_Follow.f vector_Step.f stepV
  rw [if_pos (may_eq hj hm h), if_neg (by decide), if_pos rfl, Option.bind_some]
  simp only []
  rw [if_pos trivial, add_f hA hF, Option.bind_some, hw]
  rfl
theorem result_same (v : Int) : vector_Result.f [v] v = some 2 := by
  unfold vector_Result.f resultV
  rw [if_pos (by simp), if_pos (by simp)]
theorem result_other {u v : Int} (h : u ≠ v) : vector_Result.f [u] v = some 1 := by
  unfold vector_Result.f resultV
  rw [if_pos (by simp), if_neg (by simp [h]), if_neg (by simp)]
theorem test_eq {A F : Int} (hA : 1 ≤ A ∧ A ≤ 100) (hF : 0 ≤ F ∧ F ≤ 100) : clique_Test.f A F = some (if A ≤ F then 191 else 0) := by
  unfold clique_Test.f clique_may.f clique_Joined.f
  rw [Option.bind_some, if_pos (by rw [inC_of (by omega) (by omega), inC_of hF.1 (by omega)]; rfl), Option.bind_some]
  rw [if_neg (by simp; omega)]
  by_cases h : A ≤ F
  · rw [if_pos h, if_pos h]
  · rw [if_neg h, if_neg h]
/-- Another party's vector is another one. -/
theorem far_vec {u v : Int} {j : Nat} (h1 : tb u j = true) (h2 : tb v j = false) : u ≠ v := by
  rintro rfl
  rw [h1] at h2
  cases h2
end Go.Proofs.Ytjdojhioifelnaa.Par
