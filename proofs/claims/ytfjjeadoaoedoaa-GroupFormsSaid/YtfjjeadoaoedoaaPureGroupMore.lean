/- Groups: what the laws of layer 3 share: a list rises; what a text is; the first example. -/
import Derived.Test.YtfjjeadoaoedoaaPureGroupRef
import Derived.Test.YtfjjeadoaoedoaaPBx1
set_option linter.unusedVariables false
set_option linter.unusedSimpArgs false
namespace Go.Proofs.Ytfjjeadoaoedoaa.Pure
open Go.RowKit Go.Proofs.Ytfjjeadoaoedoaa.Grp Go.Proofs.Ytfjjeadoaoedoaa.Hand Go.Proofs.Ytfjjeadoaoedoaa.PA Go.Proofs.Ytfjjeadoaoedoaa.PB Go.Proofs.YtfjjeadoaoedoaaW.PrintWords Go.Proofs.YtfjjeadoaoedoaaW.PrintLast Go.Proofs.YtfjjeadoaoedoaaW.PrintMore

theorem wf16' {a : Int} (h : (Lit.int .u16 a).wf = true) : G16 a := by
  simp [Lit.wf, IntKind.min, IntKind.max, IntKind.bits, IntKind.signed] at h
  constructor <;> omega
theorem wf8 {a : Int} (h : (Lit.int .u8 a).wf = true) : 0 ≤ a ∧ a ≤ 255 := by
  simp [Lit.wf, IntKind.min, IntKind.max, IntKind.bits, IntKind.signed] at h
  constructor <;> omega
theorem alive_true : vesperslaw03_alive.f 200 = some true := by decide +kernel
theorem nodes_rise : nodes.Pairwise (· < ·) := by decide +kernel
theorem list_rise {g : Int} (hg : G16 g) : (listG g).Pairwise (· < ·) := by
  rw [listG_eq hg]
  exact nodes_rise.filter _
theorem list_ne {g : Int} (hg : G16 g) (h : g ≠ 0) : listG g ≠ [] := by
  intro e
  apply h
  refine (eq_zero_iff hg).2 (fun i hi => ?_)
  rw [← has_at hi]
  cases hb : hasG g (i : Int) with
  | false => rfl
  | true =>
    have := (mem_list hg _).2 hb
    rw [e] at this
    cases this
theorem list_zero : listG 0 = [] := by decide +kernel
theorem list_inj {g h : Int} (hg : G16 g) (hh : G16 h) (e : listG g = listG h) : g = h :=
  ext_has hg hh (fun x _ _ => by rw [Bool.eq_iff_iff, ← mem_list hg, ← mem_list hh, e])
def txt (g : Int) : List UInt8 := if g = 0 then [45] else textL (listG g)
theorem Text_eq {g : Int} (hg : G16 g) : group_Text.f g = some ⟨(txt g).toArray⟩ := by
  unfold group_Text.f txt
  by_cases h : g = 0
  · subst h; rfl
  · rw [if_neg (by simpa using h), if_neg (list_ne hg h), if_neg h]
theorem dig_inj {x y : Int} (hx : 0 ≤ x ∧ x < 16) (hy : 0 ≤ y ∧ y < 16) (e : dig x = dig y) : x = y := by
  obtain ⟨a, rfl⟩ := Int.eq_ofNat_of_zero_le hx.1
  obtain ⟨b, rfl⟩ := Int.eq_ofNat_of_zero_le hy.1
  have : ∀ i j : Fin 16, dig (i.val : Int) = dig (j.val : Int) → i = j := by decide +kernel
  have := this ⟨a, by omega⟩ ⟨b, by omega⟩ e
  simp at this
  omega
theorem dig_dash {x : Int} (hx : 0 ≤ x ∧ x < 16) : dig x ≠ 45 := by
  obtain ⟨a, rfl⟩ := Int.eq_ofNat_of_zero_le hx.1
  have : ∀ i : Fin 16, dig (i.val : Int) ≠ 45 := by decide +kernel
  exact this ⟨a, by omega⟩
theorem textL_inj : ∀ {l m : List Int}, (∀ x ∈ l, 0 ≤ x ∧ x < 16) → (∀ x ∈ m, 0 ≤ x ∧ x < 16) → textL l = textL m → l = m
  | [], [], _, _, _ => rfl
  | [], y :: m, _, _, e => by simp [textL] at e
  | x :: l, [], _, _, e => by simp [textL] at e
  | x :: l, y :: m, hl, hm, e => by
    simp only [textL, List.map_cons, List.cons.injEq] at e
    rw [dig_inj (hl x (by simp)) (hm y (by simp)) e.1, textL_inj (fun z hz => hl z (by simp [hz])) (fun z hz => hm z (by simp [hz])) e.2]
theorem list_nodes {g : Int} : ∀ x ∈ listG g, 0 ≤ x ∧ x < 16 := fun x hx => list_range hx
theorem txt_zero {g : Int} (hg : G16 g) : txt g = [45] ↔ g = 0 := by
  unfold txt
  by_cases h : g = 0
  · simp [h]
  · rw [if_neg h]
    refine ⟨fun e => ?_, fun e => absurd e h⟩
    have hr := list_nodes (g := g)
    cases hl : listG g with
    | nil => exact absurd hl (list_ne hg h)
    | cons x l =>
      rw [hl] at e hr
      simp only [textL, List.map_cons, List.cons.injEq] at e
      exact absurd e.1 (dig_dash (hr x (by simp)))
theorem txt_inj {g h : Int} (hg : G16 g) (hh : G16 h) : txt g = txt h ↔ g = h := by
  refine ⟨fun e => ?_, fun e => by rw [e]⟩
  by_cases h0 : g = 0
  · rw [(txt_zero hg).2 h0] at e
    rw [h0, (txt_zero hh).1 e.symm]
  · by_cases h1 : h = 0
    · rw [(txt_zero hh).2 h1] at e
      exact absurd ((txt_zero hg).1 e) h0
    · unfold txt at e
      rw [if_neg h0, if_neg h1] at e
      exact list_inj hg hh (textL_inj list_nodes list_nodes e)
theorem txt_len {g : Int} (hg : G16 g) : ((txt g).length : Int) = mx 1 (countG g) := by
  rw [count_len hg]
  unfold txt mx
  by_cases h : g = 0
  · subst h
    rw [list_zero]
    rfl
  · rw [if_neg h]
    have := list_ne hg h
    have h1 : (listG g).length ≠ 0 := fun e => this (List.length_eq_zero_iff.1 e)
    unfold textL
    rw [List.length_map]
    split <;> omega
end Go.Proofs.Ytfjjeadoaoedoaa.Pure
