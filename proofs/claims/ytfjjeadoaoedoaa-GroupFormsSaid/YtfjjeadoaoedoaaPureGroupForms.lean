/- GroupForms. -/
import Derived.Test.YtfjjeadoaoedoaaPureGroupForms1
set_option linter.unusedVariables false
set_option linter.unusedSimpArgs false
namespace Go.Proofs.Ytfjjeadoaoedoaa.Pure
open Go.RowKit Go.Proofs.Ytfjjeadoaoedoaa.Grp Go.Proofs.Ytfjjeadoaoedoaa.Hand Go.Proofs.Ytfjjeadoaoedoaa.PA Go.Proofs.Ytfjjeadoaoedoaa.PB Go.Proofs.Ytfjjeadoaoedoaa.PC Go.Proofs.YtfjjeadoaoedoaaW.PrintWords Go.Proofs.YtfjjeadoaoedoaaW.PrintLast Go.Proofs.YtfjjeadoaoedoaaW.PrintMore

theorem refP_text : ∀ (l : List Int) (last g : Int), l.Pairwise (· < ·) → (∀ x ∈ l, 0 ≤ x ∧ x < 16) → (∀ x ∈ l, last < x) → (l ≠ [] ∨ 0 ≤ last) → refP (textL l) last g = (l.foldl withG g, 0)
  | [], last, g, _, _, _, h => by
    have : 0 ≤ last := h.resolve_left (fun h => h rfl)
    show (if last < 0 then (0, 2) else (g, 0)) = _
    rw [if_neg (by omega)]
    rfl
  | x :: l, last, g, hr, hn, hl, _ => by
    rw [List.pairwise_cons] at hr
    have hx := hn x (List.mem_cons_self ..)
    have hd : dval (((dig x).toNat : Nat) : Int) = x := by
      obtain ⟨a, rfl⟩ := Int.eq_ofNat_of_zero_le hx.1
      exact dval_dig ⟨a, by omega⟩
    have e : textL (x :: l) = dig x :: textL l := rfl
    have hlx := hl x (List.mem_cons_self ..)
    rw [e, refP, hd, if_neg (by omega), refP_text l x _ hr.2 (fun y hy => hn y (List.mem_cons_of_mem _ hy)) hr.1 (.inr hx.1), List.foldl_cons]
theorem refP_any : ∀ (t : List UInt8) (last g : Int), -1 ≤ last → refP t last g = (0, 2) ∨ ∃ l, t = textL l ∧ l.Pairwise (· < ·) ∧ (∀ x ∈ l, 0 ≤ x ∧ x < 16) ∧ (∀ x ∈ l, last < x) ∧ (l ≠ [] ∨ 0 ≤ last) ∧ refP t last g = (l.foldl withG g, 0)
  | [], last, g, h => by
    by_cases h0 : last < 0
    · left; rw [refP, if_pos h0]
    · right; exact ⟨[], rfl, List.Pairwise.nil, by simp, by simp, .inr (by omega), by rw [refP, if_neg h0]; rfl⟩
  | b :: t, last, g, h => by
    by_cases h0 : dval ((b.toNat : Nat) : Int) ≤ last
    · left; rw [refP, if_pos h0]
    · have hf := dval_facts ⟨b.toNat, b.toNat_lt⟩
      simp only at hf
      obtain ⟨v, hv⟩ : ∃ v, dval ((b.toNat : Nat) : Int) = v := ⟨_, rfl⟩
      rw [hv] at hf h0
      have hv1 : 0 ≤ v ∧ v < 16 ∧ (dig v).toNat = b.toNat := by
        rcases hf with h1 | h1
        · omega
        · exact h1
      have hb : b = dig v := UInt8.toNat_inj.1 hv1.2.2.symm
      rw [refP, hv, if_neg h0]
      rcases refP_any t v (withG g v) (by omega) with h1 | ⟨l, h1, h2, h3, h4, h5, h6⟩
      · left; exact h1
      · right
        refine ⟨v :: l, ?_, List.pairwise_cons.2 ⟨h4, h2⟩, ?_, ?_, .inl (by simp), ?_⟩
        · rw [h1, hb]; rfl
        · intro x hx
          rcases List.mem_cons.1 hx with rfl | hx
          · exact ⟨hv1.1, hv1.2.1⟩
          · exact h3 x hx
        · intro x hx
          rcases List.mem_cons.1 hx with rfl | hx
          · omega
          · have := h4 x hx; omega
        · rw [h6, List.foldl_cons]
theorem rise_eq : ∀ {l m : List Int}, l.Pairwise (· < ·) → m.Pairwise (· < ·) → (∀ x, x ∈ l ↔ x ∈ m) → l = m
  | [], [], _, _, _ => rfl
  | [], y :: m, _, _, h => absurd ((h y).2 (List.mem_cons_self ..)) (by simp)
  | x :: l, [], _, _, h => absurd ((h x).1 (List.mem_cons_self ..)) (by simp)
  | x :: l, y :: m, hl, hm, h => by
    rw [List.pairwise_cons] at hl hm
    have e : x = y := by
      have h1 := (h x).1 (List.mem_cons_self ..)
      have h2 := (h y).2 (List.mem_cons_self ..)
      rcases List.mem_cons.1 h1 with h1 | h1
      · exact h1
      · rcases List.mem_cons.1 h2 with h2 | h2
        · exact h2.symm
        · have := hm.1 x h1; have := hl.1 y h2; omega
    subst e
    congr 1
    refine rise_eq hl.2 hm.2 (fun z => ⟨fun hz => ?_, fun hz => ?_⟩)
    · rcases List.mem_cons.1 ((h z).1 (List.mem_cons_of_mem _ hz)) with h1 | h1
      · have := hl.1 z hz; omega
      · exact h1
    · rcases List.mem_cons.1 ((h z).2 (List.mem_cons_of_mem _ hz)) with h1 | h1
      · have := hm.1 z hz; omega
      · exact h1
theorem RParse_eq (s : ByteArray) (hs : s.size ≤ 100) (k : Nat) (hk : 2000 < k) : vespersref03_Parse.f k s = group_Parse.f s := by
  have h0 := l0_ref s (by omega) s.size k 0 0 (-1) (by omega) (by omega) zero16 (by omega)
  rw [show ((0 : Nat) : Int) = 0 from rfl, List.drop_zero] at h0
  unfold vespersref03_Parse.f
  rcases Parse_any s with ⟨g, hg, hsg, hp⟩ | ⟨hno, hp⟩
  · rw [hp]
    have ht : s.toList = txt g := by rw [hsg, ByteArray.toList_mk]
    by_cases hz : g = 0
    · subst hz
      rw [if_pos (by rw [ht]; rfl)]
    · have hne : ¬ s.toList = ([45] : List UInt8) := by rw [ht]; exact fun e => hz ((txt_zero hg).1 e)
      have hd : s.data.toList = textL (listG g) := by
        rw [← ByteArray.toList_eq, ht]
        unfold txt
        rw [if_neg hz]
      rw [if_neg hne, h0, hd, refP_text (listG g) (-1) 0 (list_rise hg) list_nodes (fun x hx => by have := list_nodes x hx; omega) (.inl (list_ne hg hz))]
      obtain ⟨h1, h2⟩ := fold_with (l := listG g) zero16 list_nodes
      rw [show (listG g).foldl withG 0 = g from ext_has h1 hg (fun x _ _ => by rw [h2, has_zero, list_contains hg, Bool.false_or])]
  · rw [hp]
    have hne : ¬ s.toList = ([45] : List UInt8) := fun e => hno 0 zero16 (by rw [e]; rfl)
    rw [if_neg hne, h0]
    rcases refP_any s.data.toList (-1) 0 (by omega) with h1 | ⟨l, h1, h2, h3, _, h5, h6⟩
    · rw [h1]
    · exfalso
      obtain ⟨e1, e2⟩ := fold_with (l := l) zero16 h3
      have hl : listG (l.foldl withG 0) = l := rise_eq (list_rise e1) h2 (fun x => by
        rw [mem_list e1, e2, has_zero, Bool.false_or, List.contains_iff_mem])
      have hlne : l ≠ [] := h5.resolve_right (by omega)
      have hz : l.foldl withG 0 ≠ 0 := fun e => hlne (by rw [← hl, e, list_zero])
      refine hno _ e1 ?_
      rw [ByteArray.toList_eq, h1]
      unfold txt
      rw [if_neg hz, hl]
theorem GroupForms : vesperslaw03_GroupForms.Pure := by
  intro g l s wg _ _ _ _
  have hg := wf16' wg
  refine ⟨3000, ?_⟩
  unfold vesperslaw03_GroupForms.f
  by_cases hl : (l.length : Int) > 50
  · rw [if_pos hl, vesperslaw03_GroupForms.j0, if_pos rfl]
  · rw [if_neg hl]
    by_cases hs : (s.size : Int) > 100
    · rw [decide_eq_true hs, vesperslaw03_GroupForms.j0, if_pos rfl]
    · rw [decide_eq_false hs]
      obtain ⟨r, o1, o2⟩ := Of_both l (by omega) l.length 2999 0 0 zero16 (by omega) (by omega)
      rw [show ((0 : Nat) : Int) = 0 from rfl] at o1 o2
      have p1 : group_Of.f 2999 l = some r := o1
      have p2 : vespersref03_Of.f 2999 l = some r := o2
      obtain ⟨q, hq⟩ : ∃ q, group_Parse.f s = some q := by
        rcases Parse_any s with ⟨g', _, _, hp⟩ | ⟨_, hp⟩
        · exact ⟨_, hp⟩
        · exact ⟨_, hp⟩
      have hq2 := (RParse_eq s (by omega) 2999 (by omega)).trans hq
      rw [vesperslaw03_GroupForms.j0, if_neg (by simp), Option.bind_some, if_pos (by simp; omega), Option.bind_some, List.nil_append, p1, Option.bind_some, p2, Option.bind_some, hq, Option.bind_some, hq2, Option.bind_some, if_pos rfl, if_pos rfl, Text_eq hg, Option.bind_some, RText_eq hg 2999 (by omega), Option.bind_some, if_pos rfl, if_pos rfl, if_pos rfl, Ints_self l 2999 (by omega) (by omega), Option.bind_some]
end Go.Proofs.Ytfjjeadoaoedoaa.Pure
