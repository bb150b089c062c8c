/- What group.Parse computes of a text of a group. -/
import Derived.Test.YtfjjeadoaoedoaaPureGroupMore
import Derived.Test.YtfjjeadoaoedoaaHandParse
set_option linter.unusedVariables false
set_option linter.unusedSimpArgs false
namespace Go.Proofs.Ytfjjeadoaoedoaa.Pure
open Go.RowKit Go.Proofs.Ytfjjeadoaoedoaa.Grp Go.Proofs.Ytfjjeadoaoedoaa.Hand Go.Proofs.Ytfjjeadoaoedoaa.PA Go.Proofs.Ytfjjeadoaoedoaa.PB Go.Proofs.YtfjjeadoaoedoaaW.PrintWords Go.Proofs.YtfjjeadoaoedoaaW.PrintLast Go.Proofs.YtfjjeadoaoedoaaW.PrintMore

theorem idx_dig {x : Int} (hx : 0 ≤ x ∧ x < 16) : idxOf (((dig x).toNat : Nat) : Int) = x ∧ (dig x).toNat < 128 ∧ (dig x).toNat ≠ 45 := by
  obtain ⟨a, rfl⟩ := Int.eq_ofNat_of_zero_le hx.1
  have : ∀ i : Fin 16, idxOf (((dig (i.val : Int)).toNat : Nat) : Int) = (i.val : Int) ∧ (dig (i.val : Int)).toNat < 128 ∧ (dig (i.val : Int)).toNat ≠ 45 := by decide +kernel
  exact this ⟨a, by omega⟩
theorem fold_text (l : List Int) (hl : ∀ x ∈ l, 0 ≤ x ∧ x < 16) : ∀ d, ∀ (f pos : Nat) (g : Int), pos + d = l.length → d ≤ f → foldG ⟨(textL l).toArray⟩ f pos g = (l.drop pos).foldl withG g := by
  have hsz : (⟨(textL l).toArray⟩ : ByteArray).size = l.length := by
    show (textL l).toArray.size = l.length
    simp [textL]
  intro d
  induction d with
  | zero =>
    intro f pos g hp hf
    rw [fold_end _ f pos g (by omega), List.drop_eq_nil_of_le (by omega)]
    rfl
  | succ d ih =>
    intro f pos g hp hf
    obtain ⟨f, rfl⟩ : ∃ m, f = m + 1 := ⟨f - 1, by omega⟩
    have hlt : pos < l.length := by omega
    have hx := hl l[pos] (List.getElem_mem hlt)
    obtain ⟨h1, h2, h3⟩ := idx_dig hx
    have hb : ∀ h : pos < (⟨(textL l).toArray⟩ : ByteArray).size, ((⟨(textL l).toArray⟩ : ByteArray)[pos]'h) = dig l[pos] := by
      intro h
      show (textL l).toArray[pos] = _
      simp [textL]
    have hd := decode_ascii ⟨(textL l).toArray⟩ pos (by omega) (by rw [hb]; exact h2)
    rw [hb] at hd
    rw [foldG, if_pos (by omega), hd]
    simp only
    rw [if_neg h3, h1, ih f (pos + 1) _ (by omega) (by omega), List.drop_eq_getElem_cons hlt, List.foldl_cons]
theorem fold_with {l : List Int} : ∀ {g : Int}, G16 g → (∀ x ∈ l, 0 ≤ x ∧ x < 16) → G16 (l.foldl withG g) ∧ ∀ x, hasG (l.foldl withG g) x = (hasG g x || l.contains x) := by
  induction l with
  | nil => intro g hg _; exact ⟨hg, fun x => by simp⟩
  | cons y l ih =>
    intro g hg hl
    obtain ⟨h1, h2⟩ := ih (with_g16 hg y) (fun x hx => hl x (List.mem_cons_of_mem _ hx))
    refine ⟨h1, fun x => ?_⟩
    rw [List.foldl_cons, h2, has_with hg, List.contains_cons]
    by_cases e : x = y
    · subst e
      have := hl x (List.mem_cons_self ..)
      simp [this]
    · have : (x == y) = false := by simpa using e
      simp [e, this]
theorem parsed_txt {g : Int} (hg : G16 g) : parsed ⟨(txt g).toArray⟩ = g := by
  by_cases h : g = 0
  · subst h
    decide +kernel
  · unfold txt
    rw [if_neg h]
    have hsz : (⟨(textL (listG g)).toArray⟩ : ByteArray).size = (listG g).length := by
      show (textL (listG g)).toArray.size = _
      simp [textL]
    unfold parsed
    rw [hsz, fold_text (listG g) list_nodes (listG g).length (listG g).length 0 0 (by omega) (Nat.le_refl _), List.drop_zero]
    obtain ⟨h1, h2⟩ := fold_with (l := listG g) zero16 list_nodes
    exact ext_has h1 hg (fun x _ _ => by rw [h2, has_zero, list_contains hg, Bool.false_or])
theorem Parse_txt {g : Int} (hg : G16 g) : group_Parse.f ⟨(txt g).toArray⟩ = some (g, 0) := by
  unfold group_Parse.f
  rw [parsed_txt hg, Text_eq hg, Option.bind_some, if_pos (by rw [beq_self_eq_true])]
theorem fold_g16 (s : ByteArray) : ∀ (f pos : Nat) (g : Int), G16 g → G16 (foldG s f pos g)
  | 0, _, _, h => h
  | f + 1, pos, g, h => by
    unfold foldG
    split
    · refine fold_g16 s f _ _ ?_
      split
      · exact h
      · exact with_g16 h _
    · exact h
theorem parsed_g16 (s : ByteArray) : G16 (parsed s) := fold_g16 s _ _ _ zero16
/-- Any text: either the text of a group, or none. -/
theorem Parse_any (s : ByteArray) : (∃ g, G16 g ∧ s = ⟨(txt g).toArray⟩ ∧ group_Parse.f s = some (g, 0)) ∨ ((∀ g, G16 g → s.toList ≠ txt g) ∧ group_Parse.f s = some (0, 2)) := by
  have hp := parsed_g16 s
  by_cases h : (⟨(txt (parsed s)).toArray⟩ : ByteArray).toList = s.toList
  · refine .inl ⟨parsed s, hp, ?_, ?_⟩
    · rw [ByteArray.toList_eq, ByteArray.toList_eq] at h
      exact (Go.WideShapes.bytes_inj h).symm
    · unfold group_Parse.f
      rw [Text_eq hp, Option.bind_some, if_pos (beq_iff_eq.2 h)]
  · refine .inr ⟨fun g hg e => ?_, ?_⟩
    · apply h
      have e2 : s = ⟨(txt g).toArray⟩ := by
        refine Go.WideShapes.bytes_inj ?_
        rw [← ByteArray.toList_eq, e]
      rw [e2, parsed_txt hg]
    · unfold group_Parse.f
      rw [Text_eq hp, Option.bind_some, if_neg (by simpa using h)]
end Go.Proofs.Ytfjjeadoaoedoaa.Pure
