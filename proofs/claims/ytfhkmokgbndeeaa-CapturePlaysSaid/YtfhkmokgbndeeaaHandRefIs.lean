/- The reference's list told by the 32 slots. -/
import Derived.Test.YtfhkmokgbndeeaaHandRef2
set_option linter.unusedVariables false
set_option linter.unusedSimpArgs false
namespace Go.Proofs.Ytfhkmokgbndeeaa.Hand
open Go.RowKit Go.Proofs.Ytfhkmokgbndeeaa.Cap Go.Proofs.Ytfhkmokgbndeeaa.PA Go.Proofs.Ytfhkmokgbndeeaa.PB Go.Proofs.YtfhkmokgbndeeaaW.PrintWords
open Go.Proofs.Ytfhkmokgbndeeaa.PC (S68 k68 z68 rd_T68 at_T68 k68_mkM)

def sl (x : S68) : Nat := slotN x.f0.toNat x.f1.toNat
structure RefIs (m : Cp) (l : List S68) : Prop where
  len : m.length = 32
  ok : ∀ x ∈ l, okN x.f0 x.f1 x.f2 = true
  at_ : ∀ x ∈ l, atS m (sl x) = some x.f2
  nodup : (l.map sl).Nodup
  all : ∀ j y, atS m j = some y → ∃ x ∈ l, sl x = j
theorem nodup_lt : ∀ (N : Nat) (l : List Nat), l.Nodup → (∀ x ∈ l, x < N) → l.length ≤ N
  | 0, l, _, h => by
    cases l with
    | nil => simp
    | cons x l => exact absurd (h x (by simp)) (Nat.not_lt_zero _)
  | N + 1, l, hn, h => by
    by_cases q : N ∈ l
    · have h1 := nodup_lt N (l.erase N) (hn.erase N) (fun x hx => by
        have h2 := (hn.mem_erase_iff).1 hx
        have := h x h2.2
        have h3 := h2.1
        omega)
      rw [List.length_erase_of_mem q] at h1
      omega
    · have h1 := nodup_lt N l hn (fun x hx => by
        have := h x hx
        have h3 : x ≠ N := fun e => q (e ▸ hx)
        omega)
      omega
theorem okN_b {n c b : Int} (h : okN n c b = true) : 0 ≤ n ∧ n < 16 ∧ 0 ≤ c ∧ c < 2 ∧ -4294967296 ≤ b ∧ b ≤ 4294967296 := by simpa [okN] using h
theorem sl_lt {x : S68} (h : okN x.f0 x.f1 x.f2 = true) : sl x < 32 := by
  have := okN_b h
  unfold sl slotN
  omega
theorem RefIs.length {m : Cp} {l : List S68} (h : RefIs m l) : l.length ≤ 32 := by
  have := nodup_lt 32 (l.map sl) h.nodup (fun j hj => by obtain ⟨x, hx, rfl⟩ := List.mem_map.1 hj; exact sl_lt (h.ok x hx))
  simpa using this
theorem RefIs.fit {m : Cp} {l : List S68} (h : RefIs m l) : FitL l := ⟨fun x hx => by have := okN_b (h.ok x hx); omega, by have := h.length; omega⟩
theorem none_refIs : RefIs none32 [] := ⟨rfl, by simp, by simp, by simp, fun j y h => by rw [none_at] at h; cases h⟩
theorem filt_two {m : Cp} {l : List S68} (h : RefIs m l) (n : Int) : (l.filter (fun x => x.f0 == n)).length ≤ 2 := by
  by_cases hn : 0 ≤ n ∧ n < 16
  · have hnd : ((l.filter (fun x => x.f0 == n)).map sl).Nodup := h.nodup.sublist (List.Sublist.map sl List.filter_sublist)
    have h2 := nodup_lt 2 (((l.filter (fun x => x.f0 == n)).map sl).map (fun j => j - 2 * n.toNat)) (by
      refine List.Pairwise.map _ ?_ (List.Pairwise.and_mem.1 hnd)
      rintro a b ⟨ha, hb, hab⟩
      obtain ⟨x, hx, rfl⟩ := List.mem_map.1 ha
      obtain ⟨y, hy, rfl⟩ := List.mem_map.1 hb
      have hx1 := (List.mem_filter.1 hx)
      have hy1 := (List.mem_filter.1 hy)
      have e1 : x.f0 = n := by simpa using hx1.2
      have e2 : y.f0 = n := by simpa using hy1.2
      unfold sl slotN at hab ⊢
      omega) (fun j hj => by
      obtain ⟨k, hk, rfl⟩ := List.mem_map.1 hj
      obtain ⟨x, hx, rfl⟩ := List.mem_map.1 hk
      have hx1 := (List.mem_filter.1 hx)
      have e1 : x.f0 = n := by simpa using hx1.2
      have := okN_b (h.ok x hx1.1)
      unfold sl slotN
      omega)
    simpa using h2
  · have : l.filter (fun x => x.f0 == n) = [] := by
      rw [List.filter_eq_nil_iff]
      intro x hx
      have := okN_b (h.ok x hx)
      simp only [beq_iff_eq]
      omega
    rw [this]
    simp
theorem RefIs.of {m : Cp} {l : List S68} (h : RefIs m l) (n : Nat) (hn : n < 16) : ofL l n = byN m n := by
  have h2 := filt_two h n
  have hnd : ((l.filter (fun x => x.f0 == (n : Int))).map sl).Nodup := h.nodup.sublist (List.Sublist.map sl List.filter_sublist)
  have hin : ∀ x, x ∈ l.filter (fun x => x.f0 == (n : Int)) ↔ x ∈ l ∧ x.f0 = n := by intro x; simp [List.mem_filter]
  have hex : ∀ c, c < 2 → ∀ y, atS m (2 * n + c) = some y → ∃ x ∈ l.filter (fun x => x.f0 == (n : Int)), sl x = 2 * n + c := by
    intro c hc y hy
    obtain ⟨x, hx, hs⟩ := h.all _ y hy
    have hb := okN_b (h.ok x hx)
    exact ⟨x, (hin x).2 ⟨hx, by unfold sl slotN at hs; omega⟩, hs⟩
  have hme : ∀ x ∈ l.filter (fun x => x.f0 == (n : Int)), (sl x = 2 * n ∨ sl x = 2 * n + 1) ∧ atS m (sl x) = some x.f2 := by
    intro x hx
    obtain ⟨hx1, hx2⟩ := (hin x).1 hx
    have hb := okN_b (h.ok x hx1)
    exact ⟨by unfold sl slotN; omega, h.at_ x hx1⟩
  unfold ofL manyP sumP byN pairN
  clear hin
  generalize l.filter (fun x => x.f0 == (n : Int)) = F at h2 hnd hex hme
  have h0 := hex 0 (by omega)
  have h1 := hex 1 (by omega)
  rw [Nat.add_zero] at h0
  match F, h2, hnd, h0, h1, hme with
  | [], _, _, h0, h1, _ =>
    have e0 : atS m (2 * n) = none := by
      cases q : atS m (2 * n) with
      | none => rfl
      | some y => obtain ⟨x, hx, _⟩ := h0 y q; simp at hx
    have e1 : atS m (2 * n + 1) = none := by
      cases q : atS m (2 * n + 1) with
      | none => rfl
      | some y => obtain ⟨x, hx, _⟩ := h1 y q; simp at hx
    rw [e0, e1]
    rfl
  | [x], _, _, h0, h1, hme =>
    obtain ⟨hs, ha⟩ := hme x (by simp)
    rcases hs with hs | hs
    · have e1 : atS m (2 * n + 1) = none := by
        cases q : atS m (2 * n + 1) with
        | none => rfl
        | some y => obtain ⟨z, hz, hz2⟩ := h1 y q; simp at hz; subst hz; omega
      rw [hs] at ha
      simp only [ha, e1]
      simp [byR]
    · have e1 : atS m (2 * n) = none := by
        cases q : atS m (2 * n) with
        | none => rfl
        | some y => obtain ⟨z, hz, hz2⟩ := h0 y q; simp at hz; subst hz; omega
      rw [hs] at ha
      simp only [ha, e1]
      simp [byR]
  | [x, y], _, hnd, _, _, hme =>
    obtain ⟨hs, ha⟩ := hme x (by simp)
    obtain ⟨ht, hb⟩ := hme y (by simp)
    have hne : sl x ≠ sl y := by simpa using hnd
    rcases hs with hs | hs <;> rcases ht with ht | ht
    · omega
    · rw [hs] at ha
      rw [ht] at hb
      simp only [ha, hb]
      simp [byR]
    · rw [hs] at ha
      rw [ht] at hb
      simp only [ha, hb]
      simp [byR, Int.add_comm]
    · omega
  | x :: y :: z :: t, h2, _, _, _, _ => simp at h2
theorem RefIs.toOf {m : Cp} {l : List S68} (h : RefIs m l) : RefOf m l := ⟨h.fit, fun n => filt_two h n, fun n hn => h.of n hn⟩
theorem RefIs.has {m : Cp} {l : List S68} (h : RefIs m l) {x : S68} (hx : x ∈ l) {n c b : Int} (e1 : x.f0 = n) (e2 : x.f1 = c) : noteE m n c b = 130 ∧ noteM m n c b = m := by
  have ha := h.at_ x hx
  unfold sl at ha
  rw [e1, e2] at ha
  unfold noteE noteM
  rw [if_neg (by rw [ha]; rintro ⟨_, q⟩; cases q), if_neg (by rw [ha]; rintro ⟨_, q⟩; cases q)]
  exact ⟨rfl, rfl⟩
theorem RefIs.add {m : Cp} {l : List S68} (h : RefIs m l) {n c b : Int} (ho : okN n c b = true) (hno : ∀ x ∈ l, ¬ (x.f0 = n ∧ x.f1 = c)) : noteE m n c b = 0 ∧ RefIs (noteM m n c b) (l ++ [⟨n, c, b⟩]) := by
  have hb := okN_b ho
  have hfree : ∀ x ∈ l, sl x ≠ slotN n.toNat c.toNat := by
    intro x hx e
    have hbx := okN_b (h.ok x hx)
    unfold sl slotN at e
    exact hno x hx ⟨by omega, by omega⟩
  have hn : atS m (slotN n.toNat c.toNat) = none := by
    cases q : atS m (slotN n.toNat c.toNat) with
    | none => rfl
    | some y => obtain ⟨x, hx, hs⟩ := h.all _ y q; exact absurd hs (hfree x hx)
  have hlt : slotN n.toNat c.toNat < m.length := by rw [h.len]; unfold slotN; omega
  unfold noteE noteM
  rw [if_pos ⟨ho, hn⟩, if_pos ⟨ho, hn⟩]
  refine ⟨rfl, by simp [h.len], ?_, ?_, ?_, ?_⟩
  · intro x hx
    rcases List.mem_append.1 hx with hx | hx
    · exact h.ok x hx
    · simp at hx; subst hx; exact ho
  · intro x hx
    rw [atS_set _ _ _ _ hlt]
    rcases List.mem_append.1 hx with hx | hx
    · rw [if_neg (hfree x hx)]; exact h.at_ x hx
    · simp at hx; subst hx; rw [if_pos (show sl ⟨n, c, b⟩ = slotN n.toNat c.toNat from rfl)]
  · rw [List.map_append, List.nodup_append]
    refine ⟨h.nodup, by simp, ?_⟩
    intro a ha b hb'
    obtain ⟨x, hx, rfl⟩ := List.mem_map.1 ha
    simp at hb'
    subst hb'
    exact hfree x hx
  · intro j y hy
    rw [atS_set _ _ _ _ hlt] at hy
    split at hy
    · rename_i hj
      exact ⟨⟨n, c, b⟩, by simp, hj.symm⟩
    · obtain ⟨x, hx, hs⟩ := h.all j y hy
      exact ⟨x, List.mem_append_left _ hx, hs⟩
theorem RefIs.drop {m : Cp} {l : List S68} (h : RefIs m l) (n : Int) : RefIs (forgetM m n) (l.filter (fun x => !(x.f0 == n))) := by
  have hl2 := h.len
  by_cases hn : 0 ≤ n ∧ n < 16
  · obtain ⟨k, rfl⟩ := Int.eq_ofNat_of_zero_le hn.1
    have hk : k < 16 := by omega
    have key : ∀ j, atS (forgetM m (k : Int)) j = if j = 2 * k ∨ j = 2 * k + 1 then none else atS m j := by
      intro j
      unfold forgetM
      rw [byN_of m k hk]
      cases hb : (byN m k).2 with
      | true =>
        rw [if_pos rfl, Int.toNat_natCast, atS_set _ _ _ _ (by simp; omega), atS_set _ _ _ _ (by omega)]
        by_cases j1 : j = 2 * k + 1
        · rw [if_pos j1, if_pos (.inr j1)]
        · rw [if_neg j1]
          by_cases j0 : j = 2 * k
          · rw [if_pos j0, if_pos (.inl j0)]
          · rw [if_neg j0, if_neg (by rintro (q | q); exact j0 q; exact j1 q)]
      | false =>
        rw [if_neg (by simp)]
        by_cases q : j = 2 * k ∨ j = 2 * k + 1
        · rw [if_pos q]
          unfold byN pairN at hb
          simp only at hb
          cases q1 : atS m (2 * k) with
          | some y => rw [q1] at hb; cases q2 : atS m (2 * k + 1) <;> rw [q2] at hb <;> simp [byR] at hb
          | none =>
            cases q2 : atS m (2 * k + 1) with
            | some y => rw [q1, q2] at hb; simp [byR] at hb
            | none =>
              rcases q with q | q
              · rw [q, q1]
              · rw [q, q2]
        · rw [if_neg q]
    have hin : ∀ x, x ∈ l.filter (fun x => !(x.f0 == (k : Int))) ↔ x ∈ l ∧ ¬ x.f0 = k := by intro x; simp [List.mem_filter]
    refine ⟨by rw [forgetM_len]; exact hl2, fun x hx => h.ok x ((hin x).1 hx).1, ?_, h.nodup.sublist (List.Sublist.map sl List.filter_sublist), ?_⟩
    · intro x hx
      obtain ⟨hx1, hx2⟩ := (hin x).1 hx
      have hb := okN_b (h.ok x hx1)
      rw [key, if_neg (by unfold sl slotN; omega)]
      exact h.at_ x hx1
    · intro j y hy
      rw [key] at hy
      split at hy
      · cases hy
      · rename_i hj
        obtain ⟨x, hx, hs⟩ := h.all j y hy
        have hb := okN_b (h.ok x hx)
        exact ⟨x, (hin x).2 ⟨hx, fun e => hj (by unfold sl slotN at hs; omega)⟩, hs⟩
  · have e1 : forgetM m n = m := by
      refine forgetM_idle ?_
      unfold ofR
      rw [if_neg hn]
    have e2 : l.filter (fun x => !(x.f0 == n)) = l := by
      rw [List.filter_eq_self]
      intro x hx
      have hb := okN_b (h.ok x hx)
      have : ¬ x.f0 = n := by omega
      simp [this]
    rw [e1, e2]
    exact h
end Go.Proofs.Ytfhkmokgbndeeaa.Hand
