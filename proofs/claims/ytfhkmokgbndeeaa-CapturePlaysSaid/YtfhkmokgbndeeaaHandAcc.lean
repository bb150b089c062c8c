/- Which calls are taken, and what they leave; what forgetting all leaves. -/
import Derived.Test.YtfhkmokgbndeeaaHandValues
set_option linter.unusedVariables false
set_option linter.unusedSimpArgs false
namespace Go.Proofs.Ytfhkmokgbndeeaa.Hand
open Go.RowKit Go.Proofs.Ytfhkmokgbndeeaa.Cap Go.Proofs.Ytfhkmokgbndeeaa.PA Go.Proofs.Ytfhkmokgbndeeaa.PB Go.Proofs.YtfhkmokgbndeeaaW.PrintWords

def nE (m : Cp) (x : S32) : Int := noteE m x.f1 x.f2 x.f3
def nM (m : Cp) (x : S32) : Cp := noteM m x.f1 x.f2 x.f3
def accL : Cp → List S32 → List S32
  | _, [] => []
  | m, x :: l => if (nE m x == 0) = true then x :: accL (nM m x) l else accL m l
theorem nM_no {m : Cp} (hm : m.length = 32) {x : S32} (h : nE m x ≠ 0) : nM m x = m := by
  rcases noteE_cases m hm x.f1 x.f2 x.f3 with ⟨_, h2⟩ | ⟨h1, _⟩
  · exact h2
  · exact absurd h1 h
theorem nM_len (m : Cp) (x : S32) : (nM m x).length = m.length := noteM_len m _ _ _
theorem playM_cons (m : Cp) (x : S32) (l : List S32) : playM m (x :: l) = playM (nM m x) l := rfl
theorem playM_len : ∀ (l : List S32) (m : Cp), (playM m l).length = m.length
  | [], m => rfl
  | x :: l, m => by rw [playM_cons, playM_len l, nM_len]
theorem accL_cons (m : Cp) (y : S32) (l : List S32) : accL m (y :: l) = if (nE m y == 0) = true then y :: accL (nM m y) l else accL m l := rfl
theorem accL_snoc (x : S32) : ∀ (l : List S32) (m : Cp), m.length = 32 → accL m (l ++ [x]) = accL m l ++ (bif nE (playM m l) x == 0 then [x] else [])
  | [], m, hm => by cases h : (nE m x == 0) <;> simp [accL, playM, h]
  | y :: l, m, hm => by
    rw [List.cons_append, accL_cons, accL_cons, playM_cons]
    by_cases h : (nE m y == 0) = true
    · rw [if_pos h, if_pos h, accL_snoc x l _ (by rw [nM_len]; exact hm)]; rfl
    · have h' : nE m y ≠ 0 := by simpa using h
      have e := nM_no hm h'
      rw [if_neg h, if_neg h, accL_snoc x l m hm]
      generalize nM m y = m' at e ⊢
      subst e
      rfl
theorem play_acc : ∀ (l : List S32) (m : Cp), m.length = 32 → playM m (accL m l) = playM m l
  | [], m, _ => rfl
  | y :: l, m, hm => by
    simp only [accL, playM_cons]
    cases h : (nE m y == 0) with
    | true => rw [if_pos rfl, playM_cons, play_acc l _ (by rw [nM_len]; exact hm)]
    | false =>
      have h' : nE m y ≠ 0 := by simpa using h
      rw [if_neg (by simp), nM_no hm h', play_acc l m hm]
theorem acc_ok : ∀ (l : List S32) (m : Cp), m.length = 32 → ∀ k (h : k < (accL m l).length), nE (playM m ((accL m l).take k)) ((accL m l)[k]) = 0
  | [], m, _, k, h => by simp [accL] at h
  | y :: l, m, hm, k, h => by
    by_cases hy : nE m y = 0
    · have e : accL m (y :: l) = y :: accL (nM m y) l := by simp [accL, hy]
      simp only [e] at h ⊢
      cases k with
      | zero => simpa [playM] using hy
      | succ k =>
        simp only [List.take_succ_cons, playM_cons, List.getElem_cons_succ]
        exact acc_ok l _ (by rw [nM_len]; exact hm) k (by simpa using h)
    · have e : accL m (y :: l) = accL m l := by simp [accL, hy]
      simp only [e] at h ⊢
      exact acc_ok l m hm k h
theorem accL_len : ∀ (l : List S32) (m : Cp), (accL m l).length ≤ l.length
  | [], m => Nat.le_refl _
  | y :: l, m => by
    simp only [accL]
    split
    · have := accL_len l (nM m y); simp; omega
    · have := accL_len l m; simp; omega
theorem fit_play {m : Cp} (h : FitM m) (l : List S32) : FitM (playM m l) := fit_playM l m h
/-- What forgetting these nodes leaves. -/
def forgetL (m : Cp) (l : List S39) : Cp := l.foldl (fun m x => forgetM m x.f0) m
theorem forgetM_len (m : Cp) (n : Int) : (forgetM m n).length = m.length := by
  unfold forgetM
  split <;> simp
theorem byN_of (m : Cp) (n : Nat) (hn : n < 16) : (ofR m n).2 = (byN m n).2 := by
  rw [of_nat m n hn]
  rfl
theorem byN_forget {m : Cp} (hm : m.length = 32) (n k : Nat) (hn : n < 16) : (byN (forgetM m n) k).2 = if k = n then false else (byN m k).2 := by
  unfold forgetM
  rw [byN_of m n hn]
  cases hb : (byN m n).2 with
  | false =>
    rw [if_neg (by simp)]
    by_cases q : k = n
    · rw [if_pos q, q, hb]
    · rw [if_neg q]
  | true =>
    rw [if_pos rfl, Int.toNat_natCast]
    unfold byN pairN
    simp only
    rw [atS_set _ _ _ _ (by simp; omega), atS_set _ _ _ _ (by omega), atS_set _ _ _ _ (by simp; omega), atS_set _ _ _ _ (by omega)]
    by_cases q : k = n
    · subst q
      rw [if_pos rfl, if_pos rfl, if_neg (by omega), if_pos rfl]
      rfl
    · rw [if_neg q, if_neg (by omega), if_neg (by omega), if_neg (by omega), if_neg (by omega)]
theorem forgetL_snoc (m : Cp) (l : List S39) (x : S39) : forgetL m (l ++ [x]) = forgetM (forgetL m l) x.f0 := by simp [forgetL, List.foldl_append]
theorem forgetL_len : ∀ (l : List S39) (m : Cp), (forgetL m l).length = m.length
  | [], m => rfl
  | x :: l, m => by
    show (forgetL (forgetM m x.f0) l).length = _
    rw [forgetL_len l, forgetM_len]
theorem fit_forgetL : ∀ (l : List S39) (m : Cp), FitM m → FitM (forgetL m l)
  | [], m, h => h
  | x :: l, m, h => fit_forgetL l _ (h.forget _)
/-- The nodes of the list, in order. -/
def nodesL (m : Cp) (k : Nat) : List Nat := (List.range k).filter fun n => (byN m n).2
theorem devL_nodes (m : Cp) : ∀ k : Nat, devL m (List.range k) = (nodesL m k).map fun (n : Nat) => (⟨(n : Int), (byN m n).1⟩ : S39)
  | 0 => rfl
  | k + 1 => by
    unfold nodesL
    rw [List.range_succ, List.filter_append]
    cases hb : (byN m k).2 with
    | true => rw [devL_snoc_yes m _ k hb, devL_nodes m k]; simp [nodesL, hb]
    | false => rw [devL_snoc_no m _ k hb, devL_nodes m k]; simp [nodesL, hb]
theorem nodes_nodup (m : Cp) (k : Nat) : (nodesL m k).Nodup := List.Pairwise.filter _ List.nodup_range
theorem nodes_mem {m : Cp} {k n : Nat} : n ∈ nodesL m k ↔ n < k ∧ (byN m n).2 = true := by simp [nodesL]
theorem byN_forgetL {m : Cp} (hm : m.length = 32) : ∀ (l : List Nat), (∀ n ∈ l, n < 16) → ∀ k, (byN (forgetL m (l.map fun (n : Nat) => (⟨(n : Int), (byN m n).1⟩ : S39))) k).2 = if k ∈ l then false else (byN m k).2 := by
  have key : ∀ (l : List S39) (ns : List Nat) (m' : Cp), m'.length = 32 → l.map (·.f0) = ns.map (fun n : Nat => (n : Int)) → (∀ n ∈ ns, n < 16) → ∀ k, (byN (forgetL m' l) k).2 = if k ∈ ns then false else (byN m' k).2 := by
    intro l
    induction l with
    | nil =>
      intro ns m' _ h _ k
      have : ns = [] := by cases ns; rfl; simp at h
      subst this
      rfl
    | cons x l ih =>
      intro ns m' hm' h hlt k
      cases ns with
      | nil => simp at h
      | cons n ns =>
        simp only [List.map_cons, List.cons.injEq] at h
        show (byN (forgetL (forgetM m' x.f0) l) k).2 = _
        rw [ih ns (forgetM m' x.f0) (by rw [forgetM_len]; exact hm') h.2 (fun q hq => hlt q (by simp [hq])) k, h.1, byN_forget hm' n k (hlt n (by simp))]
        by_cases q : k = n
        · subst q; simp
        · simp [q]
  intro l hl k
  exact key _ l m hm (by simp) hl k
theorem forget_all {m : Cp} (hm : m.length = 32) : forgetL m (devL m (List.range 16)) = none32 := by
  refine none_of_empty _ (by rw [forgetL_len]; exact hm) ?_
  rw [devL_nodes m 16]
  unfold devL
  rw [List.filterMap_eq_nil_iff]
  intro k hk
  have hk' : k < 16 := by simpa using hk
  rw [byN_forgetL hm _ (fun n hn => (nodes_mem.1 hn).1) k]
  by_cases q : k ∈ nodesL m 16
  · rw [if_pos q]; rfl
  · rw [if_neg q]
    have : (byN m k).2 = false := by
      cases hb : (byN m k).2 with
      | false => rfl
      | true => exact absurd (nodes_mem.2 ⟨hk', hb⟩) q
    rw [this]
    rfl
/-- Ahead of each the node is there; behind it, it is not. -/
theorem forget_step {m : Cp} (hm : m.length = 32) (i : Nat) (h : i < (devL m (List.range 16)).length) :
    (ofR (forgetL m ((devL m (List.range 16)).take i)) ((devL m (List.range 16))[i]).f0).2 = true ∧ (ofR (forgetM (forgetL m ((devL m (List.range 16)).take i)) ((devL m (List.range 16))[i]).f0) ((devL m (List.range 16))[i]).f0).2 = false := by
  have e := devL_nodes m 16
  have hl : (devL m (List.range 16)).length = (nodesL m 16).length := by rw [e]; simp
  have hi : i < (nodesL m 16).length := by omega
  obtain ⟨n, hn⟩ : ∃ n, (nodesL m 16)[i] = n := ⟨_, rfl⟩
  have hmem : n ∈ nodesL m 16 := hn ▸ List.getElem_mem hi
  have hn16 := (nodes_mem.1 hmem).1
  have hf0 : ((devL m (List.range 16))[i]).f0 = (n : Int) := by simp only [e]; rw [List.getElem_map, hn]
  rw [hf0]
  have htake : (devL m (List.range 16)).take i = ((nodesL m 16).take i).map fun (n : Nat) => (⟨(n : Int), (byN m n).1⟩ : S39) := by rw [e, List.map_take]
  rw [htake]
  have hlt : ∀ q ∈ (nodesL m 16).take i, q < 16 := fun q hq => (nodes_mem.1 (List.mem_of_mem_take hq)).1
  have hb := byN_forgetL hm _ hlt n
  have hnot : n ∉ (nodesL m 16).take i := by
    intro hq
    have hnd := nodes_nodup m 16
    obtain ⟨j, hj, hjn⟩ := List.mem_take_iff_getElem.1 hq
    have : j = i := (List.getElem_inj hnd).1 (hjn.trans hn.symm)
    omega
  rw [if_neg hnot] at hb
  have hlen : (forgetL m (((nodesL m 16).take i).map fun (n : Nat) => (⟨(n : Int), (byN m n).1⟩ : S39))).length = 32 := by rw [forgetL_len]; exact hm
  refine ⟨by rw [byN_of _ n hn16, hb]; exact (nodes_mem.1 hmem).2, ?_⟩
  rw [byN_of _ n hn16, byN_forget hlen n n hn16, if_pos rfl]
theorem forgetM_idle {m : Cp} {n : Int} (h : (ofR m n).2 = false) : forgetM m n = m := by
  unfold forgetM
  rw [if_neg (by rw [h]; simp)]
end Go.Proofs.Ytfhkmokgbndeeaa.Hand
