/- What 'protocol.leads' and 'protocol.Next' compute, by hand: a map literal whose entries are laid in any order, a loop that stores, a look-up. -/
import Derived.Test.YtbbiihifhdcniaaDoorProto0
import Derived.Test.YtbbiihifhdcniaaDoorHandInv
set_option linter.unusedVariables false
set_option linter.unusedSimpArgs false
namespace Go.Proofs.YtbbiihifhdcniaaDoor.Hand
open Go.RowKit Go.Maps

abbrev DU := DataW Unit
def Reads (D : DU) (f : Int → Int → Option Int) : Prop := IsMap D ∧
  (∀ s e, fitI s → fitI e → has D (stepK s e) = (f s e).isSome ∧ ∀ z, D.atKey (stepK s e) z = match f s e with | some t => .lit (.int .i64 t) | none => z) ∧
  (∀ kl, has D kl = true → ∃ s e, fitI s ∧ fitI e ∧ kl = stepK s e)
theorem Reads.empty : Reads (.map []) (fun _ _ => none) := ⟨isMap_empty, fun s e _ _ => ⟨rfl, fun z => rfl⟩, fun kl h => by simp [has] at h⟩
theorem Reads.put {D : DU} {f : Int → Int → Option Int} (h : Reads D f) {s e : Int} (hs : fitI s) (he : fitI e) (t : Int) : Reads (D.put (stepK s e) (.lit (.int .i64 t))) (fun s' e' => if s' = s ∧ e' = e then some t else f s' e') := by
  refine ⟨h.1.put _ _, fun s' e' hs' he' => ?_, fun kl hk => ?_⟩
  · by_cases hq : s' = s ∧ e' = e
    · obtain ⟨rfl, rfl⟩ := hq
      simp only [and_self, if_true]
      exact ⟨has_put_same h.1 (stepK_key _ _) _, fun z => atKey_put_same h.1 (stepK_key _ _) _ _⟩
    · have hne : stepK s' e' ≠ stepK s e := fun q => hq (stepK_inj hs' he' hs he q)
      simp only [if_neg hq]
      exact ⟨(has_put_other hne _).trans (h.2.1 s' e' hs' he').1, fun z => (atKey_put_other hne _ _).trans ((h.2.1 s' e' hs' he').2 z)⟩
  · by_cases hq : kl = stepK s e
    · exact ⟨s, e, hs, he, hq⟩
    · exact h.2.2 kl ((has_put_other hq _).symm.trans hk)
theorem Reads.congr {D : DU} {f g : Int → Int → Option Int} (h : Reads D f) (e : ∀ s e, f s e = g s e) : Reads D g := by
  have : f = g := funext fun s => funext fun t => e s t
  exact this ▸ h

def litS (j : Nat) : Int := [0, 1, 2, 2, 2, 3, 3, 3, 4, 6, 6].getD j 0
def litE (j : Nat) : Int := [0, 2, 3, 4, 5, 3, 6, 7, 8, 0, 1].getD j 0
def litT (j : Nat) : Int := [1, 2, 3, 4, 4, 3, 5, 2, 5, 1, 0].getD j 0
def keyIdx (s e : Int) : Option Nat := (List.range 11).find? fun j => litS j == s && litE j == e
theorem keyIdx_at : ∀ j : Fin 11, keyIdx (litS j) (litE j) = some j.1 := by decide
theorem keyIdx_some {s e : Int} {j : Nat} (h : keyIdx s e = some j) : litS j = s ∧ litE j = e := by
  have := List.find?_some h
  simpa using this
def FL (listed : Array Bool) (s e : Int) : Option Int := match keyIdx s e with | some j => if listed.getD (2 * j + 2) false = true then some (litT j) else none | none => none
theorem getD_set (l : Array Bool) (i k : Nat) (hi : i < l.size) : (l.setIfInBounds i true).getD k false = if k = i then true else l.getD k false := by
  by_cases h : k = i
  · subst h
    simp [Array.getD, hi]
  · have h2 : i ≠ k := fun q => h q.symm
    simp [Array.getD_eq_getD_getElem?, Array.getElem?_setIfInBounds, h, h2]
theorem FL_put {l : Array Bool} (hl : l.size = 25) (j : Nat) (hj : j < 11) (s e : Int) : (if s = litS j ∧ e = litE j then some (litT j) else FL l s e) = FL (l.setIfInBounds (2 * j + 2) true) s e := by
  unfold FL
  by_cases hq : s = litS j ∧ e = litE j
  · obtain ⟨rfl, rfl⟩ := hq
    rw [keyIdx_at ⟨j, hj⟩]
    simp only [and_self, if_true]
    rw [getD_set l _ _ (by omega), if_pos rfl, if_pos rfl]
  · rw [if_neg hq]
    cases hk : keyIdx s e with
    | none => rfl
    | some i =>
      have := keyIdx_some hk
      simp only
      rw [getD_set l _ _ (by omega)]
      have hij : i ≠ j := fun q => hq ⟨by rw [← this.1, q], by rw [← this.2, q]⟩
      rw [if_neg (by omega : ¬ 2 * i + 2 = 2 * j + 2)]
theorem FL_stay {l : Array Bool} (hl : l.size = 25) (i : Nat) (hi : i < 25) (hne : ∀ j, j < 11 → i ≠ 2 * j + 2) (s e : Int) : FL l s e = FL (l.setIfInBounds i true) s e := by
  unfold FL
  cases hk : keyIdx s e with
  | none => rfl
  | some j =>
    have hj : j < 11 := by have := List.mem_of_find?_eq_some hk; simpa using this
    simp only
    rw [getD_set l _ _ (by omega), if_neg (fun q : 2 * j + 2 = i => hne j hj q.symm)]
theorem FL_none {l : Array Bool} (h : ∀ j, j < 11 → l.getD (2 * j + 2) false = false) (s e : Int) : FL l s e = none := by
  unfold FL
  cases hk : keyIdx s e with
  | none => rfl
  | some j =>
    have hj : j < 11 := by have := List.mem_of_find?_eq_some hk; simpa using this
    simp only
    rw [h j hj, if_neg (by decide)]
def litF (s e : Int) : Option Int := match keyIdx s e with | some j => some (litT j) | none => none
theorem FL_all {l : Array Bool} (h : ∀ j, j < 11 → l.getD (2 * j + 2) false = true) (s e : Int) : FL l s e = litF s e := by
  unfold FL litF
  cases hk : keyIdx s e with
  | none => rfl
  | some j =>
    have hj : j < 11 := by have := List.mem_of_find?_eq_some hk; simpa using this
    simp only
    rw [h j hj, if_pos rfl]
def unl (l : Array Bool) : Nat := (l.toList.filter (fun b => !b)).length
theorem unl_set (l : Array Bool) (i : Nat) (hi : i < l.size) (h : l.getD i true = false) : unl (l.setIfInBounds i true) + 1 = unl l := by
  have hget : l[i] = false := by simpa [Array.getD, hi] using h
  have key : ∀ (l : List Bool) (j : Nat) (hj : j < l.length), l[j] = false → ((l.set j true).filter (fun b => !b)).length + 1 = (l.filter (fun b => !b)).length := by
    intro l
    induction l with
    | nil => intro j hj; simp at hj
    | cons b t ih =>
      intro j hj hb
      cases j with
      | zero =>
        obtain rfl : b = false := by simpa using hb
        simp
      | succ j =>
        have := ih j (by simpa using hj) (by simpa using hb)
        cases b <;> simp at this ⊢ <;> omega
  unfold unl
  rw [Array.toList_setIfInBounds]
  exact key l.toList i (by simpa using hi) (by simpa using hget)

/-- What stands when these operations have been listed. -/
structure LI (W0 : World) (listed : Array Bool) (A : Act) (W : World) : Prop where
  sz : listed.size = 25
  tsz : A.tmps.size = 27
  df : A.defers = []
  bl : ∀ j, j < 11 → listed.getD (2 * j + 1) false = true → A.tmps.getD (4 + j) undef = stepV (litS j) (litE j)
  made : listed.getD 0 false = true → A.tmps.getD 3 undef = .map (some W0.heap.size) ∧ ∃ D n, W.ownsMap Tryd.prog 45 (plainElem (H := Unit) Tryd.prog 3) W0.heap.size n D ∧ n + unl listed ≤ 25 ∧ Reads D (FL listed) ∧ Below W0.heap.size W0 W
  no : listed.getD 0 false = false → W = W0 ∧ ∀ j, j < 11 → listed.getD (2 * j + 2) false = false
  mv : listed.getD 23 false = true → A.tmps.getD 15 undef = .map (some W0.heap.size)
  asgn : listed.getD 24 false = true → A.tmps.getD 1 undef = .map (some W0.heap.size)
theorem tmp_put (A : Act) (d : Nat) (v : Value) (k : Nat) (hd : d < A.tmps.size) : (A.put (some d) v).tmps.getD k undef = if k = d then v else A.tmps.getD k undef := by
  unfold Act.put
  by_cases h : k = d
  · subst h
    simp [Array.getD, hd]
  · have h2 : d ≠ k := fun q => h q.symm
    simp [Array.getD_eq_getD_getElem?, Array.getElem?_setIfInBounds, h, h2]
theorem size_put_ (A : Act) (d : Option Tmp) (v : Value) : (A.put d v).tmps.size = A.tmps.size := by
  unfold Act.put
  cases d <;> simp
theorem defers_put_ (A : Act) (d : Option Tmp) (v : Value) : (A.put d v).defers = A.defers := by
  unfold Act.put
  cases d <;> rfl
theorem eval_tmp_ (A : Act) (k : Nat) : A.eval (.tmp k) = A.tmps.getD k undef := rfl
section
variable {ops : Array Oper} {Q : Exit → Act → World → Prop} {K : Act → World → Prop} {i : Nat} {o : Oper} {A : Act} {W : World}
theorem wpOp_val (ho : ops[i]? = some o) (hg : o.guard = none) {v : Value} {W' : World} (hr : (execOp A.eval o).run Tryd.prog W = .ok (.value v) W') (hK : K (A.put o.dst v) W') : wpOp Tryd.prog ops Q i K A W := by
  unfold wpOp
  simp only [ho]
  rw [if_pos (by simp [Region.wanted, hg])]
  refine .inl ?_
  unfold Oper.wp
  rw [hr]
  exact hK
theorem wpOp_skip (ho : ops[i]? = some o) (hg : o.guard = none) {W' : World} (hr : (execOp A.eval o).run Tryd.prog W = .ok .skip W') (hK : K (A.put o.dst undef) W') : wpOp Tryd.prog ops Q i K A W := by
  unfold wpOp
  simp only [ho]
  rw [if_pos (by simp [Region.wanted, hg])]
  refine .inl ?_
  unfold Oper.wp
  rw [hr]
  exact hK
end
theorem LI.make {W0 W : World} {listed : Array Bool} {A : Act} (h : LI W0 listed A W) (h0 : listed.getD 0 true = false) : LI W0 (listed.setIfInBounds 0 true) (A.put (some 3) (.map (some W.heap.size))) (W.alloc (.map #[] 0)) := by
  have h0' : listed.getD 0 false = false := by have := h.sz; simp [Array.getD, this] at h0 ⊢; exact h0
  obtain ⟨rfl, hno⟩ := h.no h0'
  have hu := unl_set listed 0 (by have := h.sz; omega) h0
  refine ⟨by simp [h.sz], by rw [size_put_]; exact h.tsz, by rw [defers_put_]; exact h.df, ?_, ?_, ?_, ?_, ?_⟩
  · intro j hj hl
    rw [getD_set _ _ _ (by have := h.sz; omega), if_neg (by omega)] at hl
    rw [tmp_put _ _ _ _ (by have := h.tsz; omega), if_neg (by omega)]
    exact h.bl j hj hl
  · intro _
    refine ⟨by rw [tmp_put _ _ _ _ (by have := h.tsz; omega), if_pos rfl], _, 0, World.ownsMap_made _ _ _ _, ?_, ?_, (Below.refl _ _).alloc (Nat.le_refl _) _⟩
    · have : unl listed ≤ 25 := by have := List.length_filter_le (fun b => !b) listed.toList; have h2 := h.sz; unfold unl; simp at this ⊢; omega
      omega
    · refine Reads.empty.congr fun s e => ?_
      rw [← FL_stay h.sz 0 (by omega) (fun j hj => by omega), FL_none hno]
  · intro q
    rw [getD_set _ _ _ (by have := h.sz; omega), if_pos rfl] at q
    cases q
  · intro q
    rw [getD_set _ _ _ (by have := h.sz; omega), if_neg (by omega)] at q
    rw [tmp_put _ _ _ _ (by have := h.tsz; omega), if_neg (by omega)]
    exact h.mv q
  · intro q
    rw [getD_set _ _ _ (by have := h.sz; omega), if_neg (by omega)] at q
    rw [tmp_put _ _ _ _ (by have := h.tsz; omega), if_neg (by omega)]
    exact h.asgn q
theorem unl_le {l : Array Bool} {i : Nat} (hi : i < l.size) (h : l.getD i true = false) : unl (l.setIfInBounds i true) ≤ unl l := by have := unl_set l i hi h; omega
theorem getD_tf {l : Array Bool} {i : Nat} (hi : i < l.size) (h : l.getD i true = false) : l.getD i false = false := by simp [Array.getD, hi] at h ⊢; exact h
theorem LI.build {W0 W : World} {listed : Array Bool} {A : Act} (h : LI W0 listed A W) (j : Nat) (hj : j < 11) (h0 : listed.getD (2 * j + 1) true = false) : LI W0 (listed.setIfInBounds (2 * j + 1) true) (A.put (some (4 + j)) (stepV (litS j) (litE j))) W := by
  have hs := h.sz
  have ht := h.tsz
  have hu := unl_le (by omega) h0
  refine ⟨by simp [h.sz], by rw [size_put_]; exact h.tsz, by rw [defers_put_]; exact h.df, ?_, ?_, ?_, ?_, ?_⟩
  · intro i hi hl
    rw [tmp_put _ _ _ _ (by omega)]
    by_cases q : i = j
    · subst q; rw [if_pos rfl]
    · rw [getD_set _ _ _ (by omega), if_neg (by omega)] at hl
      rw [if_neg (by omega)]
      exact h.bl i hi hl
  · intro q
    rw [getD_set _ _ _ (by omega), if_neg (by omega)] at q
    obtain ⟨h3, D, n, ho, hn, hr, hb⟩ := h.made q
    exact ⟨by rw [tmp_put _ _ _ _ (by omega), if_neg (by omega)]; exact h3, D, n, ho, by omega, hr.congr fun s e => FL_stay h.sz _ (by omega) (fun i hi => by omega) s e, hb⟩
  · intro q
    rw [getD_set _ _ _ (by omega), if_neg (by omega)] at q
    exact ⟨(h.no q).1, fun i hi => by rw [getD_set _ _ _ (by omega), if_neg (by omega)]; exact (h.no q).2 i hi⟩
  · intro q
    rw [getD_set _ _ _ (by omega), if_neg (by omega)] at q
    rw [tmp_put _ _ _ _ (by omega), if_neg (by omega)]
    exact h.mv q
  · intro q
    rw [getD_set _ _ _ (by omega), if_neg (by omega)] at q
    rw [tmp_put _ _ _ _ (by omega), if_neg (by omega)]
    exact h.asgn q
theorem litFit : ∀ j : Fin 11, (Lit.int .i64 (litS j)).wf = true ∧ (Lit.int .i64 (litE j)).wf = true ∧ (Lit.int .i64 (litT j)).wf = true := by decide
theorem LI.insert {W0 W : World} {listed : Array Bool} {A : Act} (h : LI W0 listed A W) (j : Nat) (hj : j < 11) (h0 : listed.getD (2 * j + 2) true = false) (hm : listed.getD 0 false = true) (hb : listed.getD (2 * j + 1) false = true) :
    A.tmps.getD 3 undef = .map (some W0.heap.size) ∧ A.tmps.getD (4 + j) undef = stepV (litS j) (litE j) ∧ ∃ W', (Instr.mapUpdate 42 (.map (some W0.heap.size)) (stepV (litS j) (litE j)) (.int .i64 (litT j))).run Tryd.prog W = .ok () W' ∧
      LI W0 (listed.setIfInBounds (2 * j + 2) true) A W' := by
  have hs := h.sz
  have ht := h.tsz
  have hu := unl_set listed _ (by omega) h0
  have hf := litFit ⟨j, hj⟩
  obtain ⟨h3, D, n, ho, hn, hr, hB⟩ := h.made hm
  obtain ⟨W', hrun, ho', hg⟩ := ho.update lawStep underMap (by unfold maxLen; omega) (stepK_of hf.1 hf.2.1) (plainElem_int (H := Unit) underInt hf.2.2)
  refine ⟨h3, h.bl j hj hb, W', hrun, by simp [h.sz], h.tsz, h.df, ?_, ?_, ?_, ?_, ?_⟩
  · intro i hi hl
    rw [getD_set _ _ _ (by omega), if_neg (by omega)] at hl
    exact h.bl i hi hl
  · intro _
    refine ⟨h3, _, n + 1, ho', by omega, (hr.put hf.1 hf.2.1 (litT j)).congr fun s e => FL_put h.sz j hj s e, hB.grown hg hB.size (fun b q => by cases q; exact Nat.le_refl _)⟩
  · intro q
    rw [getD_set _ _ _ (by omega), if_neg (by omega), hm] at q
    cases q
  · intro q
    rw [getD_set _ _ _ (by omega), if_neg (by omega)] at q
    exact h.mv q
  · intro q
    rw [getD_set _ _ _ (by omega), if_neg (by omega)] at q
    exact h.asgn q
theorem LI.move {W0 W : World} {listed : Array Bool} {A : Act} (h : LI W0 listed A W) (h0 : listed.getD 23 true = false) (hm : listed.getD 0 false = true) : LI W0 (listed.setIfInBounds 23 true) (A.put (some 15) (.map (some W0.heap.size))) W := by
  have hs := h.sz
  have ht := h.tsz
  have hu := unl_le (by omega) h0
  refine ⟨by simp [h.sz], by rw [size_put_]; exact h.tsz, by rw [defers_put_]; exact h.df, ?_, ?_, ?_, ?_, ?_⟩
  · intro i hi hl
    rw [getD_set _ _ _ (by omega), if_neg (by omega)] at hl
    rw [tmp_put _ _ _ _ (by omega), if_neg (by omega)]
    exact h.bl i hi hl
  · intro q
    obtain ⟨h3, D, n, ho, hn, hr, hb⟩ := h.made hm
    exact ⟨by rw [tmp_put _ _ _ _ (by omega), if_neg (by omega)]; exact h3, D, n, ho, by omega, hr.congr fun s e => FL_stay h.sz _ (by omega) (fun i hi => by omega) s e, hb⟩
  · intro q
    rw [getD_set _ _ _ (by omega), if_neg (by omega), hm] at q
    cases q
  · intro q
    rw [tmp_put _ _ _ _ (by omega), if_pos rfl]
  · intro q
    rw [getD_set _ _ _ (by omega), if_neg (by omega)] at q
    rw [tmp_put _ _ _ _ (by omega), if_neg (by omega)]
    exact h.asgn q
theorem LI.assign {W0 W : World} {listed : Array Bool} {A : Act} (h : LI W0 listed A W) (h0 : listed.getD 24 true = false) (hm : listed.getD 0 false = true) : LI W0 (listed.setIfInBounds 24 true) (A.put (some 1) (.map (some W0.heap.size))) W := by
  have hs := h.sz
  have ht := h.tsz
  have hu := unl_le (by omega) h0
  refine ⟨by simp [h.sz], by rw [size_put_]; exact h.tsz, by rw [defers_put_]; exact h.df, ?_, ?_, ?_, ?_, ?_⟩
  · intro i hi hl
    rw [getD_set _ _ _ (by omega), if_neg (by omega)] at hl
    rw [tmp_put _ _ _ _ (by omega), if_neg (by omega)]
    exact h.bl i hi hl
  · intro q
    obtain ⟨h3, D, n, ho, hn, hr, hb⟩ := h.made hm
    exact ⟨by rw [tmp_put _ _ _ _ (by omega), if_neg (by omega)]; exact h3, D, n, ho, by omega, hr.congr fun s e => FL_stay h.sz _ (by omega) (fun i hi => by omega) s e, hb⟩
  · intro q
    rw [getD_set _ _ _ (by omega), if_neg (by omega), hm] at q
    cases q
  · intro q
    rw [getD_set _ _ _ (by omega), if_neg (by omega)] at q
    rw [tmp_put _ _ _ _ (by omega), if_neg (by omega)]
    exact h.mv q
  · intro q
    rw [tmp_put _ _ _ _ (by omega), if_pos rfl]
theorem rep_false (n k : Nat) : (Array.replicate n false).getD k false = false := by
  simp [Array.getD]
theorem run_makeMapOp (ρ : Operand → Value) (o : Oper) (t : TypeId) (ho : o.op = .makeMap t none) (W : World) : (execOp ρ o).run Tryd.prog W = .ok (.value (.map (some W.heap.size))) (W.alloc (.map #[] 0)) := by
  simp [execOp, ho, run_makeMap]
theorem run_insertOp (ρ : Operand → Value) (m k : Nat) (t : Int) (o : Oper) (ho : o.op = .insert 42 (.tmp m) (.tmp k) (.const (.int .i64 t))) {mv kv : Value} (hm : ρ (.tmp m) = mv) (hk : ρ (.tmp k) = kv) (hρ : ∀ v, ρ (.const v) = v) {W W' : World}
    (hr : (Instr.mapUpdate 42 mv kv (.int .i64 t)).run Tryd.prog W = .ok () W') : (execOp ρ o).run Tryd.prog W = .ok .skip W' := by
  simp [execOp, ho, hm, hk, hρ, hr]
theorem run_moveOp (ρ : Operand → Value) (m : Nat) (o : Oper) (ho : o.op = .move (.tmp m)) {mv : Value} (hm : ρ (.tmp m) = mv) (W : World) : (execOp ρ o).run Tryd.prog W = .ok (.value mv) W := by
  simp [execOp, ho, hm]
theorem run_assignOp (ρ : Operand → Value) (m : Nat) (o : Oper) (ho : o.op = .assign (.tmp m)) {mv : Value} (hm : ρ (.tmp m) = mv) (W : World) : (execOp ρ o).run Tryd.prog W = .ok (.value mv) W := by
  simp [execOp, ho, hm]
theorem run_build2 (ρ : Operand → Value) (s e : Int) (o : Oper) (ho : o.op = .build 45 #[(0, .const (.int .i64 s)), (1, .const (.int .i64 e))]) (hρ : ∀ v, ρ (.const v) = v) (W : World) : (execOp ρ o).run Tryd.prog W = .ok (.value (stepV s e)) W := by
  go_simp
  rfl

theorem arr27 (t : Array Value) (h : t.size = 27) : ∃ x0 x1 x2 x3 x4 x5 x6 x7 x8 x9 x10 x11 x12 x13 x14 x15 x16 x17 x18 x19 x20 x21 x22 x23 x24 x25 x26 : Value, t = #[x0, x1, x2, x3, x4, x5, x6, x7, x8, x9, x10, x11, x12, x13, x14, x15, x16, x17, x18, x19, x20, x21, x22, x23, x24, x25, x26] := by
  obtain ⟨l⟩ := t
  have h : l.length = 27 := h
  match l, h with
  | [x0, x1, x2, x3, x4, x5, x6, x7, x8, x9, x10, x11, x12, x13, x14, x15, x16, x17, x18, x19, x20, x21, x22, x23, x24, x25, x26], _ => exact ⟨x0, x1, x2, x3, x4, x5, x6, x7, x8, x9, x10, x11, x12, x13, x14, x15, x16, x17, x18, x19, x20, x21, x22, x23, x24, x25, x26, rfl⟩
def loopF (k : Nat) (s e : Int) : Option Int := if 1 ≤ s ∧ s < k ∧ e = 9 then some 6 else if 1 ≤ s ∧ s < k ∧ e = 1 then some 0 else litF s e
theorem loopF_one (s e : Int) : litF s e = loopF 1 s e := by
  unfold loopF
  rw [if_neg (by omega), if_neg (by omega)]
theorem loopF_step (k : Nat) (hk : 1 ≤ k) (s e : Int) : (if s = (k : Int) ∧ e = 9 then some 6 else if s = (k : Int) ∧ e = 1 then some 0 else loopF k s e) = loopF (k + 1) s e := by
  unfold loopF
  have h1 : (s < ((k + 1 : Nat) : Int)) ↔ (s < k ∨ s = k) := by omega
  simp only [h1]
  by_cases a : s = k
  · subst a
    have h2 : (1 : Int) ≤ (k : Int) := by omega
    simp [h2]
  · simp [a]
theorem loopF_end (s e : Int) : loopF 6 s e = nextO s e := by
  have fin : ∀ s : Fin 7, ∀ e : Fin 10, loopF 6 (s.1 : Int) (e.1 : Int) = nextO (s.1 : Int) (e.1 : Int) := by decide
  by_cases h : 0 ≤ s ∧ s < 7 ∧ 0 ≤ e ∧ e < 10
  · obtain ⟨a, b, c, d⟩ := h
    obtain ⟨x, rfl⟩ := Int.eq_ofNat_of_zero_le a
    obtain ⟨y, rfl⟩ := Int.eq_ofNat_of_zero_le c
    exact fin ⟨x, by omega⟩ ⟨y, by omega⟩
  · have h1 : litF s e = none := by
      unfold litF
      cases hk : keyIdx s e with
      | none => rfl
      | some j =>
        exfalso
        have hj : j < 11 := by have := List.mem_of_find?_eq_some hk; simpa using this
        have h2 := keyIdx_some hk
        have h3 : ∀ j : Fin 11, 0 ≤ litS j ∧ litS j < 7 ∧ 0 ≤ litE j ∧ litE j < 10 := by decide
        have h4 := h3 ⟨j, hj⟩
        simp only [h2.1, h2.2] at h4
        exact h h4
    unfold loopF nextO
    rw [h1]
    repeat rw [if_neg (by omega)]
set_option maxRecDepth 100000 in
set_option maxHeartbeats 4000000 in
theorem leads_core (w : World) : Calls Tryd.prog 21 #[] w fun e w' => e = .returned (.map (some w.heap.size)) ∧
    (∃ D n, w'.ownsMap Tryd.prog 45 (plainElem (H := Unit) Tryd.prog 3) w.heap.size n D ∧ n ≤ 40 ∧ Reads D nextO) ∧ Below w.heap.size w w' := by
  go_enter Tryd.func21, Tryd.ntmps21
  go_wp2
  obtain ⟨W0, hW0⟩ : ∃ W0, World.drew w = W0 := ⟨_, rfl⟩
  have hsz : W0.heap.size = w.heap.size := by rw [← hW0]; rfl
  have hB0 : Below w.heap.size w W0 := by rw [← hW0]; exact (Below.refl _ w).drew
  refine wp_region_any (by kernel_rfl) ?_
  change wpAny _ _ _ _ _ _ _ (World.drew _)
  rw [hW0]
  refine wpAny_inv (by kernel_rfl) (LI W0) ?step ?done _ _ _ _ (by decide) (by simp) ?init
  case init =>
    refine ⟨by simp, by simp, rfl, ?_, ?_, ?_, ?_, ?_⟩
    · intro j hj h; rw [rep_false] at h; cases h
    · intro h; rw [rep_false] at h; cases h
    · intro _; exact ⟨rfl, fun j hj => rep_false _ _⟩
    · intro h; rw [rep_false] at h; cases h
    · intro h; rw [rep_false] at h; cases h
  case step =>
    intro listed A W hI i hi
    obtain ⟨hun, oo, ho, hall⟩ := mem_ready.1 hi
    have hi25 : i < 25 := (Array.getElem?_eq_some_iff.1 ho).1
    match i, hi25 with
    | 0, _ => exact wpOp_val rfl rfl (run_makeMapOp _ _ _ rfl _) (hI.make hun)
    | 1, _ => exact wpOp_val rfl rfl (run_build2 _ (litS 0) (litE 0) _ rfl (fun _ => rfl) _) (hI.build 0 (by omega) hun)
    | 2, _ =>
      simp at ho
      subst ho
      obtain ⟨h3, hk, W', hr, hI'⟩ := hI.insert 0 (by omega) hun (hall ⟨0, .data⟩ (by simp) rfl) (hall ⟨1, .data⟩ (by simp) rfl)
      exact wpOp_skip rfl rfl (run_insertOp _ 3 4 (litT 0) _ rfl (by rw [eval_tmp_]; exact h3) (by rw [eval_tmp_]; exact hk) (fun _ => rfl) hr) hI'
    | 3, _ => exact wpOp_val rfl rfl (run_build2 _ (litS 1) (litE 1) _ rfl (fun _ => rfl) _) (hI.build 1 (by omega) hun)
    | 4, _ =>
      simp at ho
      subst ho
      obtain ⟨h3, hk, W', hr, hI'⟩ := hI.insert 1 (by omega) hun (hall ⟨0, .data⟩ (by simp) rfl) (hall ⟨3, .data⟩ (by simp) rfl)
      exact wpOp_skip rfl rfl (run_insertOp _ 3 5 (litT 1) _ rfl (by rw [eval_tmp_]; exact h3) (by rw [eval_tmp_]; exact hk) (fun _ => rfl) hr) hI'
    | 5, _ => exact wpOp_val rfl rfl (run_build2 _ (litS 2) (litE 2) _ rfl (fun _ => rfl) _) (hI.build 2 (by omega) hun)
    | 6, _ =>
      simp at ho
      subst ho
      obtain ⟨h3, hk, W', hr, hI'⟩ := hI.insert 2 (by omega) hun (hall ⟨0, .data⟩ (by simp) rfl) (hall ⟨5, .data⟩ (by simp) rfl)
      exact wpOp_skip rfl rfl (run_insertOp _ 3 6 (litT 2) _ rfl (by rw [eval_tmp_]; exact h3) (by rw [eval_tmp_]; exact hk) (fun _ => rfl) hr) hI'
    | 7, _ => exact wpOp_val rfl rfl (run_build2 _ (litS 3) (litE 3) _ rfl (fun _ => rfl) _) (hI.build 3 (by omega) hun)
    | 8, _ =>
      simp at ho
      subst ho
      obtain ⟨h3, hk, W', hr, hI'⟩ := hI.insert 3 (by omega) hun (hall ⟨0, .data⟩ (by simp) rfl) (hall ⟨7, .data⟩ (by simp) rfl)
      exact wpOp_skip rfl rfl (run_insertOp _ 3 7 (litT 3) _ rfl (by rw [eval_tmp_]; exact h3) (by rw [eval_tmp_]; exact hk) (fun _ => rfl) hr) hI'
    | 9, _ => exact wpOp_val rfl rfl (run_build2 _ (litS 4) (litE 4) _ rfl (fun _ => rfl) _) (hI.build 4 (by omega) hun)
    | 10, _ =>
      simp at ho
      subst ho
      obtain ⟨h3, hk, W', hr, hI'⟩ := hI.insert 4 (by omega) hun (hall ⟨0, .data⟩ (by simp) rfl) (hall ⟨9, .data⟩ (by simp) rfl)
      exact wpOp_skip rfl rfl (run_insertOp _ 3 8 (litT 4) _ rfl (by rw [eval_tmp_]; exact h3) (by rw [eval_tmp_]; exact hk) (fun _ => rfl) hr) hI'
    | 11, _ => exact wpOp_val rfl rfl (run_build2 _ (litS 5) (litE 5) _ rfl (fun _ => rfl) _) (hI.build 5 (by omega) hun)
    | 12, _ =>
      simp at ho
      subst ho
      obtain ⟨h3, hk, W', hr, hI'⟩ := hI.insert 5 (by omega) hun (hall ⟨0, .data⟩ (by simp) rfl) (hall ⟨11, .data⟩ (by simp) rfl)
      exact wpOp_skip rfl rfl (run_insertOp _ 3 9 (litT 5) _ rfl (by rw [eval_tmp_]; exact h3) (by rw [eval_tmp_]; exact hk) (fun _ => rfl) hr) hI'
    | 13, _ => exact wpOp_val rfl rfl (run_build2 _ (litS 6) (litE 6) _ rfl (fun _ => rfl) _) (hI.build 6 (by omega) hun)
    | 14, _ =>
      simp at ho
      subst ho
      obtain ⟨h3, hk, W', hr, hI'⟩ := hI.insert 6 (by omega) hun (hall ⟨0, .data⟩ (by simp) rfl) (hall ⟨13, .data⟩ (by simp) rfl)
      exact wpOp_skip rfl rfl (run_insertOp _ 3 10 (litT 6) _ rfl (by rw [eval_tmp_]; exact h3) (by rw [eval_tmp_]; exact hk) (fun _ => rfl) hr) hI'
    | 15, _ => exact wpOp_val rfl rfl (run_build2 _ (litS 7) (litE 7) _ rfl (fun _ => rfl) _) (hI.build 7 (by omega) hun)
    | 16, _ =>
      simp at ho
      subst ho
      obtain ⟨h3, hk, W', hr, hI'⟩ := hI.insert 7 (by omega) hun (hall ⟨0, .data⟩ (by simp) rfl) (hall ⟨15, .data⟩ (by simp) rfl)
      exact wpOp_skip rfl rfl (run_insertOp _ 3 11 (litT 7) _ rfl (by rw [eval_tmp_]; exact h3) (by rw [eval_tmp_]; exact hk) (fun _ => rfl) hr) hI'
    | 17, _ => exact wpOp_val rfl rfl (run_build2 _ (litS 8) (litE 8) _ rfl (fun _ => rfl) _) (hI.build 8 (by omega) hun)
    | 18, _ =>
      simp at ho
      subst ho
      obtain ⟨h3, hk, W', hr, hI'⟩ := hI.insert 8 (by omega) hun (hall ⟨0, .data⟩ (by simp) rfl) (hall ⟨17, .data⟩ (by simp) rfl)
      exact wpOp_skip rfl rfl (run_insertOp _ 3 12 (litT 8) _ rfl (by rw [eval_tmp_]; exact h3) (by rw [eval_tmp_]; exact hk) (fun _ => rfl) hr) hI'
    | 19, _ => exact wpOp_val rfl rfl (run_build2 _ (litS 9) (litE 9) _ rfl (fun _ => rfl) _) (hI.build 9 (by omega) hun)
    | 20, _ =>
      simp at ho
      subst ho
      obtain ⟨h3, hk, W', hr, hI'⟩ := hI.insert 9 (by omega) hun (hall ⟨0, .data⟩ (by simp) rfl) (hall ⟨19, .data⟩ (by simp) rfl)
      exact wpOp_skip rfl rfl (run_insertOp _ 3 13 (litT 9) _ rfl (by rw [eval_tmp_]; exact h3) (by rw [eval_tmp_]; exact hk) (fun _ => rfl) hr) hI'
    | 21, _ => exact wpOp_val rfl rfl (run_build2 _ (litS 10) (litE 10) _ rfl (fun _ => rfl) _) (hI.build 10 (by omega) hun)
    | 22, _ =>
      simp at ho
      subst ho
      obtain ⟨h3, hk, W', hr, hI'⟩ := hI.insert 10 (by omega) hun (hall ⟨0, .data⟩ (by simp) rfl) (hall ⟨21, .data⟩ (by simp) rfl)
      exact wpOp_skip rfl rfl (run_insertOp _ 3 14 (litT 10) _ rfl (by rw [eval_tmp_]; exact h3) (by rw [eval_tmp_]; exact hk) (fun _ => rfl) hr) hI'
    | 23, _ =>
      simp at ho
      subst ho
      have hm := hall ⟨0, .data⟩ (by simp) rfl
      exact wpOp_val rfl rfl (run_moveOp _ 3 _ rfl (by rw [eval_tmp_]; exact (hI.made hm).1) _) (hI.move hun hm)
    | 24, _ =>
      simp at ho
      subst ho
      have hm := hall ⟨0, .phase⟩ (by simp) rfl
      exact wpOp_val rfl rfl (run_assignOp _ 15 _ rfl (by rw [eval_tmp_]; exact hI.mv (hall ⟨23, .data⟩ (by simp) rfl)) _) (hI.assign hun hm)

  case done =>
    rintro listed ⟨tm, df⟩ W hI hall
    obtain rfl : df = [] := hI.df
    obtain ⟨x0, x1, x2, x3, x4, x5, x6, x7, x8, x9, x10, x11, x12, x13, x14, x15, x16, x17, x18, x19, x20, x21, x22, x23, x24, x25, x26, rfl⟩ := arr27 tm hI.tsz
    have hl : ∀ i, i < 25 → listed.getD i false = true := fun i hi => hall i (by rw [hI.sz]; exact hi)
    obtain rfl : x1 = _ := hI.asgn (hl 24 (by omega))
    obtain ⟨_, D, n, hown, hn, hR, hB⟩ := hI.made (hl 0 (by omega))
    replace hR := (hR.congr (FL_all (fun j hj => hl _ (by omega)))).congr loopF_one
    rw [hsz] at hown hB
    rw [hsz]
    have hBw : Below w.heap.size w W := hB0.trans hB
    have hn25 : n ≤ 25 := by omega
    clear hI hall hl hn hB hB0
    go_wp2
    go_loopw [2] (fun i wr => ∃ (k : Nat) (D : DU) (n : Nat), 1 ≤ k ∧ k ≤ 6 ∧ i = .int .i64 k ∧ wr.ownsMap Tryd.prog 45 (plainElem (H := Unit) Tryd.prog 3) w.heap.size n D ∧ n ≤ 23 + 2 * k ∧ Reads D (loopF k) ∧ Below w.heap.size w wr)
      (fun i _ => 6 - (intOf i).toNat)
    case atStart => exact ⟨1, D, n, by omega, by omega, rfl, hown, by omega, hR, hBw⟩
    case round =>
      obtain ⟨k, D, n, hk1, hk6, rfl, hown, hn, hR, hBw⟩ := hrel
      have hfk : fitI (k : Int) := by rcases (show k = 1 ∨ k = 2 ∨ k = 3 ∨ k = 4 ∨ k = 5 ∨ k = 6 by omega) with rfl | rfl | rfl | rfl | rfl | rfl <;> rfl
      go_wp2_with (first
        | (at_mapUpdate; refine wpList_mapUpdate_own _ rfl _ _ _ 42 rfl 45 3 lawStep underMap _ w.heap.size n _ rfl hown (by unfold maxLen; omega) _ _ _ rfl rfl (stepK_of hfk (show fitI 1 from rfl)) _ [] (plainElem_int underInt (a := 0) rfl) ?_; intro w1 hown1 hgrow1)
        | (at_mapUpdate; refine wpList_mapUpdate_own _ rfl _ _ _ 42 rfl 45 3 lawStep underMap _ w.heap.size (n + 1) _ rfl hown1 (by unfold maxLen; omega) _ _ _ rfl rfl (stepK_of hfk (show fitI 9 from rfl)) _ [] (plainElem_int underInt (a := 6) rfl) ?_; intro w2 hown2 hgrow2))
      · go_roundw
        case rel => exact ⟨k + 1, _, n + 2, by omega, by omega, by go_num, hown2, by omega, ((hR.put hfk (show fitI 1 from rfl) 0).put hfk (show fitI 9 from rfl) 6).congr (loopF_step k hk1), (hBw.grown hgrow1 hBw.size (fun j hj => by cases hj; exact Nat.le_refl _)).grown hgrow2 (by have := hgrow1.size; have := hBw.size; omega) (fun j hj => by cases hj; exact Nat.le_refl _)⟩
        case measure => simp [intOf]; omega
      · have : k = 6 := by omega
        subst this
        go_ret
        exact ⟨rfl, ⟨D, n, hown, by omega, hR.congr loopF_end⟩, hBw⟩

end Go.Proofs.YtbbiihifhdcniaaDoor.Hand
