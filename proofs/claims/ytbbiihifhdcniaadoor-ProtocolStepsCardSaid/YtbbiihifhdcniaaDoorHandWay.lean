/- What 'protocol.Way' computes, by hand: the words, 'slices.Clone', and the statement that stores a longer way. -/
import Derived.Test.YtbbiihifhdcniaaDoorWay0
import Derived.Maps.GroupsBeside
import Derived.Maps.AppendAt
import Derived.Deep.RegionHeld3
import Derived.Deep.AppendLies
import Derived.Deep.DrawnRows
import Derived.WalkSpells
import Derived.Test.YtbbiihifhdcniaaDoorWWords
set_option linter.unusedVariables false
set_option linter.unusedSimpArgs false
namespace Go.Proofs.YtbbiihifhdcniaaDoor.Hand
set_option maxRecDepth 100000
open Go.RowKit Go.Maps Go.ChangeShapes Go.WideElems Go.Proofs.YtbbiihifhdcniaaDoorW.PrintWords

theorem under_ways : Tryd.prog.underlying 50 = some (.map 3 22) := by kernel_rfl
theorem under_row : Tryd.prog.underlying 22 = some (.slice 3) := by kernel_rfl
theorem info_i64 : (Tryd.prog.info? 3).map (fun i => (i.zero, i.size, i.bytes)) = some (some (.int .i64 0), 1, 8) := by kernel_rfl
theorem zeroInts (w : World) : (zeroValue 22).run Tryd.prog w = .ok (.slice none 0 0) w := by kernel_rfl
theorem keyedInt : Keyed Tryd.prog 3 := int_keyed underInt
theorem keyI {z : Int} (h : fitI z) : keyOf Tryd.prog 3 (.int .i64 z) = some (.int .i64 z) := keyOf_int_mk underInt h
theorem isKeyI (z : Int) : WideAt.IsKeyLit (.int .i64 z) := trivial
def litsU (l : List Int) : DU := .slice (lits .i64 l) []
theorem litsU_inj {a b : List Int} (h : litsU a = litsU b) : a = b := by
  unfold litsU lits at h
  injection h with h _
  exact (List.map_inj_right (fun x y hxy => by injection hxy with h1; injection h1)).1 h
/-- The map reads as these ways. -/
def ReadsW (D : DU) (st : St) : Prop := IsMap D ∧ ∀ z, fitI z → has D (.int .i64 z) = (wayOf st z).isSome ∧ ∀ y, D.atKey (.int .i64 z) y = match wayOf st z with | some l => litsU l | none => y
theorem ReadsW.empty : ReadsW (.map []) [] := ⟨isMap_empty, fun z _ => ⟨rfl, fun y => rfl⟩⟩
theorem wayOf_snoc (st : St) (t : Int) (l : List Int) (z : Int) : wayOf (st ++ [(t, l)]) z = match wayOf st z with | some r => some r | none => if z = t then some l else none := by
  unfold wayOf
  rw [List.lookup_append]
  cases h : st.lookup z with
  | some r => rfl
  | none =>
    by_cases q : z = t
    · subst q; simp [List.lookup]
    · have : (z == t) = false := by simpa using q
      simp [List.lookup, this, q]
theorem ReadsW.put {D : DU} {st : St} (h : ReadsW D st) {t : Int} (ht : fitI t) (hn : wayOf st t = none) (l : List Int) : ReadsW (D.put (.int .i64 t) (litsU l)) (st ++ [(t, l)]) := by
  refine ⟨h.1.put _ _, fun z hz => ?_⟩
  rw [wayOf_snoc]
  by_cases hq : z = t
  · subst hq
    rw [hn]
    simp only [if_true]
    exact ⟨has_put_same h.1 (isKeyI z) _, fun y => atKey_put_same h.1 (isKeyI z) _ _⟩
  · have hne : (Lit.int .i64 z) ≠ .int .i64 t := fun q => hq (by injection q)
    simp only [if_neg hq]
    have h1 := h.2 z hz
    refine ⟨(has_put_other hne _).trans ?_, fun y => (atKey_put_other hne _ _).trans ?_⟩
    · rw [h1.1]; cases wayOf st z <;> rfl
    · rw [h1.2 y]; cases wayOf st z <;> rfl
def keysOf (st : St) : List Value := st.map fun p => Value.int .i64 p.1
def met (v : Value) (g : Nat) : Prop := v.ownBlock = some g
/-- What stands behind the pointers that the closure has captured. -/
structure WayAt (W : World) (M Bw Bm : Nat) (st : St) : Prop where
  bw : W.heap[Bw]? = some (.cells #[.map (some M)] 50 (0, 0))
  ex : ∃ (n : Nat) (D : DU) (v : Value), W.ownsGroups Tryd.prog 3 (M + 1) 3 .i64 M n D ∧ ReadsW D st ∧ n ≤ st.length ∧
    W.heap[Bm]? = some (.cells #[v] 22 (0, 0)) ∧ W.ownsRow (M + 1) 3 1 v st.length (keysOf st) ∧ W.Shuns M (met v)
theorem WayAt.below {W W1 : World} {M Bw Bm : Nat} {st : St} (h : WayAt W M Bw Bm st) (hb : Below W.heap.size W W1) : WayAt W1 M Bw Bm st := by
  obtain ⟨n, D, v, ho, hr, hn, hm, hk, hs⟩ := h.ex
  have hg : W.grownBy W1 none := grown_of_below hb none
  have hM : M < W.heap.size := by obtain ⟨es, clock, hb, _⟩ := ho; exact (Array.getElem?_eq_some_iff.1 hb).1
  refine ⟨blk_grown h.bw hg (by simp), n, D, v, ho.kept hg (by simp) (ho.rowsAbove (fun j q => by cases q)), hr, hn, blk_grown hm hg (by simp), pw_own_below hk hb, hs.kept hg hM (by simp)⟩
/-- 'slices.Clone' of a row that is not nil. -/
theorem clone_core (base : Nat) (g cap : Nat) (l : List Int) (w : World) (hl : l.length ≤ 1000) (ho : w.ownsRow base 3 1 (.slice (some ⟨g, 0, none⟩) l.length cap) l.length (l.map (Value.int .i64))) :
    Calls Tryd.prog 26 #[.slice (some ⟨g, 0, none⟩) l.length cap] w fun e w' => ∃ v, e = .returned v ∧ w'.ownsRow w.heap.size 3 1 v l.length (l.map (Value.int .i64)) ∧ Below w.heap.size w w' := by
  obtain ⟨i0, hi, hz0, hz1, hz2⟩ := info_parts info_i64
  have hc := ho.cells rfl
  have hgl := (ho.lt g rfl).2
  have heq := fun W => Lib.run_eql_slice_nil (P := Tryd.prog) W 22 3 (some ⟨g, 0, none⟩) l.length cap 0 0 under_row
  go_enter Tryd.func26, Tryd.ntmps26
  go_wp2_with (at_builtin; refine wpList_append_own _ rfl _ _ 22 rfl w.heap.size 3 i0 (.int .i64 0) 1 8 under_row hi hz0 hz1 hz2 rfl (by decide) (.slice (some ⟨w.heap.size, 0, none⟩) 0 0) 0 [] rfl ?_ ⟨g, 0, none⟩ l.length cap (l.map (Value.int .i64)) rfl (by simp) ?_ (by simp [Value.oneCell']) (by unfold maxLen; omega) (by omega) (by simp) ?_)
  · simpa [nums] using own_lit w w.heap.size 3 .i64 [] (Nat.le_refl _) (by simp)
  · intro j a hj
    have := hc j (.int .i64 a) (by simpa using hj)
    rwa [add_plain] at this
  · intro v' w' hown hgrow _
    go_wp2
    go_ret
    exact ⟨v', rfl, hown, ((Below.refl _ w).alloc (Nat.le_refl _) _).grown hgrow (by simp) (fun j hj => by simp [Value.ownBlock] at hj; omega)⟩
/-- A look-up hangs on the map's block alone. -/
theorem look_kept {w w' : World} {b : Nat} {es : Array MapEntry} {clock : Nat} {R : Value → Option (DU × List MemPlace)} {key v : Value} {kl : Lit} (hb : w.heap[b]? = some (.map es clock)) (hb' : w'.heap[b]? = some (.map es clock))
    (F : Fit Tryd.prog 3 R es clock) (hkey : keyOf Tryd.prog 3 key = some kl) (hr : (Instr.lookup 50 (.map (some b)) key false).run Tryd.prog w = .ok v w) : (Instr.lookup 50 (.map (some b)) key false).run Tryd.prog w' = .ok v w' := by
  have F0 : Fit Tryd.prog 3 (fun u => some ((.held u : DataW Value), ([] : List MemPlace))) es clock := ⟨F.size, F.stamped, fun x hx => by
    obtain ⟨y, hy⟩ := F.reads x hx
    exact ⟨(y.1, .held x.val), by simp [Go.WideElems.rd, rd_key hy]⟩⟩
  rcases Maps.fit_look false keyedInt under_ways (zeroInts w) hb F0 hkey with ⟨h1, h2, h3⟩ | ⟨e0, y, h1, h2, h3, h4, h5, _⟩ <;>
  rcases Maps.fit_look false keyedInt under_ways (zeroInts w') hb' F0 hkey with ⟨k1, k2, k3⟩ | ⟨e1, y', k1, k2, k3, k4, k5, _⟩
  · rw [h1] at hr
    rw [k1]
    cases hr
    rfl
  · exact absurd k2 (h2 e1 k1)
  · exact absurd h2 (k2 e0 h1)
  · rw [h3] at hr
    rw [k3]
    have := (h5 .nil).symm.trans (k5 .nil)
    injection h4 with h4
    injection k4 with k4
    rw [← h4, ← k4] at this
    injection this with this
    cases hr
    simp only [Bool.false_eq_true, if_false]
    rw [this]
end Go.Proofs.YtbbiihifhdcniaaDoor.Hand
