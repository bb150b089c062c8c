/- What the closure of 'protocol.Way' does, by hand: all that lead on from a state, each that is not met yet. -/
import Derived.Test.YtbbiihifhdcniaaDoorHandWay
set_option linter.unusedVariables false
set_option linter.unusedSimpArgs false
namespace Go.Proofs.YtbbiihifhdcniaaDoor.Hand
set_option maxRecDepth 100000
open Go.RowKit Go.Maps Go.ChangeShapes Go.WideElems Go.Proofs.YtbbiihifhdcniaaDoorW.PrintWords
attribute [local go_sem ↓] Go.wp_at_zero Go.wp_at_succ

def stE (s : Int) (st : St) : Nat → St
  | 0 => st
  | k + 1 => stepW s (stE s st k) (k : Int)
theorem stE_ten (s : Int) (st : St) : stE s st 10 = expand s st := rfl
theorem stepW_no {s e : Int} {st : St} (h : nextO s e = none) : stepW s st e = st := by unfold stepW; rw [h]
theorem stepW_old {s e t : Int} {st : St} (h : nextO s e = some t) (h2 : (wayOf st t).isSome = true) : stepW s st e = st := by unfold stepW; rw [h]; simp [h2]
theorem stepW_new {s e t : Int} {st : St} {l : List Int} (h : nextO s e = some t) (h2 : wayOf st t = none) (hl : wayOf st s = some l) : stepW s st e = st ++ [(t, l ++ [e])] := by unfold stepW; rw [h]; simp [h2, hl]
theorem stepW_len (s e : Int) (st : St) : (stepW s st e).length ≤ st.length + 1 := by
  unfold stepW
  cases nextO s e with
  | none => simp
  | some t => simp only []; split <;> simp
theorem stepW_way {s e z : Int} {st : St} {l : List Int} (h : wayOf st z = some l) : wayOf (stepW s st e) z = some l := by
  unfold stepW
  cases nextO s e with
  | none => exact h
  | some t =>
    simp only []
    split
    · exact h
    · rw [wayOf_snoc, h]
theorem stE_len (s : Int) (st : St) : ∀ k, (stE s st k).length ≤ st.length + k
  | 0 => Nat.le_refl _
  | k + 1 => by have := stE_len s st k; have := stepW_len s (k : Int) (stE s st k); simp only [stE]; omega
theorem stE_way {s : Int} {st : St} {l : List Int} (h : wayOf st s = some l) : ∀ k, wayOf (stE s st k) s = some l
  | 0 => h
  | k + 1 => stepW_way (stE_way h k)
theorem nextO_fit {s e t : Int} (h : nextO s e = some t) : 0 ≤ t ∧ t ≤ 6 := by
  unfold nextO at h
  by_cases c1 : e = 1 ∧ 1 ≤ s ∧ s ≤ 5
  · rw [if_pos c1] at h; injection h; omega
  rw [if_neg c1] at h
  by_cases c2 : e = 9 ∧ 1 ≤ s ∧ s ≤ 5
  · rw [if_pos c2] at h; injection h; omega
  rw [if_neg c2] at h
  repeat
    first
      | (cases h; done)
      | (split at h; (injection h; omega))
theorem fit_small {t : Int} (h0 : 0 ≤ t) (h1 : t ≤ 100) : fitI t := by
  have h2 : IntKind.i64.min = -9223372036854775808 := rfl
  have h3 : IntKind.i64.max = 9223372036854775807 := rfl
  show (decide (IntKind.i64.min ≤ t) && decide (t ≤ IntKind.i64.max)) = true
  rw [h2, h3]
  simp
  omega
theorem gb_refl (w : World) : w.grownBy w none := World.grownBy.refl w none
theorem gb_drew {a w : World} (h : a.grownBy w none) : a.grownBy w.drew none := ⟨h.os, h.tape, h.output, h.size, h.block⟩
theorem gb_alloc {a w : World} (h : a.grownBy w none) (o : Obj) : a.grownBy (w.alloc o) none :=
  ⟨h.os, h.tape, h.output, Nat.le_trans h.size (by simp), fun i hi hne => (Below.heap_alloc w o i (Nat.lt_of_lt_of_le hi h.size)).trans (h.block i hi hne)⟩
theorem gb_below {a w w' : World} (h : a.grownBy w none) (hb : Below w.heap.size w w') : a.grownBy w' none :=
  ⟨hb.os.trans h.os, hb.tape.trans h.tape, hb.output.trans h.output, Nat.le_trans h.size hb.size, fun i hi hne => (hb.block i (Nat.lt_of_lt_of_le hi h.size)).trans (h.block i hi hne)⟩
theorem gb_row {a w w' : World} {row : Option Nat} (h : a.grownBy w none) (hg : w.grownBy w' row) (hr : ∀ j, row = some j → a.heap.size ≤ j) : a.grownBy w' none :=
  ⟨hg.os.trans h.os, hg.tape.trans h.tape, hg.output.trans h.output, Nat.le_trans h.size hg.size, fun i hi hne => (hg.block i (Nat.lt_of_lt_of_le hi h.size) (fun q => by have := hr i q.symm; omega)).trans (h.block i hi hne)⟩
theorem gb_set (w : World) (g : Nat) (u : Value) : w.grownBy (w.setCell ⟨g, 0, none⟩ u) (some g) := ⟨rfl, rfl, rfl, by simp [World.setCell], fun i _ hne => Below.heap_setCell w ⟨g, 0, none⟩ u i (fun q => hne (by rw [q]))⟩
/-- The way of a state that is met: a row that is not nil. -/
theorem WayAt.get {w : World} {M n : Nat} {D : DU} {st : St} (ho : w.ownsGroups Tryd.prog 3 (M + 1) 3 .i64 M n D) (hr : ReadsW D st) (hn : n < maxLen) {s : Int} (hs : fitI s) {l : List Int} (hl : wayOf st s = some l) :
    ∃ g cap, w.ownsInts (M + 1) 3 .i64 (.slice (some ⟨g, 0, none⟩) l.length cap) l ∧ l.length ≤ n ∧ ∀ w', w.grownBy w' none → (Instr.lookup 50 (.map (some M)) (.int .i64 s) false).run Tryd.prog w' = .ok (.slice (some ⟨g, 0, none⟩) l.length cap) w' := by
  obtain ⟨vs, zs, hrun, hat, hoi, hzl, _⟩ := ho.at keyedInt under_ways (zeroInts _) hn (keyI hs)
  rw [(hr.2 s hs).2, hl] at hat
  rcases hoi.datum (H := Unit) with ⟨h1, _⟩ | h1
  · rw [h1] at hat; cases hat
  · rw [h1] at hat
    obtain rfl : l = zs := litsU_inj hat
    have hv : ∃ g cap, vs = .slice (some ⟨g, 0, none⟩) l.length cap := by
      rcases hoi.1.2 with ⟨rfl, h0⟩ | ⟨g, cap, cur, rfl, _⟩
      · cases h1
      · exact ⟨g, cap, rfl⟩
    obtain ⟨g, cap, rfl⟩ := hv
    refine ⟨g, cap, hoi, hzl, fun w' hg => ?_⟩
    obtain ⟨es, clock, hb, F, _⟩ := ho
    exact look_kept hb ((hg.block M (Array.getElem?_eq_some_iff.1 hb).1 (by simp)).trans hb) F (keyI hs) hrun
theorem WayAt.back {w : World} {M n : Nat} {D : DU} {st : St} (ho : w.ownsGroups Tryd.prog 3 (M + 1) 3 .i64 M n D) (hr : ReadsW D st) (hn : n < maxLen) {t : Int} (ht : fitI t) (hl : wayOf st t = none) :
    w.groupBack Tryd.prog 50 3 (M + 1) 3 .i64 M n D (.int .i64 t) (.int .i64 t) (.slice none 0 0) := by
  obtain ⟨vs, zs, hrun, hat, hoi, hzl, hb⟩ := ho.at keyedInt under_ways (zeroInts _) hn (keyI ht)
  rw [(hr.2 t ht).2, hl] at hat
  have : vs = .slice none 0 0 := by
    rcases hoi.1.2 with ⟨rfl, h0⟩ | ⟨g, cap, cur, rfl, _⟩
    · rfl
    · cases hat
  subst this
  exact hb
theorem shuns_stored {w0 w w2 : World} {M n : Nat} {D : DU} {No : Nat → Prop} {t : Int} {v' : Value} (ht : fitI t) (ho : w0.ownsGroups Tryd.prog 3 (M + 1) 3 .i64 M n D) (hn : n < maxLen) (hsh : w0.Shuns M No) (hno : ∀ g, v'.ownBlock = some g → ¬ No g)
    (hgr : w0.grownBy w none) (hrun : (Instr.mapUpdate 50 (.map (some M)) (.int .i64 t) v').run Tryd.prog w = .ok () w2) : w2.Shuns M No := by
  obtain ⟨es, clock, hb, F, hs, _, hbb, _⟩ := ho
  have hblt : M < w0.heap.size := (Array.getElem?_eq_some_iff.1 hb).1
  have hb1 : w.heap[M]? = some (.map es clock) := (hgr.block M hblt (by simp)).trans hb
  obtain ⟨es', clock', hb2, hwho⟩ := stored_who keyedInt under_ways hb1 F (Nat.lt_of_le_of_lt hs hn) (keyI ht) hrun
  intro es2 clock2 hb2' y hy g hyg
  obtain ⟨rfl, rfl⟩ : es' = es2 ∧ clock' = clock2 := by rw [hb2] at hb2'; simpa using hb2'
  rcases hwho y hy with ⟨hy0, _⟩ | ⟨_, hval⟩
  · exact hsh es clock hb y hy0 g hyg
  · exact hno g (hval ▸ hyg)
/-- A block of another type is no group's row. -/
theorem groups_off {w : World} {M n : Nat} {D : DU} (h : w.ownsGroups Tryd.prog 3 (M + 1) 3 .i64 M n D) {g : Nat} {cs : Array Value} {t : TypeId} (hg : w.heap[g]? = some (.cells cs t (0, 0))) (hne : (3 : TypeId) ≠ t) :
    ∀ es clock, w.heap[M]? = some (.map es clock) → ∀ x ∈ es.toList, x.val.ownBlock = none ∨ x.val.ownBlock ≠ some g := fun es clock hb x hx => by
  obtain ⟨es', clock', hb', F, _⟩ := h
  obtain ⟨rfl, rfl⟩ : es' = es ∧ clock' = clock := by rw [hb'] at hb; simpa using hb
  obtain ⟨y, hy⟩ := F.reads x hx
  obtain ⟨z, hz, _⟩ := rd_val hy
  obtain ⟨zs, hoi, _⟩ := rowElem_inv hz
  exact .inr (own_ne hoi.1 hg hne).symm
theorem map_not_cells {w : World} {M n : Nat} {D : DU} (h : w.ownsGroups Tryd.prog 3 (M + 1) 3 .i64 M n D) {g : Nat} {cs : Array Value} {t : TypeId} (hg : w.heap[g]? = some (.cells cs t (0, 0))) : g ≠ M := by
  rintro rfl
  obtain ⟨es, clock, hb, _⟩ := h
  rw [hg] at hb
  cases hb
/-- A store at another key leaves a look-up what it was. -/
theorem look_stored {w w2 : World} {b : Nat} {es : Array MapEntry} {clock : Nat} {R : Value → Option (DU × List MemPlace)} {s t : Int} {v val : Value} (hb : w.heap[b]? = some (.map es clock)) (F : Fit Tryd.prog 3 R es clock) (hroom : es.size < maxLen) (hs : fitI s) (ht : fitI t) (hne : s ≠ t)
    (hr : (Instr.lookup 50 (.map (some b)) (.int .i64 s) false).run Tryd.prog w = .ok v w) (hrun : (Instr.mapUpdate 50 (.map (some b)) (.int .i64 t) val).run Tryd.prog w = .ok () w2) :
    (Instr.lookup 50 (.map (some b)) (.int .i64 s) false).run Tryd.prog w2 = .ok v w2 := by
  have F0 : Fit Tryd.prog 3 (fun u => some ((.held u : DataW Value), ([] : List MemPlace))) es clock := ⟨F.size, F.stamped, fun x hx => by
    obtain ⟨y, hy⟩ := F.reads x hx
    exact ⟨(y.1, .held x.val), by simp [Go.WideElems.rd, rd_key hy]⟩⟩
  obtain ⟨es', clock', hrun', F1, hput, _, _, _⟩ := Maps.fit_store (R' := fun u => some ((.held u : DataW Value), ([] : List MemPlace))) (val := val) keyedInt under_ways hb F0 hroom (fun _ _ _ _ h => h) (keyI ht) rfl
  rw [hrun] at hrun'
  obtain rfl : w2 = Go.ChangeMaps.setBlock w b (.map es' clock') := by simpa using hrun'
  have hb2 := Go.ChangeMaps.heap_setBlock_same hb (.map es' clock')
  have hkne : (Lit.int .i64 s) ≠ .int .i64 t := fun q => hne (by injection q)
  have hsame : ∀ zd, (DataW.map ((es'.toList.map (rg Tryd.prog 3 (fun u => some ((.held u : DataW Value), ([] : List MemPlace))))).foldr DataW.insert [])).atKey (.int .i64 s) zd = (DataW.map ((es.toList.map (rg Tryd.prog 3 (fun u => some ((.held u : DataW Value), ([] : List MemPlace))))).foldr DataW.insert [])).atKey (.int .i64 s) zd := fun zd => by
    rw [hput]
    have := atKey_put_other (D := DataW.map ((es.toList.map (rg Tryd.prog 3 (fun u => some ((.held u : DataW Value), ([] : List MemPlace))))).foldr DataW.insert [])) hkne (.held val) zd
    rw [DataW.put_eq] at this
    exact this
  rcases Maps.fit_look false keyedInt under_ways (zeroInts w) hb F0 (keyI hs) with ⟨h1, h2, h3⟩ | ⟨e0, y, h1, h2, h3, h4, h5, _⟩ <;>
  rcases Maps.fit_look false keyedInt under_ways (zeroInts (Go.ChangeMaps.setBlock w b (.map es' clock'))) hb2 F1 (keyI hs) with ⟨k1, k2, k3⟩ | ⟨e1, y', k1, k2, k3, k4, k5, _⟩
  · rw [h1] at hr
    rw [k1]
    cases hr
    rfl
  · have := (h3 .nil).symm.trans ((hsame .nil).symm.trans (k5 .nil))
    injection k4 with k4
    rw [← k4] at this
    cases this
  · have := (k3 .nil).symm.trans ((hsame .nil).trans (h5 .nil))
    injection h4 with h4
    rw [← h4] at this
    cases this
  · rw [h3] at hr
    rw [k3]
    have := (h5 .nil).symm.trans ((hsame .nil).symm.trans (k5 .nil))
    injection h4 with h4
    injection k4 with k4
    rw [← h4, ← k4] at this
    injection this with this
    cases hr
    simp only [Bool.false_eq_true, if_false]
    rw [this]
theorem look5 {w1 w4 w5 : World} {M n : Nat} {D : DU} {s t : Int} {v val : Value} (ho : w1.ownsGroups Tryd.prog 3 (M + 1) 3 .i64 M n D) (hn : n < maxLen) (hG4 : w1.grownBy w4 none) (hs : fitI s) (ht : fitI t) (hne : s ≠ t)
    (hk : (Instr.lookup 50 (.map (some M)) (.int .i64 s) false).run Tryd.prog w4 = .ok v w4) (hrun : (Instr.mapUpdate 50 (.map (some M)) (.int .i64 t) val).run Tryd.prog w4 = .ok () w5) :
    (Instr.lookup 50 (.map (some M)) (.int .i64 s) false).run Tryd.prog w5 = .ok v w5 := by
  obtain ⟨es, clock, hb, F, hsz, _⟩ := ho
  exact look_stored ((hG4.block M (Array.getElem?_eq_some_iff.1 hb).1 (by simp)).trans hb) F (Nat.lt_of_le_of_lt hsz hn) hs ht hne hk hrun
theorem clone_reg {w1 W : World} {M g cap : Nat} {l : List Int} (hG : w1.grownBy W none) (hois : w1.ownsInts (M + 1) 3 .i64 (.slice (some ⟨g, 0, none⟩) l.length cap) l) (hl : l.length ≤ 1000) (hM : M + 1 ≤ w1.heap.size) :
    Calls Tryd.prog 26 #[.slice (some ⟨g, 0, none⟩) l.length cap] W fun e w' => ∃ v, e = .returned v ∧ w'.ownsRow (M + 1) 3 1 v l.length (l.map (Value.int .i64)) ∧ w1.grownBy w' none ∧ (∀ j, v.ownBlock = some j → w1.heap.size ≤ j) ∧ Below W.heap.size W w' :=
  (clone_core (M + 1) g cap l W hl (own_other hois.1 hG (.inr (by simp [Value.ownBlock])))).mono fun e w' ⟨v, he, ho, hb⟩ =>
    ⟨v, he, own_weaken ho (Nat.le_trans hM hG.size), gb_below hG hb, fun j hj => Nat.le_trans hG.size (ho.lt j hj).1, hb⟩
theorem back_reg {w1 Wa w4 : World} {M n g8 cap8 H : Nat} {D : DU} {l : List Int} {v5 : Value} {t k : Int} (hGa : w1.grownBy Wa none) (hv5 : ∀ j, v5.ownBlock = some j → w1.heap.size ≤ j) (hgrow8 : Wa.grownBy w4 v5.ownBlock) (hat8 : v5.ownBlock = some g8 ∨ g8 = H) (hH : Wa.heap.size = H)
    (hown8 : w4.ownsRow (M + 1) 3 1 (.slice (some ⟨g8, 0, none⟩) (l.length + 1) cap8) (l.length + 1) (l.map (Value.int .i64) ++ [.int .i64 k])) (hk : fitI k) (hl : ∀ z ∈ l, (Lit.int .i64 z).wf = true) (hln : l.length ≤ n)
    (hback : w1.groupBack Tryd.prog 50 3 (M + 1) 3 .i64 M n D (.int .i64 t) (.int .i64 t) (.slice none 0 0)) :
    ∃ w5, (Instr.mapUpdate 50 (.map (some M)) (.int .i64 t) (.slice (some ⟨g8, 0, none⟩) (l.length + 1) cap8)).run Tryd.prog w4 = .ok () w5 ∧ w5.ownsGroups Tryd.prog 3 (M + 1) 3 .i64 M (n + 1) (D.put (.int .i64 t) (litsU (l ++ [k]))) ∧
      w4.grownBy w5 (some M) ∧ w1.grownBy w4 none ∧ w1.heap.size ≤ g8 := by
  have hg4 : w1.grownBy w4 none := gb_row hGa hgrow8 hv5
  have hg8 : w1.heap.size ≤ g8 := by
    rcases hat8 with h | h
    · exact hv5 _ h
    · have := hGa.size; omega
  have hoi : w4.ownsInts (M + 1) 3 .i64 (.slice (some ⟨g8, 0, none⟩) (l.length + 1) cap8) (l ++ [k]) := by
    refine ⟨by simpa using hown8, fun z hz => ?_⟩
    rcases List.mem_append.1 hz with h | h
    · exact hl z h
    · simp at h
      subst h
      exact hk
  obtain ⟨w5, h1, h2, h3⟩ := hback w4 _ (l ++ [k]) hg4 hoi (by simp; omega) (.inr ⟨g8, rfl, hg8⟩)
  exact ⟨w5, h1, h2, h3, hg4, hg8⟩
theorem news_below {Wc w2 : World} {ad : Addr} {x : Value} (hb : Below Wc.heap.size Wc w2) (h : ∀ j u, [x][j]? = some u → Wc.cell? (ad.add j) = some u) : ∀ j u, [x][j]? = some u → w2.cell? (ad.add j) = some u := fun j u hu => pw_cell_below hb (h j u hu)
theorem off_of_none {v : Value} {M : Nat} {W : World} {n : Nat} {xs : List Value} (h : W.ownsRow (M + 1) 3 1 v n xs) : v.ownBlock = none ∨ v.ownBlock ≠ some M := by
  cases hv : v.ownBlock with
  | none => exact .inl rfl
  | some g => exact .inr fun q => by have := (h.lt g hv).1; injection q with q; omega
/-- What stands behind the store of the longer way. -/
theorem way_mid {w1 w4 w5 : World} {M Bw Bm n g8 : Nat} {D : DU} {st : St} {v v8 : Value} {t : Int} (hbw : w1.heap[Bw]? = some (.cells #[.map (some M)] 50 (0, 0))) (hm : w1.heap[Bm]? = some (.cells #[v] 22 (0, 0)))
    (ho : w1.ownsGroups Tryd.prog 3 (M + 1) 3 .i64 M n D) (hn : n < maxLen) (hrow : w1.ownsRow (M + 1) 3 1 v st.length (keysOf st)) (hsh : w1.Shuns M (met v)) (hG4 : w1.grownBy w4 none) (hg5 : w4.grownBy w5 (some M)) (ht : fitI t) (h8 : v8.ownBlock = some g8) (hg8 : w1.heap.size ≤ g8)
    (hrun : (Instr.mapUpdate 50 (.map (some M)) (.int .i64 t) v8).run Tryd.prog w4 = .ok () w5) :
    w5.heap[Bw]? = some (.cells #[.map (some M)] 50 (0, 0)) ∧ w5.heap[Bm]? = some (.cells #[v] 22 (0, 0)) ∧ w5.ownsRow (M + 1) 3 1 v st.length (keysOf st) ∧ w5.Shuns M (met v) := by
  refine ⟨blk_grown (blk_grown hbw hG4 (by simp)) hg5 (by simpa using map_not_cells ho hbw), blk_grown (blk_grown hm hG4 (by simp)) hg5 (by simpa using map_not_cells ho hm), own_other (own_other hrow hG4 (by cases v.ownBlock <;> simp)) hg5 (off_of_none hrow), ?_⟩
  refine shuns_stored ht ho hn hsh (fun g hg hN => ?_) hG4 hrun
  rw [h8] at hg
  injection hg with hg
  have := (hrow.lt g hN).2
  omega
theorem way_more {w5 w6 : World} {M Bw Bm n g9 cap9 : Nat} {D : DU} {st : St} {v : Value} {t : Int} {l : List Int} (hbw : w5.heap[Bw]? = some (.cells #[.map (some M)] 50 (0, 0))) (hm : w5.heap[Bm]? = some (.cells #[v] 22 (0, 0)))
    (ho : w5.ownsGroups Tryd.prog 3 (M + 1) 3 .i64 M n D) (hr : ReadsW D (st ++ [(t, l)])) (hn : n ≤ st.length + 1) (hrow : w5.ownsRow (M + 1) 3 1 v st.length (keysOf st)) (hsh : w5.Shuns M (met v))
    (hown9 : w6.ownsRow (M + 1) 3 1 (.slice (some ⟨g9, 0, none⟩) (st.length + 1) cap9) (st.length + 1) (keysOf st ++ [.int .i64 t])) (hgrow9 : (w5.alloc (.cells #[.int .i64 t] 3)).grownBy w6 v.ownBlock) (hat9 : v.ownBlock = some g9 ∨ g9 = w5.heap.size + 1) :
    w6.cell? ⟨Bm, 0, none⟩ = some v ∧ w6.frozen? ⟨Bm, 0, none⟩ = false ∧ WayAt (w6.setCell ⟨Bm, 0, none⟩ (.slice (some ⟨g9, 0, none⟩) (st.length + 1) cap9)) M Bw Bm (st ++ [(t, l)]) := by
  have hg0 : w5.grownBy (w5.alloc (.cells #[.int .i64 t] 3)) none := gb_alloc (gb_refl _) _
  have hMlt : M < w5.heap.size := by obtain ⟨es, clock, hb, _⟩ := ho; exact (Array.getElem?_eq_some_iff.1 hb).1
  have hne0 : ∀ {t' : TypeId} {cs : Array Value} {g : Nat}, w5.heap[g]? = some (.cells cs t' (0, 0)) → (3 : TypeId) ≠ t' → some g ≠ v.ownBlock := fun hg hne => own_ne hrow hg hne
  have hbm6 : w6.heap[Bm]? = some (.cells #[v] 22 (0, 0)) := blk_grown (blk_grown hm hg0 (by simp)) hgrow9 (hne0 hm (by decide))
  have hbw6 : w6.heap[Bw]? = some (.cells #[.map (some M)] 50 (0, 0)) := blk_grown (blk_grown hbw hg0 (by simp)) hgrow9 (hne0 hbw (by decide))
  have hmo : some M ≠ v.ownBlock := by
    rcases off_of_none hrow with h | h
    · rw [h]; simp
    · exact fun q => h q.symm
  have ho1 : (w5.alloc (.cells #[.int .i64 t] 3)).ownsGroups Tryd.prog 3 (M + 1) 3 .i64 M n D := ho.kept hg0 (by simp) (ho.rowsAbove (fun j q => by cases q))
  have hsh1 : (w5.alloc (.cells #[.int .i64 t] 3)).Shuns M (met v) := hsh.kept hg0 hMlt (by simp)
  have ho6 : w6.ownsGroups Tryd.prog 3 (M + 1) 3 .i64 M n D := ho1.kept hgrow9 hmo (hsh1.rowsOff (fun j q => q))
  have hsh6 : w6.Shuns M (met v) := hsh1.kept hgrow9 (by simp; omega) hmo
  have hlt6 : w5.heap.size + 1 ≤ w6.heap.size := by have := hgrow9.size; simpa using this
  have hsh7 : w6.Shuns M (met (.slice (some ⟨g9, 0, none⟩) (st.length + 1) cap9)) := by
    intro es clock hb x hx g hg hN
    have hN' : g = g9 := by injection hN with hN; exact hN.symm
    subst hN'
    rcases hat9 with h | h
    · exact hsh6 es clock hb x hx g hg h
    · obtain ⟨es', clock', hb', F, _⟩ := ho1
      have hb6 := (hgrow9.block M (by simp; omega) hmo).trans hb'
      obtain ⟨rfl, rfl⟩ : es' = es ∧ clock' = clock := by rw [hb6] at hb; simpa using hb
      obtain ⟨y, hy⟩ := F.reads x hx
      obtain ⟨z, hz, _⟩ := rd_val hy
      obtain ⟨zs, hoi, _⟩ := rowElem_inv hz
      have := (hoi.1.lt g hg).2
      have h2 : ∀ es clock, w5.heap[M]? = some (.map es clock) → ∀ x ∈ es.toList, ∀ g, x.val.ownBlock = some g → g < w5.heap.size := by
        obtain ⟨es2, clock2, hb2, F2, _⟩ := ho
        intro es3 clock3 hb3 x hx g hg
        obtain ⟨rfl, rfl⟩ : es2 = es3 ∧ clock2 = clock3 := by rw [hb2] at hb3; simpa using hb3
        obtain ⟨y, hy⟩ := F2.reads x hx
        obtain ⟨z, hz, _⟩ := rd_val hy
        obtain ⟨zs, hoi, _⟩ := rowElem_inv hz
        exact (hoi.1.lt g hg).2
      have hb5 : w5.heap[M]? = some (.map es' clock') := (Below.heap_alloc w5 _ M hMlt).symm.trans hb'
      have := h2 es' clock' hb5 x hx g hg
      omega
  have hgs : w6.grownBy (w6.setCell ⟨Bm, 0, none⟩ (.slice (some ⟨g9, 0, none⟩) (st.length + 1) cap9)) (some Bm) := gb_set _ _ _
  have hMb : some M ≠ some Bm := by
    intro q
    injection q with q
    exact map_not_cells ho hm q.symm
  refine ⟨blk_cell hbm6 0, blk_frozen hbm6 0, ⟨(blk_far hbw6 (blk_ne hbw6 hbm6 (by decide)) _), n, D, _, ho6.kept hgs hMb (groups_off ho6 hbm6 (by decide)), hr, by simpa using hn, ?_, ?_, hsh7.kept hgs (by omega) hMb⟩⟩
  · have := blk_set hbm6 0 (.slice (some ⟨g9, 0, none⟩) (st.length + 1) cap9)
    simpa using this
  · have h1 := own_other hown9 hgs (.inr (own_ne hown9 hbm6 (by decide)).symm)
    simpa [keysOf] using h1
set_option maxRecDepth 100000 in
set_option maxHeartbeats 4000000 in
theorem further_core (B M Bw Bm : Nat) (s : Int) (hs : fitI s) (st : St) (l : List Int) (hl : wayOf st s = some l) (hlen : st.length ≤ 100) (W : World) (hW : WayAt W M Bw Bm st) (hBM : B ≤ M) (hBw : B ≤ Bw) (hBm : B ≤ Bm) :
    Calls Tryd.prog 25 #[.int .i64 s, .pointer (some ⟨Bw, 0, none⟩), .pointer (some ⟨Bm, 0, none⟩)] W fun e w' => e = .returned (.tuple #[]) ∧ WayAt w' M Bw Bm (expand s st) ∧ Below B W w' := by
  obtain ⟨i0, hi, hz0, hz1, hz2⟩ := info_parts info_i64
  have hBW : B < W.heap.size := Nat.lt_of_le_of_lt hBw (blk_lt hW.bw)
  have HL := Lib.hid hl
  clear hl
  go_enter Tryd.func25, Tryd.ntmps25
  go_wp2_with fail
  go_step3
  go_wp2_with fail
  go_step3
  go_wp2_with fail
  go_loopw [9] (fun i wr => ∃ k : Nat, k ≤ 10 ∧ i = .int .i64 k ∧ WayAt wr M Bw Bm (stE s st k) ∧ Below B W wr) (fun i _ => 10 - (intOf i).toNat)
  case atStart => exact ⟨0, by omega, rfl, hW, Below.refl _ _⟩
  case round =>
    obtain ⟨k, hk, rfl, hA, hb⟩ := hrel
    by_cases hlt : k < 10
    · have hfk : fitI (k : Int) := fit_small (by omega) (by omega)
      cases hn : nextO s (k : Int) with
      | none =>
        have hE : stE s st (k + 1) = stE s st k := stepW_no hn
        have HE := Lib.hid hE
        clear hE
        have HN := Lib.hid hn
        clear hn
        go_wp2_with (first
          | (go_at_call 5; refine (next_none s (k : Int) hs hfk _ HN.out).mono ?_; rintro x w1 ⟨rfl, hb1⟩; have hA1 := hA.below hb1; have hcw := blk_cell hA1.bw 0; obtain ⟨n, D, v, ho, hr, hnn, hm, hrow, hsh⟩ := hA1.ex)
          | (at_lookup; refine wpList_lookup_groups_ok _ rfl _ _ 50 rfl 3 22 3 .i64 keyedInt under_ways (zeroInts _) (M + 1) M n D rfl ho (.int .i64 0) (.int .i64 0) rfl (keyI (fit_small (by omega) (by omega))) ?_; intro u; generalize has D (.int .i64 0) = bb; cases bb))
        all_goals
          go_roundw
          case rel => exact ⟨k + 1, by omega, by go_num, by rw [HE.out]; exact hA1, below_then hb (by have := hb.size; omega) hb1⟩
          case measure => simp [intOf]; omega
      | some t =>
        cases hw : (wayOf (stE s st k) t).isSome with
        | true =>
          have hE : stE s st (k + 1) = stE s st k := stepW_old hn hw
          have HE := Lib.hid hE
          clear hE
          have HN := Lib.hid hn
          clear hn
          have HW := Lib.hid hw
          clear hw
          have hft := nextO_fit HN.out
          go_wp2_with (first
            | (go_at_call 5; refine (next_some s (k : Int) t hs hfk _ HN.out).mono ?_; rintro x w1 ⟨rfl, hb1⟩; have hA1 := hA.below hb1; have hcw := blk_cell hA1.bw 0; obtain ⟨n, D, v, ho, hr, hnn, hm, hrow, hsh⟩ := hA1.ex)
            | (at_lookup; refine wpList_lookup_groups_ok _ rfl _ _ 50 rfl 3 22 3 .i64 keyedInt under_ways (zeroInts _) (M + 1) M n D rfl ho (.int .i64 t) (.int .i64 t) rfl (keyI (fit_small (by omega) (by omega))) ?_; intro u; rw [(hr.2 t (fit_small (by omega) (by omega))).1, HW.out]))
          go_roundw
          case rel => exact ⟨k + 1, by omega, by go_num, by rw [HE.out]; exact hA1, below_then hb (by have := hb.size; omega) hb1⟩
          case measure => simp [intOf]; omega
        | false =>
          have hw2 : wayOf (stE s st k) t = none := by simpa using hw
          have hsw := stE_way HL.out k
          have hE : stE s st (k + 1) = stE s st k ++ [(t, l ++ [(k : Int)])] := stepW_new hn hw2 hsw
          have HE := Lib.hid hE
          clear hE
          have HN := Lib.hid hn
          clear hn
          have HW := Lib.hid hw2
          clear hw hw2
          have HS := Lib.hid hsw
          clear hsw
          have hft := nextO_fit HN.out
          have hlenk := stE_len s st k
          go_wp2_with (first
            | (go_at_call 5; refine (next_some s (k : Int) t hs hfk _ HN.out).mono ?_; rintro x w1 ⟨rfl, hb1⟩; have hA1 := hA.below hb1; have hcw := blk_cell hA1.bw 0; obtain ⟨n, D, v, ho, hr, hnn, hm, hrow, hsh⟩ := hA1.ex)
            | (at_lookup; refine wpList_lookup_groups_ok _ rfl _ _ 50 rfl 3 22 3 .i64 keyedInt under_ways (zeroInts _) (M + 1) M n D rfl ho (.int .i64 t) (.int .i64 t) rfl (keyI (fit_small (by omega) (by omega))) ?_; intro u; rw [(hr.2 t (fit_small (by omega) (by omega))).1, HW.out]))
          have hkt : fitI t := fit_small (by omega) (by omega)
          have hnm : n < maxLen := by unfold maxLen; omega
          obtain ⟨gs, cs, hois, hln, hlk⟩ := WayAt.get ho hr hnm hs HS.out
          have HK := Lib.hid hlk
          clear hlk
          have HBK := Lib.hid (WayAt.back ho hr hnm hkt HW.out)
          have hB1 := blk_lt hA1.bw
          have hbwE := hA1.bw
          have hMw : Bw ≠ M := map_not_cells ho hbwE
          have hst : s ≠ t := by rintro rfl; have h1 := HS.out; rw [HW.out] at h1; cases h1
          have hM1 : M + 1 ≤ w1.heap.size := by obtain ⟨es, clock, hbM, _⟩ := ho; exact (Array.getElem?_eq_some_iff.1 hbM).1
          have HKS : Hid (∀ w', w1.grownBy w' none → w'.cell? ⟨Bw, 0, none⟩ = some (.map (some M)) ∧ (Instr.lookup 50 (.map (some M)) (.int .i64 s) false).run Tryd.prog w' = .ok (.slice (some ⟨gs, 0, none⟩) l.length cs) w') :=
            Lib.hid fun w' hg => ⟨blk_cell (blk_grown hbwE hg (by simp)) 0, HK.out w' hg⟩
          have HG0 := gb_refl w1
          have HR := Lib.hid hr
          clear hr hbwE
          go_region_held3 (fun w' => w'.cell? ⟨Bw, 0, none⟩ = some (.map (some M)) ∧ (Instr.lookup 50 (.map (some M)) (.int .i64 s) false).run Tryd.prog w' = .ok (.slice (some ⟨gs, 0, none⟩) l.length cs) w')
            (first
              | exact ⟨hc5, hl5⟩
              | (refine HKS.out _ ?_; first | assumption | exact gb_drew (gb_refl _) | exact gb_alloc (gb_drew (gb_refl _)) _ | exact gb_alloc hG5 _))
            (first
              | (go_at_call 26; refine (clone_reg (w1 := w1) (M := M) (by first | exact gb_drew (gb_refl _) | exact gb_alloc (gb_drew (gb_refl _)) _) hois (by omega) hM1).mono ?_; rintro e w2 ⟨v5, rfl, ho5, hG5, hv5, hb5⟩)
              | ((refine step_append_lies _ (by rfl) _ _ _ (by rfl) (M + 1) 3 i0 (.int .i64 0) 1 8 under_row hi hz0 hz1 hz2 rfl (by omega) v5 l.length (l.map (Value.int .i64)) (by rfl) (ho5.alloc _) ⟨_, 0, none⟩ 1 1 [.int .i64 (k : Int)] (by rfl) (by rfl) (cell_one_new _ _ _) (by simp [Value.oneCell']) (by omega) (by unfold maxLen; omega) (by omega) (by have := hG5.size; simp; omega) _ rfl ?_; intro g8 cap8 w4 hown8 hgrow8 hat8 hlt8; obtain ⟨w5, hrun5, hog5, hg5, hG4, hg8⟩ := back_reg (gb_alloc hG5 _) hv5 hgrow8 hat8 rfl hown8 hfk hois.2 hln HBK.out; have hc5 : w5.cell? ⟨Bw, 0, none⟩ = some (.map (some M)) := blk_cell (blk_grown (blk_grown hA1.bw hG4 (by simp)) hg5 (by simpa using hMw)) 0; have hl5 := look5 ho hnm hG4 hs hkt hst (HK.out _ hG4) hrun5))
              | ((refine step_append_lies _ (by rfl) _ _ _ (by rfl) (M + 1) 3 i0 (.int .i64 0) 1 8 under_row hi hz0 hz1 hz2 rfl (by omega) v5 l.length (l.map (Value.int .i64)) (by rfl) ho5 ⟨_, 0, none⟩ 1 1 [.int .i64 (k : Int)] (by rfl) (by rfl) (news_below hb5 (cell_one_new _ _ _)) (by simp [Value.oneCell']) (by omega) (by unfold maxLen; omega) (by omega) (by have := hG5.size; omega) _ rfl ?_; intro g8 cap8 w4 hown8 hgrow8 hat8 hlt8; obtain ⟨w5, hrun5, hog5, hg5, hG4, hg8⟩ := back_reg hG5 hv5 hgrow8 hat8 rfl hown8 hfk hois.2 hln HBK.out; have hc5 : w5.cell? ⟨Bw, 0, none⟩ = some (.map (some M)) := blk_cell (blk_grown (blk_grown hA1.bw hG4 (by simp)) hg5 (by simpa using hMw)) 0; have hl5 := look5 ho hnm hG4 hs hkt hst (HK.out _ hG4) hrun5)))
          all_goals
            obtain ⟨hbw5, hbm5, hrow5, hsh5⟩ := way_mid hA1.bw hm ho hnm hrow hsh hG4 hg5 hkt rfl hg8 hrun5
            have hcm5 := blk_cell hbm5 0
            go_wp2_with (at_builtin; refine wpList_append_lies _ rfl _ _ 22 rfl (M + 1) 3 i0 (.int .i64 0) 1 8 under_row hi hz0 hz1 hz2 rfl (by decide) v (stE s st k).length (keysOf (stE s st k)) rfl (hrow5.alloc _) ⟨_, 0, none⟩ 1 1 [.int .i64 t] rfl rfl (cell_one_new _ _ _) (by simp [Value.oneCell']) (by omega) (by unfold maxLen; omega) (by omega) (by have := hG4.size; have := hg5.size; simp; omega) (w5.heap.size + 1) (by simp) ?_; intro g9 cap9 w6 hown9 hgrow9 hat9 hlt9; obtain ⟨hc6, hf6, hA6⟩ := way_more (t := t) (l := l ++ [(k : Int)]) hbw5 hbm5 hog5 (HR.out.put hkt HW.out _) (by omega) hrow5 hsh5 hown9 hgrow9 hat9)
            go_roundw
            case rel =>
              have hB1 : Below B W w1 := below_then hb (by have := hb.size; omega) hb1
              have s1 := hB1.size
              have s4 := hG4.size
              have s5 := hg5.size
              have hB4 : Below B W w4 := hB1.grown hG4 (by omega) (fun j q => by cases q)
              have hB5 : Below B W w5 := hB4.grown hg5 (by omega) (fun j q => by injection q with q; omega)
              have hB6 := (hB5.alloc (by omega) (.cells #[.int .i64 t] 3)).grown hgrow9 (by simp; omega) (fun j q => by have := (hrow5.lt j q).1; omega)
              have s6 := hB6.size
              exact ⟨k + 1, by omega, by go_num, by rw [HE.out]; exact hA6, hB6.grown (gb_set _ _ _) (by omega) (fun j q => by injection q with q; omega)⟩
            case measure => simp [intOf]; omega
    · go_wp2
      have hk10 : k = 10 := by omega
      subst hk10
      rw [Exit.noGoto_normal]
      refine bodyPost_end (results_none rfl _ _ _) rfl ?_
      exact ⟨rfl, hA, hb⟩
end Go.Proofs.YtbbiihifhdcniaaDoor.Hand
