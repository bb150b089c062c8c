/- What 'protocol.Events' computes, by hand: a range over a map, in any order, and a sort. -/
import Derived.Test.YtbbiihifhdcniaaDoorHandNext
import Derived.Test.YtbbiihifhdcniaaDoorHandLaySort
import Derived.Sort.OwnSortedInts
import Derived.Shelf.SortM.SortNone
import Derived.Test.YtbbiihifhdcniaaDoorWWords
set_option linter.unusedVariables false
set_option linter.unusedSimpArgs false
namespace Go.Proofs.YtbbiihifhdcniaaDoor.Hand
set_option maxRecDepth 100000
open Go.RowKit Go.Maps Go.Sort Go.WideElems Go.Proofs.YtbbiihifhdcniaaDoorW.PrintWords

theorem keyLits_int_inv (d : Nat) {v : Value} {L : List Lit} (h : Tryd.prog.keyLits (d + 1) 3 [v] = some L) : ∃ n, v = .int .i64 n ∧ fitI n ∧ L = [.int .i64 n] := by
  unfold Program.keyLits at h
  rw [underInt] at h
  cases v <;> simp at h
  obtain ⟨⟨rfl, h1⟩, h2⟩ := h
  exact ⟨_, rfl, h1, h2.symm⟩
theorem stepK_inv {key : Value} {kl : Lit} (h : keyOf Tryd.prog 45 key = some kl) : ∃ s e, fitI s ∧ fitI e ∧ key = stepV s e ∧ kl = stepK s e := by
  obtain ⟨xs, L, rfl, hL, rfl⟩ := keyOf_top wideStep h
  obtain ⟨fs, hu⟩ : ∃ fs, Tryd.prog.underlying 45 = some (.struct fs) := ⟨_, rfl⟩
  have hfs : fs.toList.map (fun f => (f.name, f.type, f.offset)) = [("state", 3, 0), ("event", 3, 1)] := by
    have : (match Tryd.prog.underlying 45 with | some (.struct fs) => fs.toList.map (fun f => (f.name, f.type, f.offset)) | _ => []) = [("state", 3, 0), ("event", 3, 1)] := by kernel_rfl
    rw [hu] at this
    exact this
  obtain ⟨l⟩ := fs
  have hfs : l.map (fun f => (f.name, f.type, f.offset)) = [("state", 3, 0), ("event", 3, 1)] := hfs
  match l, hfs with
  | [f0, f1], hfs =>
    simp only [List.map_cons, List.map_nil, List.cons.injEq, Prod.mk.injEq, and_true] at hfs
    obtain ⟨⟨n0, t0, o0⟩, n1, t1, o1⟩ := hfs
    obtain ⟨d, hd⟩ : ∃ d, Tryd.prog.types.size = d + 1 := ⟨Tryd.prog.types.size - 1, (Nat.succ_pred_eq_of_pos (Nat.lt_of_le_of_lt (Nat.zero_le _) rowStep)).symm⟩
    rw [hd] at hL
    obtain ⟨xl⟩ := xs
    simp only [] at hL
    unfold Program.keyLits at hL
    rw [hu] at hL
    simp only [cellsStep] at hL
    split at hL
    · rename_i hlen
      have h2 : xl.length = 2 := hlen.1
      match xl, h2 with
      | [a, b], _ =>
        simp only [List.mapM_cons, List.mapM_nil, t0, t1, o0, o1, cellsInt, List.drop_zero, List.take_succ_cons, List.take_zero, List.drop_succ_cons, Option.map_eq_some_iff] at hL
        obtain ⟨Ls, hLs, rfl⟩ := hL
        cases hA : Tryd.prog.keyLits (d + 1) 3 [a] with
        | none => rw [hA] at hLs; simp at hLs
        | some La =>
          cases hB : Tryd.prog.keyLits (d + 1) 3 [b] with
          | none => rw [hA, hB] at hLs; simp at hLs
          | some Lb =>
            rw [hA, hB] at hLs
            obtain ⟨s, rfl, hs, rfl⟩ := keyLits_int_inv d hA
            obtain ⟨e, rfl, he, rfl⟩ := keyLits_int_inv d hB
            simp at hLs
            subst hLs
            exact ⟨s, e, hs, he, rfl, rfl⟩
    · cases hL
theorem elem_inv {v : Value} {y : DU × List MemPlace} (h : plainElem Tryd.prog 3 v = some y) : ∃ c, v = Value.int .i64 c := by
  obtain ⟨c, rfl, _⟩ := plainElem_int_inv underInt h
  exact ⟨c, rfl⟩
def evL (s : Int) : List Int := ((List.range 10).map Int.ofNat).filter fun e => (nextO s e).isSome
/-- What has been taken out, while these keys are still to come. -/
def Good (s : Int) (left : Lit → Bool) (xs : List Int) : Prop := xs.Nodup ∧ ∀ e, e ∈ xs ↔ fitI e ∧ (nextO s e).isSome = true ∧ left (stepK s e) = false
theorem Good.start (s : Int) (hs : fitI s) {D : DU} (hR : Reads D nextO) : Good s (has D) [] :=
  ⟨List.nodup_nil, fun e => ⟨fun h => (by cases h), fun ⟨h1, h2, h3⟩ => (by rw [(hR.2.1 s e hs h1).1, h2] at h3; cases h3)⟩⟩
theorem Good.take {s : Int} {left : Lit → Bool} {xs : List Int} (h : Good s left xs) (hs : fitI s) {e : Int} (he : fitI e) (hl : left (stepK s e) = true) (hn : (nextO s e).isSome = true) :
    Good s (fun z => left z && !z.sameKey (stepK s e)) (xs ++ [e]) := by
  have hni : e ∉ xs := fun q => by have := ((h.2 e).1 q).2.2; rw [hl] at this; cases this
  refine ⟨by rw [List.nodup_append]; exact ⟨h.1, by simp, fun a ha b hb q => by simp at hb; subst hb; subst q; exact hni ha⟩, fun x => ?_⟩
  rw [List.mem_append, List.mem_singleton]
  by_cases hx : x = e
  · subst hx
    have hk : (stepK s x).sameKey (stepK s x) = true := WideAt.sameKey_self (stepK_key _ _)
    simp [he, hn, hk]
  · constructor
    · rintro (q | q)
      · have := (h.2 x).1 q
        exact ⟨this.1, this.2.1, by simp [this.2.2]⟩
      · exact absurd q hx
    · rintro ⟨h1, h2, h3⟩
      refine .inl ((h.2 x).2 ⟨h1, h2, ?_⟩)
      have hk : (stepK s x).sameKey (stepK s e) = false := sameKey_ne fun q => hx (stepK_inj hs h1 hs he q).2
      simpa [hk] using h3
theorem Good.skip {s : Int} {left : Lit → Bool} {xs : List Int} (h : Good s left xs) (hs : fitI s) {s' e : Int} (hs' : fitI s') (he : fitI e) (hne : s' ≠ s) :
    Good s (fun z => left z && !z.sameKey (stepK s' e)) xs := by
  refine ⟨h.1, fun x => ?_⟩
  constructor
  · intro q
    have := (h.2 x).1 q
    exact ⟨this.1, this.2.1, by simp [this.2.2]⟩
  · rintro ⟨h1, h2, h3⟩
    refine (h.2 x).2 ⟨h1, h2, ?_⟩
    have hk : (stepK s x).sameKey (stepK s' e) = false := sameKey_ne fun q => hne (stepK_inj hs h1 hs' he q).1.symm
    simpa [hk] using h3
theorem nextO_dom {s e : Int} (h : (nextO s e).isSome = true) : 0 ≤ e ∧ e < 10 := by
  rcases Decidable.em (0 ≤ e ∧ e < 10) with h1 | h1
  · exact h1
  · exfalso
    have : nextO s e = none := by
      unfold nextO
      repeat rw [if_neg (by omega)]
    rw [this] at h
    cases h
theorem Good.done {s : Int} {left : Lit → Bool} {xs : List Int} (h : Good s left xs) (h0 : ∀ kl, left kl = false) : xs.mergeSort (fun x y => decide (x ≤ y)) = evL s := by
  have hp : xs.Perm (evL s) := by
    refine (List.perm_ext_iff_of_nodup h.1 ?_).2 fun e => ?_
    · exact List.Pairwise.filter _ (by decide)
    · rw [h.2 e]
      simp only [evL, List.mem_filter, List.mem_map, List.mem_range, h0, and_true]
      constructor
      · rintro ⟨h1, h2⟩
        have := nextO_dom h2
        exact ⟨⟨e.toNat, by omega, by simp; omega⟩, h2⟩
      · rintro ⟨⟨k, hk, rfl⟩, h2⟩
        refine ⟨?_, h2⟩
        have : ∀ k : Fin 10, fitI (Int.ofNat k.1) := by unfold fitI; decide
        exact this ⟨k, hk⟩
  have h1 : (xs.mergeSort fun x y => decide (x ≤ y)).Pairwise (fun x y => x ≤ y) := by
    have := List.pairwise_mergeSort (le := fun x y : Int => decide (x ≤ y)) (by intro a b c; simp; omega) (by intro a b; simp; omega) xs
    simpa using this
  have h2 : (evL s).Pairwise (fun x y => x ≤ y) := by
    refine List.Pairwise.filter _ ?_
    decide
  exact List.Perm.eq_of_pairwise (fun a b _ _ hab hba => by omega) h1 h2 ((List.mergeSort_perm _ _).trans hp)
theorem sort_own (base : Nat) (v : Value) (xs : List Int) (w : World) (ho : w.ownsRow base 3 1 v xs.length (xs.map (Value.int .i64))) (hsz : xs.length ≤ 1000) :
    Calls Tryd.prog 28 #[v] w fun e w' => e = .returned (.tuple #[]) ∧ w'.ownsRow base 3 1 v xs.length ((xs.mergeSort fun x y => decide (x ≤ y)).map (Value.int .i64)) ∧ w.grownBy w' v.ownBlock := by
  rcases ho.2 with ⟨rfl, h0⟩ | ⟨g, cap, cur, rfl, hg, hb, h1, h2, h3, h4⟩
  · refine (AnyM.slices_Sort_int_none laysSort none 0 w).mono ?_
    rintro e w' ⟨rfl, rfl⟩
    have : xs = [] := List.length_eq_zero_iff.1 h0
    subst this
    exact ⟨rfl, by rw [show ([] : List Int).mergeSort (fun x y => decide (x ≤ y)) = [] by simp]; exact ho, ⟨rfl, rfl, rfl, Nat.le_refl _, fun _ _ _ => rfl⟩⟩
  · have hH := holds_of_blockI (ss := xs) hb (by rw [Nat.mul_one] at h4; exact h4)
    refine (AnyM.slices_Sort_int laysSort g 0 cap xs w hH (Array.getElem?_eq_some_iff.1 hb).1 (by omega)).mono ?_
    rintro e w' ⟨rfl, n, os, rfl⟩
    exact ⟨rfl, ownsRow_sortedI (List.length_mergeSort _) hg hb h1 h2 h3, grownBy_sortedI _⟩
theorem info_int_ : (Tryd.prog.info? 3).map (fun i => (i.zero, i.size, i.bytes)) = some (some (.int .i64 0), 1, 8) := by kernel_rfl
theorem under_ints_ : Tryd.prog.underlying 22 = some (.slice 3) := by kernel_rfl
theorem own_lower {w : World} {B B' : Nat} {e : TypeId} {size : Nat} {v : Value} {n : Nat} {xs : List Value} (h : w.ownsRow B' e size v n xs) (hb : B ≤ B') : w.ownsRow B e size v n xs := by
  refine ⟨h.1, ?_⟩
  rcases h.2 with h0 | ⟨g, cap, cur, e1, hg, hr⟩
  · exact .inl h0
  · exact .inr ⟨g, cap, cur, e1, Nat.le_trans hb hg, hr⟩
theorem cell_one_new' (w : World) (x : Value) (t : TypeId) {n : Nat} (hn : w.heap.size = n) : ∀ j u, [x][j]? = some u → (w.alloc (.cells #[x] t)).cell? ((⟨n, 0, none⟩ : Addr).add j) = some u := hn ▸ cell_one_new w x t
theorem ranges_has {P : Program} {k : TypeId} {R : Value → Option (DU × List MemPlace)} {w : World} {b r n : Nat} {D : DU} {left : Lit → Bool} {cnt : Nat} (h : w.ranges P k R b r n D left cnt) (K : Keyed P k) {kl : Lit} (hk : left kl = true) : has D kl = true := by
  obtain ⟨es, clock, since, seen, c0, hb, F, hs, rfl, hr, hold, hc, hl1, hl2, _⟩ := h
  obtain ⟨x, hx, rfl⟩ := hl2 kl hk
  obtain ⟨y, hy⟩ := F.reads x hx
  exact List.any_eq_true.2 ⟨rg P k R x, mem_sorted.2 (List.mem_map.2 ⟨x, hx, rfl⟩), WideAt.sameKey_self (by rw [rg_of hy]; exact K.key (rd_key hy))⟩
set_option maxRecDepth 100000 in
set_option maxHeartbeats 4000000 in
theorem events_own (s : Int) (hs : fitI s) (w : World) : Calls Tryd.prog 14 #[.int .i64 s] w fun e w' => ∃ v, e = .returned v ∧ w'.ownsRow w.heap.size 3 1 v (evL s).length ((evL s).map (Value.int .i64)) ∧ Below w.heap.size w w' := by
  obtain ⟨i0, hi, hz0, hz1, hz2⟩ := info_parts info_int_
  go_enter Tryd.func14, Tryd.ntmps14
  go_wp2_with (first
    | (go_at_call 21; refine (leads_core _).mono ?_; rintro x w1 ⟨rfl, ⟨D, n, hown, hn, hR⟩, hB⟩)
    | (at_range; refine wpList_range_own _ rfl _ 42 rfl 45 3 lawStep underMap _ w.heap.size n _ rfl hown ?_; intro w0 hrg0 hg0 hs0))
  go_frame
  have hB0 : Below w.heap.size w w0 := hB.grown hg0 hB.size (fun j hj => by cases hj)
  have hszn : Maps.size D ≤ n := hown.size_le
  have hlow : w.heap.size < w1.heap.size := hown.lt
  go_loopw [3] (fun v wr => ∃ (left : Lit → Bool) (cnt : Nat) (xs : List Int), wr.ranges Tryd.prog 45 (plainElem (H := Unit) Tryd.prog 3) w.heap.size w1.heap.size n D left cnt ∧
      wr.ownsRow w0.heap.size 3 1 v xs.length (xs.map (Value.int .i64)) ∧ Good s left xs ∧ xs.length + cnt ≤ 40 ∧ Below w.heap.size w wr ∧ w0.heap.size ≤ wr.heap.size)
    (fun _ wr => wr.rangeLeft w.heap.size w1.heap.size)
  case atStart => exact ⟨_, _, [], hrg0, World.ownsRow_nil _ _ _ _, Good.start s hs hR, by simp; omega, hB0, Nat.le_refl _⟩
  case round =>
    obtain ⟨left, cnt, xs, hrg, hrow, hG, hc, hBw, hsz⟩ := hrel
    go_wp2_with (at_next; refine wpList_next_ranges _ rfl _ rfl 45 lawStep _ (fun p : Int × Int => stepV p.1 p.2) (Value.int .i64) (fun key kl hk => by obtain ⟨a, b, _, _, rfl, _⟩ := stepK_inv hk; exact ⟨(a, b), rfl⟩) (fun v y hv => elem_inv hv) w.heap.size w1.heap.size n _ _ _ rfl hrg ?_ ?_)
    · intro _ hl0
      go_wp2_with (go_at_call 28; refine (sort_own w0.heap.size _ xs _ hrow (by omega)).mono ?_; rintro x w3 ⟨rfl, ho3, hg3⟩)
      go_ret
      rw [hG.done hl0] at ho3
      refine ⟨_, rfl, ?_, ?_⟩
      · have hl : (evL s).length = xs.length := by rw [← hG.done hl0]; exact List.length_mergeSort _
        rw [hl]
        exact own_lower ho3 (by omega)
      · exact hBw.grown hg3 hBw.size (fun j ej => by have := (hrow.lt j ej).1; omega)
    · intro a b c kl y1 y2 w2 cnt2 hkey hlk hRv hat hrg2 hlt hg2 hs2 hen
      obtain ⟨a', b', ha, hb, hab, rfl⟩ := stepK_inv hkey
      obtain ⟨rfl, rfl⟩ : a = a' ∧ b = b' := by simpa [stepV] using hab
      clear hab hRv hat
      have hBw2 := hBw.grown hg2 hBw.size (fun j hj => by cases hj; omega)
      have hrow2 := hrow.kept hg2 (.inr (row_ne_iter hrow hrg).symm)
      have hsome := (hR.2.1 a b ha hb).1.symm.trans (ranges_has hrg lawStep hlk)
      rw [show stepV a b = .agg #[.int .i64 a, .int .i64 b] from rfl] at hen ⊢
      by_cases hq : a = s
      · subst hq
        have hrow3 := hrow2.alloc (.cells #[.int .i64 a, .int .i64 b] 45)
        have hrg3 := hrg2.alloc (.cells #[.int .i64 a, .int .i64 b] 45)
        go_wp2_with (at_builtin; refine wpList_append_own _ rfl _ _ 22 rfl w0.heap.size 3 i0 (.int .i64 0) 1 8 under_ints_ hi hz0 hz1 hz2 rfl (by decide) _ _ _ rfl (hrow3.alloc _) ⟨_, 0, none⟩ 1 1 [.int .i64 b] rfl rfl (cell_one_new' _ _ _ (by rw [World.size_alloc, hs2])) (fun x hx => by simp at hx; subst hx; rfl) (by unfold maxLen; omega) (by omega) (by simp; omega) ?_; intro v' w3 hown' hgrow _)
        go_roundw
        case rel => exact ⟨_, cnt2, xs ++ [b], (hrg3.alloc _).kept hgrow (row_ne_low hrow (by omega)) (row_ne_iter hrow hrg), by simpa using hown', hG.take hs hb hlk hsome, by simp; omega, ((hBw2.alloc hBw2.size _).alloc (by simp; omega) _).grown hgrow (by simp; omega) (fun j ej => by have := (hrow.lt j ej).1; omega), by have := hgrow.size; simp at this; omega⟩
        case measure => rw [((hrg3.alloc _).kept hgrow (row_ne_low hrow (by omega)) (row_ne_iter hrow hrg)).left_eq, hrg.left_eq]; exact hlt
      · have hqb : (a == s) = false := by simpa using hq
        have hrow3 := hrow2.alloc (.cells #[.int .i64 a, .int .i64 b] 45)
        have hrg3 := hrg2.alloc (.cells #[.int .i64 a, .int .i64 b] 45)
        go_wp2
        go_roundw
        case rel => exact ⟨_, cnt2, xs, hrg3, hrow3, hG.skip hs ha hb hq, by omega, hBw2.alloc hBw2.size _, by simp; omega⟩
        case measure => rw [hrg3.left_eq, hrg.left_eq]; exact hlt
def protocol_Events.f (a0 : Int) : Option (List Int) := if fitI a0 then some (evL a0) else none
theorem protocol_Events.calls (a0 : Int) (r : List Int) (w : World) (h : protocol_Events.f a0 = some r) : Calls Tryd.prog 14 #[.int .i64 a0] w fun e w' => ∃ v0, e = .returned v0 ∧ Kd.R (Kd.int .i64) 3 w' w.heap.size (fun _ => True) v0 r ∧ Below w.heap.size w w' := by
  unfold protocol_Events.f at h
  split at h
  · rename_i hf
    exact (events_own a0 hf w).mono fun e w' ⟨v, he, hr, hb⟩ => ⟨v, he, by rw [← Option.some.inj h]; exact Kd.R_of_own hr (fun _ _ => trivial), hb⟩
  · cases h
end Go.Proofs.YtbbiihifhdcniaaDoor.Hand
