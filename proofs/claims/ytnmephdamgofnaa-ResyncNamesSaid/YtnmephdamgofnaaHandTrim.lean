/- What 'midpoint.Trim' computes, by hand. -/
import Derived.Test.YtnmephdamgofnaaHandLft
import Derived.Test.YtnmephdamgofnaaHandLayTrim
import Derived.Laws.CopyOwn
import Derived.Deep.OwnRows
import Derived.Sort.OwnSortedInts
import Derived.Shelf.GgClosure.Gives
import Derived.Lib.Builder
set_option linter.unusedVariables false
set_option linter.unusedSimpArgs false
namespace Go.Proofs.Ytnmephdamgofnaa.Hand
open Go.RowKit Go.Shelf Go.Sort Go.Proofs.YtnmephdamgofnaaW.PrintWords Go.Proofs.YtnmephdamgofnaaW.PrintMore
attribute [local go_sem] Oper.semAt_some

/-- A value that may not be. -/
def wildB (n : Int) : Bool := decide (n < -4294967296) || decide (n > 4294967296)
theorem wild_at (w : World) : PredAt Try.prog 40 #[] (Value.int .i64) wildB w := fun W n _ => by
  unfold FnGives
  by_cases h0 : n < -4294967296
  · go_enter Try.func40, Try.ntmps40
    go_wp2
    go_ret
    exact ⟨by simp [wildB, h0], 0, rfl⟩
  · have h1 : decide (n < -4294967296) = false := by simpa using h0
    go_enter Try.func40, Try.ntmps40
    go_wp2
    go_ret
    exact ⟨by unfold wildB; rw [h1]; rfl, 0, rfl⟩
theorem any_wild (b off c : Nat) (zs : List Int) (w : World) (hbig : zs.length ≤ 9223372036854775807) (hc : ∀ j, j < zs.length → w.cell? ⟨b, off + j, none⟩ = some (.int .i64 zs[j]!)) :
    Calls Try.prog 41 #[.slice (some ⟨b, off, none⟩) zs.length c, .func (.func 40) #[] #[]] w fun e w' => e = .returned (.bool (zs.any wildB)) ∧ ∃ q, w' = w.drewN q := by
  have := AnyE.slices_ContainsFunc laysAny (Value.int .i64) wildB 40 #[] (enters_of Try.func40 (by kernel_rfl) rfl) b off zs.length c zs w (wild_at w) (Nat.le_refl _) hbig hc
  rw [List.take_length] at this
  exact this
theorem any_wildB (b off c : Nat) (zs : List Int) (r : Bool) (hr : zs.any wildB = r) (w : World) (hbig : zs.length ≤ 9223372036854775807) (hc : ∀ j, j < zs.length → w.cell? ⟨b, off + j, none⟩ = some (.int .i64 zs[j]!)) :
    Calls Try.prog 41 #[.slice (some ⟨b, off, none⟩) zs.length c, .func (.func 40) #[] #[]] w fun e w' => e = .returned (.bool r) ∧ ∃ q, w' = w.drewN q := by
  rw [← hr]
  exact any_wild b off c zs w hbig hc
def sortL (zs : List Int) : List Int := zs.mergeSort fun x y => decide (x ≤ y)
theorem sortL_len (zs : List Int) : (sortL zs).length = zs.length := List.length_mergeSort _
theorem sort_core (g cap : Nat) (zs : List Int) (t : TypeId) (w : World) (hb : w.heap[g]? = some (.cells (zs.map (Value.int .i64)).toArray t (0, 0))) (hsz : zs.length < 4611686018427387904) :
    Calls Try.prog 42 #[.slice (some ⟨g, 0, none⟩) zs.length cap] w fun e w' => e = .returned (.tuple #[]) ∧ w'.heap[g]? = some (.cells ((sortL zs).map (Value.int .i64)).toArray t (0, 0)) ∧ w.grownBy w' (some g) := by
  have hH := holds_of_blockI (ss := zs) hb (List.take_of_length_le (by simp))
  have := AnyM.slices_Sort_int laysSort g 0 cap zs w hH (Array.getElem?_eq_some_iff.1 hb).1 hsz
  refine this.mono ?_
  rintro e w' ⟨rfl, n, os, rfl⟩
  refine ⟨rfl, ?_, grownBy_sortedI _⟩
  rw [heap_sortedI _ hb]
  have hl : (sortL zs).length ≤ ((zs.map (Value.int .i64)).toArray).size := by rw [sortL_len]; simp
  have h1 := take_putCellsI (zs.map (Value.int .i64)).toArray (sortL zs) hl
  rw [List.take_of_length_le (by rw [sortL_len]; simp [putCells])] at h1
  rw [← h1]
  simp [sortL]
theorem info_i64 : (Try.prog.info? 2).map (fun i => (i.zero, i.size, i.bytes)) = some (some (.int .i64 0), 1, 8) := by kernel_rfl
theorem under_i64s : Try.prog.underlying 26 = some (.slice 2) := by kernel_rfl

theorem made_block (W : World) (n s : Nat) (e : TypeId) (z : Value) (hs : W.heap.size = s) : (W.alloc (.cells (madeCells #[z] n) e)).heap[s]? = some (.cells (List.replicate n z).toArray e (0, 0)) := by
  subst hs
  rw [heap_alloc_new]
  congr 2
  apply Array.ext
  · simp [size_madeCells]
  · intro i h1 h2
    simp [madeCells, Nat.mod_one]
theorem addr_add (b off j : Nat) : (⟨b, off, none⟩ : Addr).add j = ⟨b, off + j, none⟩ := by unfold Addr.add; split <;> simp_all
def sndV (pre : List (Int × Int)) : List Int := pre.map Prod.snd
def cutV (pre : List (Int × Int)) : List Int := sndV pre.dropLast
def AllGe (k : Int) (pre : List (Int × Int)) : Prop := ∀ x ∈ pre, k ≤ x.1
def BrkAt (k : Int) (pre : List (Int × Int)) : Prop := ∃ q x, pre = q ++ [x] ∧ x.1 < k ∧ AllGe k q
theorem sndV_snoc (pre : List (Int × Int)) (x : Int × Int) : sndV (pre ++ [x]) = sndV pre ++ [x.2] := by simp [sndV]
theorem sndV_len (pre : List (Int × Int)) : (sndV pre).length = pre.length := by simp [sndV]
theorem cutV_snoc (pre : List (Int × Int)) (x : Int × Int) : cutV (pre ++ [x]) = sndV pre := by simp [cutV]
theorem allGe_snoc {k : Int} {pre : List (Int × Int)} {x : Int × Int} (h : AllGe k pre) (hx : k ≤ x.1) : AllGe k (pre ++ [x]) := by
  intro y hy
  rcases List.mem_append.1 hy with h1 | h1
  · exact h y h1
  · rw [List.mem_singleton.1 h1]; exact hx
/-- What came out when the loop ran out, or broke. -/
theorem lft_done (zs : List Int) (k : Nat) (hk : 2 * k + 1 ≤ zs.length) (h : AllGe k (lftL zs k (zs.length - k))) : sndV (lftL zs k (zs.length - k)) = (zs.drop k).take (zs.length - 2 * k) := by
  have hk0 : k = 0 := by
    have hm : lftA zs k (zs.length - k - 1) ∈ lftL zs k (zs.length - k) := List.mem_map.2 ⟨_, List.mem_range.2 (by omega), rfl⟩
    have := h _ hm
    simp only [lftA] at this
    omega
  subst hk0
  simp only [lftL, sndV, List.map_map, Nat.sub_zero, Nat.mul_zero, List.drop_zero, List.take_length]
  apply List.ext_getElem
  · simp
  · intro i h1 h2
    simp [lftA, h2]
theorem lft_broke (zs : List Int) (k : Nat) (hk : 2 * k + 1 ≤ zs.length) (pre : List (Int × Int)) (hp : pre <+: lftL zs k (zs.length - k)) (h : BrkAt k pre) : cutV pre = (zs.drop k).take (zs.length - 2 * k) := by
  obtain ⟨q, x, rfl, hx, hq⟩ := h
  rw [cutV_snoc]
  have hl : q.length + 1 ≤ zs.length - k := by
    have := hp.length_le
    rw [lftL_len] at this
    simpa using this
  have hget : ∀ i, i < q.length + 1 → (q ++ [x])[i]? = some (lftA zs k i) := by
    intro i hi
    obtain ⟨t, ht⟩ := hp
    have : (q ++ [x])[i]? = (lftL zs k (zs.length - k))[i]? := by rw [← ht]; exact (List.getElem?_append_left (by simp; omega)).symm
    rw [this]
    simp [lftL, show i < zs.length - k by omega]
  have hxl : x = lftA zs k q.length := by
    have := hget q.length (by omega)
    simpa using this
  have h1 : zs.length - 2 * k ≤ q.length := by
    rw [hxl] at hx
    simp only [lftA] at hx
    omega
  have h2 : q.length ≤ zs.length - 2 * k := by
    rcases Nat.lt_or_ge (zs.length - 2 * k) q.length with h3 | h3
    · have h4 := hget (zs.length - 2 * k) (by omega)
      rw [List.getElem?_append_left h3] at h4
      have h5 := hq _ (List.mem_of_getElem? h4)
      simp only [lftA] at h5
      omega
    · exact h3
  apply List.ext_getElem?
  intro i
  by_cases hi : i < q.length
  · have h4 := hget i (by omega)
    rw [List.getElem?_append_left hi] at h4
    simp only [sndV, List.getElem?_map, h4, Option.map_some, lftA]
    rw [List.getElem?_take_of_lt (by omega), List.getElem?_drop, List.getElem?_eq_getElem (by omega), List.getD_eq_getElem?_getD, List.getElem?_eq_getElem (by omega)]
    rfl
  · rw [List.getElem?_eq_none (by rw [sndV_len]; omega), List.getElem?_eq_none (by simp; omega)]
set_option maxRecDepth 100000 in
set_option maxHeartbeats 4000000 in
theorem trim_good (b off c : Nat) (l : List Int) (k : Nat) (hk : 2 * k + 1 ≤ l.length) (hbig : l.length ≤ 1000000) (hw : l.any wildB = false) (w : World) (hb : b < w.heap.size)
    (hc : ∀ j, j < l.length → w.cell? ⟨b, off + j, none⟩ = some (.int .i64 l[j]!)) :
    CallsIn Fence.wide 3 Try.prog 28 #[.slice (some ⟨b, off, none⟩) l.length c, .int .i64 k] w fun e W' => ∃ v, e = .returned (.tuple #[v, .int .i64 0]) ∧ W'.ownsRow w.heap.size 2 1 v (l.length - 2 * k) (((sortL l).drop k |>.take (l.length - 2 * k)).map (Value.int .i64)) ∧ Below w.heap.size w W' := by
  obtain ⟨i0, hi, hz0, hz1, hz2⟩ := info_parts info_i64
  have hs1 : (Try.prog.info? 2).map (·.size) = some 1 := by rw [hi]; simp [hz1]
  have c1 : decide ((k : Int) < 0) = false := decide_eq_false (by omega)
  have c2 : ((l.length : Int) == 0) = false := by simp; intro h; simp [h] at hk
  have c3 : decide (((l.length : Int) - 1) / 2 < (k : Int)) = false := decide_eq_false (by omega)
  have hH : Hid (∀ j, j < l.length → w.cell? ⟨b, off + j, none⟩ = some (.int .i64 l[j]!)) := hc
  clear hc
  refine callsIn_of_wp_marks Try.func28 rfl trivial ?_ rfl
  simp only [Try.ntmps28, List.size_toArray, List.length_cons, List.length_nil, Nat.reduceAdd, Nat.reduceSub, Array.replicate_succ, Array.replicate_zero, List.push_toArray, List.append_toArray, List.nil_append, List.cons_append]
  have hsrc : ∀ j v, (l.map (Value.int .i64))[j]? = some v → w.cell? ((⟨b, off, none⟩ : Addr).add j) = some v := by
    intro j v hj
    rw [List.getElem?_map] at hj
    obtain ⟨x, hx, rfl⟩ := Option.map_eq_some_iff.1 hj
    have hlt : j < l.length := (List.getElem?_eq_some_iff.1 hx).1
    have := hH.out j hlt
    rw [getElem!_pos l j hlt, (List.getElem?_eq_some_iff.1 hx).2] at this
    rw [← this, addr_add]
  have HS := Lib.hid hsrc
  clear hsrc
  gi_wp2
  refine wpIn_wide.2 (wp_scope_straight ?_)
  go_wp2_with (first
    | (go_at_call 41; refine (any_wildB b off c l false hw _ (by omega) (fun j hj => (((Below.refl _ w).alloc (Nat.le_refl _) _).cell (p := ⟨b, off + j, none⟩) hb).trans (hH.out j hj))).mono ?_; rintro e w' ⟨rfl, q, rfl⟩)
    | (refine wpList_make_row _ rfl _ _ 26 rfl 2 i0 (.int .i64 0) under_i64s hi hz0 hz1 rfl .i64 .i64 l.length rfl rfl (by rw [hz2]; omega) (by omega) ?_))
  obtain ⟨X, hX⟩ : ∃ X, ((w.alloc (.cells #[.int .i64 k] 3)).drewN q).alloc (.cells (madeCells #[.int .i64 0] l.length) 2) = X := ⟨_, rfl⟩
  have hg0 : X.heap[w.heap.size + 1]? = some (.cells (List.replicate l.length (.int .i64 0)).toArray 2 (0, 0)) := by rw [← hX]; exact made_block _ _ _ _ _ (by simp)
  have hBX : Below w.heap.size w X := by rw [← hX]; exact (below_drewN' ((Below.refl _ w).alloc (Nat.le_refl _) _) q).alloc (by simp) _
  have hBX1 : Below (w.heap.size + 1) (w.alloc (.cells #[.int .i64 k] 3)) X := by rw [← hX]; exact (below_drewN' (Below.refl _ _) q).alloc (by simp) _
  have hk0 : X.cell? ⟨w.heap.size, 0, none⟩ = some (.int .i64 k) := (hBX1.cell (p := ⟨w.heap.size, 0, none⟩) (by show w.heap.size < _; omega)).trans (by simp [go_sem])
  have hrun := run_copy_row (P := Try.prog) X 26 26 3 2 (w.heap.size + 1) 0 l.length l.length ⟨b, off, none⟩ l.length c (List.replicate l.length (.int .i64 0)).toArray 2 (l.map (Value.int .i64)) under_i64s hs1 hg0 (by simp)
    (fun j v hj => pw_cell_below hBX (HS.out j v hj)) (by simp) (by intro v hv; obtain ⟨x, _, rfl⟩ := List.mem_map.1 hv; rfl)
  have hset : (List.take 0 (List.replicate l.length (Value.int .i64 0)).toArray.toList ++ l.map (Value.int .i64) ++ List.drop (0 + (l.map (Value.int .i64)).length) (List.replicate l.length (Value.int .i64 0)).toArray.toList).toArray = (l.map (Value.int .i64)).toArray := by simp
  rw [hset] at hrun
  rw [hX, hrun]
  simp only [Result.andThen]
  rw [Oper.upon_value]
  obtain ⟨Y, hY⟩ : ∃ Y, X.setRow (w.heap.size + 1) (l.map (Value.int .i64)).toArray = Y := ⟨_, rfl⟩
  have hg1 : Y.heap[w.heap.size + 1]? = some (.cells (l.map (Value.int .i64)).toArray 2 (0, 0)) := by rw [← hY]; exact setRow_heap X _ _ _ _ _ hg0
  have hBY : Below (w.heap.size + 1) X Y := by rw [← hY]; exact below_setRow (Below.refl _ _) (Nat.le_refl _) _
  rw [hY]
  go_wp2_with (go_at_call 42; refine (sort_core (w.heap.size + 1) l.length l 2 Y hg1 (by omega)).mono ?_; rintro e Z ⟨rfl, hg2, hgr⟩)
  have hBY1 : Below w.heap.size w Y := hBX.trans (hBY.mono (by omega))
  have hBZ : Below w.heap.size w Z := hBY1.grown hgr hBY1.size (fun k e => by cases e; omega)
  have hBXZ : Below (w.heap.size + 1) X Z := hBY.grown hgr (by have := hBY.size; have := (Array.getElem?_eq_some_iff.1 hg0).1; omega) (fun k e => by cases e; omega)
  have hszZ : w.heap.size + 1 < Z.heap.size := (Array.getElem?_eq_some_iff.1 hg2).1
  have hkZ : Z.cell? ⟨w.heap.size, 0, none⟩ = some (.int .i64 k) := (hBXZ.cell (p := ⟨w.heap.size, 0, none⟩) (by show w.heap.size < _; omega)).trans hk0
  have hMZ : ∀ j, j < (sortL l).length → Z.cell? ⟨w.heap.size + 1, j, none⟩ = some (.int .i64 ((sortL l).getD j 0)) := by
    intro j hj
    rw [Lib.cell_of_heap hg2, List.getElem?_toArray, List.getElem?_map, List.getElem?_eq_getElem hj, List.getD_eq_getElem?_getD, List.getElem?_eq_getElem hj]
    rfl
  have hMH := Lib.hid hMZ
  clear hMZ hg2 hgr hg1 hBY hrun hset hk0 hBX1 hg0 hY hX
  refine (wpIn_wide (n := 3)).1 ?_
  refine wpIn_label ?_
  have hkZ1 : (Z.alloc (.cells #[.slice none 0 0] 26)).cell? ⟨w.heap.size, 0, none⟩ = some (.int .i64 k) := (((Below.refl _ Z).alloc (Nat.le_refl _) _).cell (p := ⟨w.heap.size, 0, none⟩) (by show w.heap.size < _; omega)).trans hkZ
  go_wp2_with (go_at_call 43; refine (callsIn_wide.1 (left_in 2 _ rfl rfl _ _)).mono ?_; rintro e w' ⟨rfl, rfl⟩)
  refine (wpIn_wide (n := 3)).1 ?_
  obtain ⟨V, hV⟩ : ∃ V, ((Z.alloc (.cells #[.slice none 0 0] 26)).alloc (.cells #[.slice (some ⟨w.heap.size + 1, 0, none⟩) l.length l.length] 26)).alloc (.cells #[.int .i64 k] 3) = V := ⟨_, rfl⟩
  have hsz : V.heap.size = Z.heap.size + 3 := by rw [← hV]; simp
  have hBV1 : Below Z.heap.size Z V := by rw [← hV]; exact (((Below.refl _ Z).alloc (Nat.le_refl _) _).alloc (by simp) _).alloc (by simp <;> omega) _
  have hBV : Below w.heap.size w V := hBZ.trans (hBV1.mono (by omega))
  have bO : Boxed V Z.heap.size 26 (.slice none 0 0) := by
    have b := ((Boxed.new Z 26 (.slice none 0 0)).alloc (.cells #[.slice (some ⟨w.heap.size + 1, 0, none⟩) l.length l.length] 26)).alloc (.cells #[.int .i64 k] 3)
    rwa [hV] at b
  have c0 : V.cell? ⟨w.heap.size, 0, none⟩ = some (.int .i64 k) := (hBV1.cell (p := ⟨w.heap.size, 0, none⟩) (by show w.heap.size < _; omega)).trans hkZ
  have cS : V.cell? ⟨Z.heap.size + 1, 0, none⟩ = some (.slice (some ⟨w.heap.size + 1, 0, none⟩) (sortL l).length l.length) := by rw [← hV, sortL_len]; simp [go_sem]
  have cK : V.cell? ⟨Z.heap.size + 1 + 1, 0, none⟩ = some (.int .i64 k) := by rw [← hV]; simp [go_sem]
  have cM : ∀ j, j < (sortL l).length → V.cell? ⟨w.heap.size + 1, j, none⟩ = some (.int .i64 ((sortL l).getD j 0)) := fun j hj => (hBV1.cell (p := ⟨w.heap.size + 1, j, none⟩) hszZ).trans (hMH.out j hj)
  rw [hV]
  have hlen := sortL_len l
  refine wpIn_rangeFunc_ownG rfl (by omega) (gf := 65) (lb := #[.pointer (some ⟨Z.heap.size + 1 + 1, 0, none⟩), .pointer (some ⟨Z.heap.size + 1, 0, none⟩)]) rfl trivial (enters_of Try.func65 (by kernel_rfl) rfl)
    (left_stops 2 (Z.heap.size + 1 + 1) (Z.heap.size + 1) (w.heap.size + 1) (sortL l) k l.length (by omega) (by omega) V (by omega) (by omega) (by omega) cK cS cM) kblk_t kblk_b (Below.refl _ _) (fun _ => rfl)
    (fun pre W => ((∃ v, Boxed W Z.heap.size 26 v ∧ W.ownsRow V.heap.size 2 1 v (sndV pre).length ((sndV pre).map (Value.int .i64)) ∧ True) ∧ (W.cell? ⟨w.heap.size, 0, none⟩ = some (.int .i64 k) ∧ V.heap.size ≤ W.heap.size ∧ AllGe k pre)) ∧ Below w.heap.size w W)
    (fun c pre W => ((∃ v, Boxed W Z.heap.size 26 v ∧ W.ownsRow V.heap.size 2 1 v (cutV pre).length ((cutV pre).map (Value.int .i64)) ∧ True) ∧ (c = .exit 0 ∧ BrkAt k pre)) ∧ Below w.heap.size w W)
    (OwnFrom.and (OwnFrom.and (Own.from (holdsRow_own V.heap.size Z.heap.size 26 2 1 (fun pre => (sndV pre).length) (fun pre => (sndV pre).map (Value.int .i64)) (fun _ _ => True)) _) (Own.from (fun s A B row hs hg hr => ⟨cell_kept hs.1 hg hr, Nat.le_trans hs.2.1 hg.size, hs.2.2⟩) _)) (ownFrom_below (Nat.le_refl _) (by omega)))
    (fun c => OwnFrom.and (OwnFrom.and (Own.from (holdsRow_own V.heap.size Z.heap.size 26 2 1 (fun pre => (cutV pre).length) (fun pre => (cutV pre).map (Value.int .i64)) (fun _ _ => True)) _) (Own.from (fun s A B row hs hg hr => hs) _)) (ownFrom_below (Nat.le_refl _) (by omega)))
    ⟨⟨⟨_, bO, World.ownsRow_nil _ _ _ _, trivial⟩, c0, Nat.le_refl _, fun _ h => by cases h⟩, hBV⟩
    (fun x => { tmps := #[.slice (some ⟨b, off, none⟩) l.length c, .int .i64 k, undef, .pointer (some ⟨w.heap.size, 0, none⟩), .slice none 0 0, .int .i64 0, .func (.func 40) #[] #[], .slice (some ⟨w.heap.size + 1, 0, none⟩) l.length l.length, .pointer (some ⟨Z.heap.size, 0, none⟩), .int .i64 x.1, .int .i64 x.2, .int .i64 k, .bool false, .bool false, .slice (some ⟨b, off, none⟩) l.length c, .int .i64 l.length, .bool false, .bool false, .bool false, .int .i64 k, .slice (some ⟨b, off, none⟩) l.length c, .int .i64 l.length, .int .i64 ((l.length : Int) - 1), .int .i64 (((l.length : Int) - 1) / 2), .bool false, .bool false, .bool false, .slice (some ⟨b, off, none⟩) l.length c, .func (.func 40) #[] #[], .bool false, .bool false, .slice (some ⟨b, off, none⟩) l.length c, .int .i64 l.length, .slice (some ⟨w.heap.size + 1, 0, none⟩) l.length l.length, .slice (some ⟨w.heap.size + 1, 0, none⟩) l.length l.length, .slice (some ⟨b, off, none⟩) l.length c, .int .i64 l.length, .slice (some ⟨w.heap.size + 1, 0, none⟩) l.length l.length, .tuple #[], .slice (some ⟨w.heap.size + 1, 0, none⟩) l.length l.length, .int .i64 k, .func (.func 65) #[] #[.pointer (some ⟨Z.heap.size + 1 + 1, 0, none⟩), .pointer (some ⟨Z.heap.size + 1, 0, none⟩)], .int .i64 x.1, .int .i64 x.2, undef, undef, undef, undef, undef, undef, undef, undef], defers := [] }) ?assign ?body ?done ?stop
  case assign =>
    intro l x W K hK
    gi_wp2
    exact hK
  case body =>
    rintro l0 pre x W ⟨⟨⟨v, hv, hrow, hnil⟩, hc0, hs0, hall⟩, hB⟩ hlt
    have hc := hv.cell
    have hBs := hB.size
    by_cases hx : x.1 < (k : Int)
    · gi_wp2
      exact ⟨KeepsFrom.refl _ _, ⟨⟨v, hv, by rw [cutV_snoc]; exact hrow, trivial⟩, rfl, pre, x, rfl, hx, hall⟩, hB⟩
    · have hx2 : decide (x.1 < (k : Int)) = false := decide_eq_false hx
      have hpl : (sndV pre).length ≤ 1000000 := by rw [sndV_len]; omega
      gi_wp2_with (gi_at_builtin; refine wpListIn_append_own _ rfl _ _ 26 rfl V.heap.size 2 i0 (.int .i64 0) 1 8 under_i64s hi hz0 hz1 hz2 rfl (by decide) _ _ _ rfl (hrow.alloc _) ⟨_, 0, none⟩ 1 1 [.int .i64 x.2] rfl rfl (cell_one_new _ _ _) (by simp [Value.oneCell']) (by unfold maxLen; omega) (by omega) (by simp; omega) ?_; intro v' w1 hown' hgrow _; obtain ⟨g', cap', rfl⟩ := ownsRow_succ hown'; obtain ⟨hv1, hv2, hr2, hk2, hb2⟩ := hv.appended (by decide) (own_less hrow (by omega : w.heap.size ≤ V.heap.size)) hB.size (by omega) (own_less hown' (by omega : w.heap.size ≤ V.heap.size)) hgrow; have hc1 := hv1.cell; have hf1 := hv1.frozen)
      have hq := hown'.kept (grownBy_setCell' w1 Z.heap.size (.slice (some ⟨g', 0, none⟩) ((sndV pre).length + 1) cap')) (.inr (hv1.not_row (by decide) hown').symm)
      have hbN : Below V.heap.size _ w1 := ((Below.refl V.heap.size _).alloc hs0 _).grown hgrow (by simp; omega) (fun j ej => by
        rcases hrow.2 with ⟨rfl, _⟩ | ⟨gg, cap, cur, rfl, hb, _, _⟩
        · exact nomatch (show (none : Option Nat) = some j from ej)
        · cases (show some gg = some j from ej); exact hb)
      have k0 := (hbN.cell (p := ⟨w.heap.size, 0, none⟩) (by show w.heap.size < _; omega)).trans hc0
      have kk : KBlk [Z.heap.size + 1 + 1, Z.heap.size + 1, w.heap.size + 1] W (w1.setCell ⟨Z.heap.size, 0, none⟩ (.slice (some ⟨g', 0, none⟩) ((sndV pre).length + 1) cap')) := by
        intro B hBm o u hu
        have hlt : B < V.heap.size ∧ B ≠ Z.heap.size := by
          simp only [List.mem_cons, List.not_mem_nil, or_false] at hBm
          omega
        exact (World.cell?_setCell_other _ _ _ _ (by intro e; cases e; exact hlt.2 rfl)).trans ((hbN.cell (p := ⟨B, o, none⟩) hlt.1).trans hu)
      exact ⟨hk2.from _, kk, ⟨⟨_, hv2, by rw [hsz] at hq; rw [sndV_snoc]; simpa using hq⟩, (World.cell?_setCell_other _ _ _ _ (by simp)).trans k0, by have := hb2.size; omega, allGe_snoc hall (by omega)⟩, hB.trans hb2⟩
  case done =>
    rintro D ys W hD rfl ⟨⟨⟨v, hv, hrow, hnil⟩, hc0, hs0, hall⟩, hB⟩ hK
    have hc := hv.cell
    have hpure := lft_done (sortL l) k (by omega) hall
    rw [hpure, hlen] at hrow
    have hR := Lib.hid hrow
    clear hrow hpure
    gi_wp2
    go_wp2
    refine ⟨by simp, .inl ⟨_, _, rfl, run_takeDeferred hK, ?_⟩⟩
    refine ⟨_, results_tmp2 rfl _ _ _, v, rfl, ?_, hB.trans (belowK_b (w := w) (Nat.le_refl _) W D _ _ (by omega) hK rfl rfl)⟩
    have hr := hR.out
    rw [show (((sortL l).drop k).take (l.length - 2 * k)).length = l.length - 2 * k by simp; omega] at hr
    exact ownsRow_putObj (own_less hr (by omega)) _ hK rfl
  case stop =>
    rintro D c pre W hD hpre ⟨⟨⟨v, hv, hrow, hnil⟩, rfl, hbr⟩, hB⟩ hK
    have hc := hv.cell
    have hpure := lft_broke (sortL l) k (by omega) pre hpre hbr
    rw [hpure, hlen] at hrow
    have hR := Lib.hid hrow
    clear hrow hpure
    gi_wp2
    go_wp2
    refine ⟨by simp, .inl ⟨_, _, rfl, run_takeDeferred hK, ?_⟩⟩
    refine ⟨_, results_tmp2 rfl _ _ _, v, rfl, ?_, hB.trans (belowK_b (w := w) (Nat.le_refl _) W D _ _ (by omega) hK rfl rfl)⟩
    have hr := hR.out
    rw [show (((sortL l).drop k).take (l.length - 2 * k)).length = l.length - 2 * k by simp; omega] at hr
    exact ownsRow_putObj (own_less hr (by omega)) _ hK rfl
theorem row_at {w : World} {A : Option Addr} {l : List Int} (h : Kd.C (Kd.int .i64) w A l.length l) (hl : l ≠ []) : ∃ b off, A = some ⟨b, off, none⟩ ∧ b < w.heap.size ∧ ∀ j, j < l.length → w.cell? ⟨b, off + j, none⟩ = some (.int .i64 l[j]!) := by
  have h0 : 0 < l.length := by cases l with | nil => exact absurd rfl hl | cons _ _ => simp
  obtain ⟨ad, hA, hc⟩ := Kd.at_int h 0 (by omega) (by omega)
  obtain ⟨b, off, sp⟩ := ad
  have hsp : sp = none := by
    simp only [Int.toNat_zero, Addr.add] at hc
    cases sp with
    | none => rfl
    | some q =>
      simp only [if_true, World.cell?] at hc
      cases hh : w.heap[b]? with
      | none => simp [hh] at hc
      | some o => cases o <;> simp [hh] at hc
  subst hsp
  refine ⟨b, off, hA, ?_, ?_⟩
  · have := World.block_lt_of_cell? w _ hc
    simpa [Addr.add] using this
  · intro j hj
    obtain ⟨ad, hA', hc'⟩ := Kd.at_int h (j : Int) (by omega) (by omega)
    rw [hA] at hA'
    cases hA'
    rw [Int.toNat_natCast, addr_add] at hc'
    rw [hc', getElem!_pos l j hj]
    unfold Go.Proofs.YtnmephdamgofnaaW.PrintWords.rd
    rw [Int.toNat_natCast, List.getD_eq_getElem?_getD, List.getElem?_eq_getElem hj, Option.getD_some]
set_option maxRecDepth 100000 in
set_option maxHeartbeats 2000000 in
theorem trim_neg (v : Value) (k : Int) (hk : k < 0) (w : World) : Calls Try.prog 28 #[v, .int .i64 k] w fun e w' => e = .returned (.tuple #[.slice none 0 0, .int .i64 140]) ∧ Below w.heap.size w w' := by
  go_enter Try.func28, Try.ntmps28
  go_wp2
  refine wp_scope_straight ?_
  go_wp2
  rw [Exit.noGoto_ret]
  refine bodyPost_ret (results_tmp2 rfl _ _ _) rfl ?_
  exact ⟨rfl, (Below.refl _ _).alloc (Nat.le_refl _) _⟩
set_option maxRecDepth 100000 in
set_option maxHeartbeats 2000000 in
theorem trim_nil (A : Option Addr) (c : Nat) (k : Int) (hk : decide (k < 0) = false) (w : World) : Calls Try.prog 28 #[.slice A 0 c, .int .i64 k] w fun e w' => e = .returned (.tuple #[.slice none 0 0, .int .i64 140]) ∧ Below w.heap.size w w' := by
  go_enter Try.func28, Try.ntmps28
  go_wp2
  refine wp_scope_straight ?_
  go_wp2
  rw [Exit.noGoto_ret]
  refine bodyPost_ret (results_tmp2 rfl _ _ _) rfl ?_
  exact ⟨rfl, (Below.refl _ _).alloc (Nat.le_refl _) _⟩
set_option maxRecDepth 100000 in
set_option maxHeartbeats 2000000 in
theorem trim_much (A : Option Addr) (n c : Nat) (k : Int) (hk : decide (k < 0) = false) (hn : ((n : Int) == 0) = false) (hn1 : 1 ≤ n) (hn2 : n ≤ 9223372036854775807) (hm : ((n : Int) - 1) / 2 < k) (w : World) : Calls Try.prog 28 #[.slice A n c, .int .i64 k] w fun e w' => e = .returned (.tuple #[.slice none 0 0, .int .i64 140]) ∧ Below w.heap.size w w' := by
  go_enter Try.func28, Try.ntmps28
  go_wp2
  refine wp_scope_straight ?_
  go_wp2
  rw [Exit.noGoto_ret]
  refine bodyPost_ret (results_tmp2 rfl _ _ _) rfl ?_
  exact ⟨rfl, (Below.refl _ _).alloc (Nat.le_refl _) _⟩
set_option maxRecDepth 100000 in
set_option maxHeartbeats 2000000 in
theorem trim_wild (b off c : Nat) (l : List Int) (k : Int) (hk : decide (k < 0) = false) (hn : ((l.length : Int) == 0) = false) (hn1 : 1 ≤ l.length) (hn2 : l.length ≤ 1000000) (hm : decide (((l.length : Int) - 1) / 2 < k) = false) (hw : l.any wildB = true) (w : World) (hb : b < w.heap.size)
    (hc : ∀ j, j < l.length → w.cell? ⟨b, off + j, none⟩ = some (.int .i64 l[j]!)) : Calls Try.prog 28 #[.slice (some ⟨b, off, none⟩) l.length c, .int .i64 k] w fun e w' => e = .returned (.tuple #[.slice none 0 0, .int .i64 140]) ∧ Below w.heap.size w w' := by
  have hH := Lib.hid hc
  clear hc
  go_enter Try.func28, Try.ntmps28
  go_wp2
  refine wp_scope_straight ?_
  go_wp2_with (go_at_call 41; refine (any_wildB b off c l true hw _ (by omega) (fun j hj => (((Below.refl _ w).alloc (Nat.le_refl _) _).cell (p := ⟨b, off + j, none⟩) hb).trans (hH.out j hj))).mono ?_; rintro e w' ⟨rfl, q, rfl⟩)
  rw [Exit.noGoto_ret]
  refine bodyPost_ret (results_tmp2 rfl _ _ _) rfl ?_
  exact ⟨rfl, below_drewN' ((Below.refl _ _).alloc (Nat.le_refl _) _) q⟩
def trimL (l : List Int) (k : Int) : List Int := ((sortL l).drop k.toNat).take (l.length - 2 * k.toNat)
def midpoint_Trim.f (l : List Int) (k : Int) : Option (List Int × Int) :=
  if k < 0 then some ([], 140) else if l = [] then some ([], 140) else if ((l.length : Int) - 1) / 2 < k then some ([], 140) else if l.length ≤ 1000000 then (if l.any wildB = true then some ([], 140) else some (trimL l k, 0)) else none
theorem midpoint_Trim.calls (A0 : Option Addr) (c0 : Nat) (l0 : List Int) (a1 : Int) (r1 : List Int) (r2 : Int) (w : World) (hr0 : Kd.C (Kd.int .i64) w A0 l0.length l0) (hc0 : l0.length ≤ c0) (h : midpoint_Trim.f l0 a1 = some (r1, r2)) :
    Calls Try.prog 28 #[.slice A0 l0.length c0, .int .i64 a1] w fun e w' => ∃ v0_ : Value, e = .returned (.tuple #[v0_, .int .i64 r2]) ∧ Kd.R (Kd.int .i64) 2 w' w.heap.size (fun _ => True) v0_ r1 ∧ Below w.heap.size w w' := by
  unfold midpoint_Trim.f at h
  have bad : ∀ {P : Prop}, some (([] : List Int), (140 : Int)) = some (r1, r2) → (Calls Try.prog 28 #[.slice A0 l0.length c0, .int .i64 a1] w fun e w' => e = .returned (.tuple #[.slice none 0 0, .int .i64 140]) ∧ Below w.heap.size w w') →
      Calls Try.prog 28 #[.slice A0 l0.length c0, .int .i64 a1] w fun e w' => ∃ v0_ : Value, e = .returned (.tuple #[v0_, .int .i64 r2]) ∧ Kd.R (Kd.int .i64) 2 w' w.heap.size (fun _ => True) v0_ r1 ∧ Below w.heap.size w w' := by
    intro _ he hc
    cases he
    exact hc.mono fun e w' ⟨h1, h2⟩ => ⟨_, h1, Kd.R_nil _ _ _ _ _, h2⟩
  by_cases h1 : a1 < 0
  · rw [if_pos h1] at h
    exact bad (P := True) h (trim_neg _ a1 h1 w)
  rw [if_neg h1] at h
  have d1 : decide (a1 < 0) = false := decide_eq_false h1
  by_cases h2 : l0 = []
  · rw [if_pos h2] at h
    refine bad (P := True) h ?_
    subst h2
    exact trim_nil A0 c0 a1 d1 w
  rw [if_neg h2] at h
  have hpos : 1 ≤ l0.length := by cases l0 with | nil => exact absurd rfl h2 | cons _ _ => simp
  have d2 : ((l0.length : Int) == 0) = false := by simp; exact h2
  by_cases h3 : ((l0.length : Int) - 1) / 2 < a1
  · rw [if_pos h3] at h
    exact bad (P := True) h (trim_much A0 l0.length c0 a1 d1 d2 hpos hr0.2.1 h3 w)
  rw [if_neg h3] at h
  have d3 : decide (((l0.length : Int) - 1) / 2 < a1) = false := decide_eq_false h3
  by_cases h4 : l0.length ≤ 1000000
  · rw [if_pos h4] at h
    obtain ⟨b, off, rfl, hb, hcell⟩ := row_at hr0 h2
    by_cases h5 : l0.any wildB = true
    · rw [if_pos h5] at h
      exact bad (P := True) h (trim_wild b off c0 l0 a1 d1 d2 hpos h4 d3 h5 w hb hcell)
    · rw [if_neg h5] at h
      cases h
      obtain ⟨k, rfl⟩ := Int.eq_ofNat_of_zero_le (show 0 ≤ a1 by omega)
      refine (callsIn_wide.1 (trim_good b off c0 l0 k (by omega) h4 (by simpa using h5) w hb hcell)).mono ?_
      rintro e w' ⟨v, rfl, ho, hbl⟩
      refine ⟨v, rfl, Kd.R_of_own (xs := trimL l0 k) ?_ (fun _ _ => trivial), hbl⟩
      unfold trimL
      rw [Int.toNat_natCast]
      rw [show (((sortL l0).drop k).take (l0.length - 2 * k)).length = l0.length - 2 * k by simp [sortL_len]; omega]
      exact ho
  · rw [if_neg h4] at h
    cases h
end Go.Proofs.Ytnmephdamgofnaa.Hand
