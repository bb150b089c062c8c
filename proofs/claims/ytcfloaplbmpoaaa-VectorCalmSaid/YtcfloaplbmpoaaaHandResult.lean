/- What 'vector.Result' computes, by hand: a range over the first two of a list, with a break. -/
import Derived.Test.YtcfloaplbmpoaaaHandLooks3
set_option linter.unusedVariables false
set_option linter.unusedSimpArgs false
namespace Go.Proofs.Ytcfloaplbmpoaaa.Hand
open Go.RowKit Go.Shelf Go.Proofs.Ytcfloaplbmpoaaa.Grp Go.Proofs.YtcfloaplbmpoaaaW.PrintWords Go.Proofs.YtcfloaplbmpoaaaW.PrintMore
attribute [local go_sem] Oper.semAt_some
attribute [local go_sem] max2_int min2_int max_two min_two

def twoA (zs : List Int) (i : Nat) : Int × Int := ((i : Int), zs.getD i 0)
def twoL (zs : List Int) (m : Nat) : List (Int × Int) := (List.range m).map (twoA zs)
theorem twoL_succ (zs : List Int) (m : Nat) : twoL zs (m + 1) = twoL zs m ++ [twoA zs m] := by simp [twoL, List.range_succ]
theorem twoL_len (zs : List Int) (m : Nat) : (twoL zs m).length = m := by simp [twoL]
theorem twoL_pre (zs : List Int) (k m : Nat) (h : k ≤ m) : twoL zs k <+: twoL zs m := by
  obtain ⟨d, rfl⟩ := Nat.exists_eq_add_of_le h
  induction d with
  | zero => exact List.prefix_refl _
  | succ d ih => exact (ih (by omega)).trans ⟨[twoA zs (k + d)], by rw [← twoL_succ]; rfl⟩
theorem mn2 (n : Nat) : mn 2 (n : Int) = ((min 2 n : Nat) : Int) := by
  unfold mn
  split <;> omega

set_option maxRecDepth 100000 in
set_option maxHeartbeats 2000000 in
theorem some1_in (m l Bs M off c : Nat) (zs : List Int) (hc : zs.length ≤ c) (hbig : zs.length ≤ 4611686018427387904) (J Jx : List (Int × Int) → World → Prop) (W : World)
    (hY : ∀ pre x W, J pre W → pre.length < min 2 zs.length → YieldAt Fence.wide (m - 1) Try.prog l #[.int .i64 x.1, .int .u16 x.2] W fun e W' =>
      (e = .returned (.bool true) ∧ J (pre ++ [x]) W' ∧ KBlk [Bs, M] W W') ∨ (e = .returned (.bool false) ∧ Jx (pre ++ [x]) W'))
    (hBs : W.cell? ⟨Bs, 0, none⟩ = some (.slice (some ⟨M, off, none⟩) zs.length c))
    (hM : ∀ j, j < zs.length → W.cell? ⟨M, off + j, none⟩ = some (.int .u16 (zs.getD j 0))) (h0 : J [] W) :
    CallsIn Fence.wide m Try.prog 41 #[.func (.yield l) #[] #[], .pointer (some ⟨Bs, 0, none⟩)] W fun e W' => (∃ v, e = .returned v) ∧
      ((∃ ys, ys = twoL zs (min 2 zs.length) ∧ J ys W') ∨ (∃ pre, pre <+: twoL zs (min 2 zs.length) ∧ Jx pre W')) := by
  have hmn : (if (zs.length : Int) < 2 then (zs.length : Int) else 2) = ((min 2 zs.length : Nat) : Int) := by split <;> omega
  generalize hq : min 2 zs.length = q at *
  have hqz : q ≤ zs.length := by omega
  have hqc : q ≤ c := by omega
  have HM := Lib.hid hM
  clear hM
  refine callsIn_of_wp Try.func41 rfl trivial ?_ rfl
  simp only [Try.ntmps41, List.size_toArray, List.length_cons, List.length_nil, Nat.reduceAdd, Nat.reduceSub, Array.replicate_succ, Array.replicate_zero, List.push_toArray, List.append_toArray, List.nil_append, List.cons_append]
  gi_wp2
  gi_loopw [11] (fun i wr => ∃ p : Nat, p ≤ q ∧ i = .int .i64 (p : Int) ∧ J (twoL zs p) wr ∧ wr.cell? ⟨Bs, 0, none⟩ = some (.slice (some ⟨M, off, none⟩) zs.length c) ∧ Hid (∀ j, j < zs.length → wr.cell? ⟨M, off + j, none⟩ = some (.int .u16 (zs.getD j 0))))
    (fun i _ => q - (intOf i).toNat)
  case atStart => exact ⟨0, by omega, rfl, h0, hBs, HM⟩
  case round =>
    obtain ⟨p, hp, rfl, hJ, hs1, hH⟩ := hrel
    by_cases hlt2 : p < q
    · obtain ⟨fn, tmps, assign, body, hy, hR⟩ := hY (twoL zs p) (twoA zs p) wr hJ (by rw [twoL_len]; exact hlt2)
      have hcm := hH.out p (by omega)
      have hS : twoL zs p ++ [twoA zs p] = twoL zs (p + 1) := (twoL_succ zs p).symm
      rw [hS] at hR
      clear hS hJ
      unfold twoA at hy
      dsimp only at hy
      generalize zs.getD p 0 = x at hy hcm
      have g1 : (0 : Int) ≤ (p : Int) := by omega
      have g2 : (p : Int) < (q : Int) := by omega
      gi_wp2
      refine ⟨fun h => (by cases h), hR.mono ?_⟩
      rintro e W3 (⟨rfl, hJ3, hk3⟩ | ⟨rfl, hJx3⟩)
      · have c2 : W3.cell? ⟨Bs, 0, none⟩ = some (.slice (some ⟨M, off, none⟩) zs.length c) := hk3 Bs (by simp) 0 _ hs1
        have c3 : Hid (∀ j, j < zs.length → W3.cell? ⟨M, off + j, none⟩ = some (.int .u16 (zs.getD j 0))) := fun j hj => hk3 M (by simp) (off + j) _ (hH.out j hj)
        gi_wp2
        go_roundw
        case rel => exact ⟨p + 1, by omega, by go_num, hJ3, c2, c3⟩
        case measure => simp [intOf]; omega
      · gi_wp2
        refine bodyPost_ret (results_none rfl _ _ _) rfl ?_
        exact ⟨⟨_, rfl⟩, .inr ⟨twoL zs (p + 1), twoL_pre zs _ _ (by omega), hJx3⟩⟩
    · obtain rfl : p = q := by omega
      gi_wp2
      go_end0
      exact ⟨⟨_, rfl⟩, .inl ⟨_, rfl, hJ⟩⟩
theorem some_in (m : Nat) (v : Value) (h1 : v.oneCell' = true) (hv : v.cells = #[v]) (w : World) :
    CallsIn Fence.wide m Try.prog 35 #[v] w fun e w' => e = .returned (.func (.func 41) #[] #[.pointer (some ⟨w.heap.size, 0, none⟩)]) ∧ w' = w.alloc (.cells #[v] 26) := by
  refine callsIn_of_wp Try.func35 rfl trivial ?_ rfl
  simp only [Try.ntmps35, List.size_toArray, List.length_cons, List.length_nil, Nat.reduceAdd, Nat.reduceSub, Array.replicate_succ, Array.replicate_zero, List.push_toArray, List.append_toArray, List.nil_append, List.cons_append]
  gi_wp2
  go_ret
  exact ⟨rfl, rfl⟩
/-- What a vector is in looks. -/
def resultV (zs : List Int) (g : Int) : Int := if 0 < zs.length ∧ zs.getD 0 0 = g then 2 else if 1 < zs.length ∧ zs.getD 1 0 = g then 3 else 1
def NoG (g : Int) (pre : List (Int × Int)) : Prop := ∀ x ∈ pre, x.2 ≠ g
def FindG (g : Int) (pre : List (Int × Int)) (r : Int) : Prop := ∃ q x, pre = q ++ [x] ∧ x.2 = g ∧ NoG g q ∧ r = wrap64 (2 + x.1)
theorem noG_snoc {g : Int} {pre : List (Int × Int)} {x : Int × Int} (h : NoG g pre) (hx : x.2 ≠ g) : NoG g (pre ++ [x]) := by
  intro y hy
  rcases List.mem_append.1 hy with h1 | h1
  · exact h y h1
  · rw [List.mem_singleton.1 h1]; exact hx
theorem two_mem (zs : List Int) (i m : Nat) (h : i < m) : twoA zs i ∈ twoL zs m := List.mem_map.2 ⟨i, List.mem_range.2 h, rfl⟩
theorem res_done (zs : List Int) (g : Int) (h : NoG g (twoL zs (min 2 zs.length))) : resultV zs g = 1 := by
  unfold resultV
  rw [if_neg, if_neg]
  · rintro ⟨h1, h2⟩
    exact h _ (two_mem zs 1 _ (by omega)) h2
  · rintro ⟨h1, h2⟩
    exact h _ (two_mem zs 0 _ (by omega)) h2
theorem res_stop (zs : List Int) (g r : Int) (pre : List (Int × Int)) (hp : pre <+: twoL zs (min 2 zs.length)) (h : FindG g pre r) : resultV zs g = r := by
  obtain ⟨q, x, rfl, hx, hq, rfl⟩ := h
  have hl : q.length + 1 ≤ min 2 zs.length := by
    have := hp.length_le
    rw [twoL_len] at this
    simpa using this
  have hget : ∀ i, i < q.length + 1 → (q ++ [x])[i]? = some (twoA zs i) := by
    intro i hi
    obtain ⟨t, ht⟩ := hp
    have : (q ++ [x])[i]? = (twoL zs (min 2 zs.length))[i]? := by rw [← ht]; exact (List.getElem?_append_left (by simp; omega)).symm
    rw [this]
    unfold twoL
    rw [List.getElem?_map, List.getElem?_range (by omega)]
    rfl
  have hxl : x = twoA zs q.length := by
    have := hget q.length (by omega)
    simpa using this
  unfold resultV
  rcases (show q.length = 0 ∨ q.length = 1 by omega) with e | e
  · rw [e] at hxl
    subst hxl
    rw [if_pos ⟨by omega, hx⟩, show (twoA zs 0).fst = 0 from rfl]
    unfold wrap64; omega
  · rw [e] at hxl
    subst hxl
    have h0 := hget 0 (by omega)
    rw [List.getElem?_append_left (by omega)] at h0
    have h1 := hq _ (List.mem_of_getElem? h0)
    rw [if_neg (fun c => h1 c.2), if_pos ⟨by omega, hx⟩, show (twoA zs 1).fst = 1 from rfl]
    unfold wrap64; omega
theorem some_stops (m Bs M off c : Nat) (zs : List Int) (hc : zs.length ≤ c) (hbig : zs.length ≤ 4611686018427387904) (w : World) (b1 : Bs < w.heap.size) (b2 : M < w.heap.size)
    (hBs : w.cell? ⟨Bs, 0, none⟩ = some (.slice (some ⟨M, off, none⟩) zs.length c)) (hM : ∀ j, j < zs.length → w.cell? ⟨M, off + j, none⟩ = some (.int .u16 (zs.getD j 0))) :
    SeqStopsK Fence.wide m Try.prog 41 #[.pointer (some ⟨Bs, 0, none⟩)] (fun x : Int × Int => #[Value.int .i64 x.1, Value.int .u16 x.2]) (KBlk [Bs, M]) (fun ys => ys = twoL zs (min 2 zs.length)) (fun pre => pre <+: twoL zs (min 2 zs.length)) (min 2 zs.length) w := fun l J Jx W hW _ _ hY h0 =>
  some1_in m l Bs M off c zs hc hbig J Jx W hY ((hW.cell (p := ⟨Bs, 0, none⟩) b1).trans hBs) (fun j hj => (hW.cell (p := ⟨M, off + j, none⟩) b2).trans (hM j hj)) h0
set_option maxRecDepth 100000 in
set_option maxHeartbeats 2000000 in
theorem some1_nil (m l Bs : Nat) (A : Option Addr) (c : Nat) (J Jx : List (Int × Int) → World → Prop) (W : World) (hBs : W.cell? ⟨Bs, 0, none⟩ = some (.slice A 0 c)) (h0 : J [] W) :
    CallsIn Fence.wide m Try.prog 41 #[.func (.yield l) #[] #[], .pointer (some ⟨Bs, 0, none⟩)] W fun e W' => (∃ v, e = .returned v) ∧ ((∃ ys : List (Int × Int), ys = [] ∧ J ys W') ∨ (∃ pre : List (Int × Int), pre <+: [] ∧ Jx pre W')) := by
  refine callsIn_of_wp Try.func41 rfl trivial ?_ rfl
  simp only [Try.ntmps41, List.size_toArray, List.length_cons, List.length_nil, Nat.reduceAdd, Nat.reduceSub, Array.replicate_succ, Array.replicate_zero, List.push_toArray, List.append_toArray, List.nil_append, List.cons_append]
  cases A with
  | none =>
    gi_wp2
    gi_loopw [11] (fun i wr => i = .int .i64 0 ∧ J [] wr) (fun _ _ => 0)
    case atStart => exact ⟨rfl, h0⟩
    case round =>
      obtain ⟨rfl, hJ⟩ := hrel
      gi_wp2
      go_end0
      exact ⟨⟨_, rfl⟩, .inl ⟨_, rfl, hJ⟩⟩
  | some ad =>
    gi_wp2
    gi_loopw [11] (fun i wr => i = .int .i64 0 ∧ J [] wr) (fun _ _ => 0)
    case atStart => exact ⟨rfl, h0⟩
    case round =>
      obtain ⟨rfl, hJ⟩ := hrel
      gi_wp2
      go_end0
      exact ⟨⟨_, rfl⟩, .inl ⟨_, rfl, hJ⟩⟩
theorem some_stops_nil (m Bs : Nat) (A : Option Addr) (c : Nat) (w : World) (b1 : Bs < w.heap.size) (hBs : w.cell? ⟨Bs, 0, none⟩ = some (.slice A 0 c)) :
    SeqStopsK Fence.wide m Try.prog 41 #[.pointer (some ⟨Bs, 0, none⟩)] (fun x : Int × Int => #[Value.int .i64 x.1, Value.int .u16 x.2]) (KBlk [Bs]) (fun ys => ys = twoL [] (min 2 ([] : List Int).length)) (fun pre => pre <+: twoL [] (min 2 ([] : List Int).length)) (min 2 ([] : List Int).length) w := fun l J Jx W hW _ _ hY h0 =>
  some1_nil m l Bs A c J Jx W ((hW.cell (p := ⟨Bs, 0, none⟩) b1).trans hBs) h0

set_option maxRecDepth 100000 in
set_option maxHeartbeats 4000000 in
theorem result_in (A : Option Addr) (c : Nat) (zs : List Int) (g : Int) (S : List Nat) (w : World) (hS : ∀ b ∈ S, b < w.heap.size)
    (hst : ∀ W, Below w.heap.size w W → w.heap.size + 3 ≤ W.heap.size → W.cell? ⟨w.heap.size + 1 + 1, 0, none⟩ = some (.slice A zs.length c) → SeqStopsK Fence.wide 2 Try.prog 41 #[.pointer (some ⟨w.heap.size + 1 + 1, 0, none⟩)] (fun x : Int × Int => #[Value.int .i64 x.1, Value.int .u16 x.2]) (KBlk ((w.heap.size + 1 + 1) :: S)) (fun ys => ys = twoL zs (min 2 zs.length)) (fun pre => pre <+: twoL zs (min 2 zs.length)) (min 2 zs.length) W) :
    CallsIn Fence.wide 3 Try.prog 12 #[.slice A zs.length c, .int .u16 g] w fun e W' => e = .returned (.int .i64 (resultV zs g)) ∧ Below w.heap.size w W' := by
  refine callsIn_of_wp_marks Try.func12 rfl trivial ?_ rfl
  simp only [Try.ntmps12, List.size_toArray, List.length_cons, List.length_nil, Nat.reduceAdd, Nat.reduceSub, Array.replicate_succ, Array.replicate_zero, List.push_toArray, List.append_toArray, List.nil_append, List.cons_append]
  gi_wp2
  refine wpIn_wide.2 (wp_scope_straight ((wpIn_wide (n := 3)).1 ?_))
  gi_wp2
  refine wpIn_label ?_
  gi_wp2_with (refine ⟨trivial, ?_⟩; gi_at_call 35; refine (some_in 2 _ rfl rfl _).mono ?_; rintro e w' ⟨rfl, rfl⟩)
  obtain ⟨V, hV⟩ : ∃ V, ((w.alloc (.cells #[.int .u16 g] 23)).alloc (.cells #[.int .i64 1] 3)).alloc (.cells #[.slice A zs.length c] 26) = V := ⟨_, rfl⟩
  have hsz : V.heap.size = w.heap.size + 3 := by rw [← hV]; simp
  have c0 : V.cell? ⟨w.heap.size, 0, none⟩ = some (.int .u16 g) := by rw [← hV]; simp [go_sem]
  have c1 : V.cell? ⟨w.heap.size + 1, 0, none⟩ = some (.int .i64 1) := by rw [← hV]; simp [go_sem]
  have f1 : V.frozen? ⟨w.heap.size + 1, 0, none⟩ = false := by rw [← hV]; simp [go_sem]
  have c2 : V.cell? ⟨w.heap.size + 1 + 1, 0, none⟩ = some (.slice A zs.length c) := by rw [← hV]; simp [go_sem]
  have hB0 : Below w.heap.size w V := by rw [← hV]; exact (((Below.refl _ w).alloc (Nat.le_refl _) _).alloc (by simp) _).alloc (by simp <;> omega) _
  rw [hV]
  refine wpIn_rangeFunc_ownG rfl (by omega) (gf := 41) (lb := #[.pointer (some ⟨w.heap.size + 1 + 1, 0, none⟩)]) rfl trivial (enters_of Try.func41 (by kernel_rfl) rfl)
    (hst V hB0 (by omega) c2) kblk_t kblk_b (Below.refl _ _) (fun _ => rfl)
    (fun pre W => (W.cell? ⟨w.heap.size, 0, none⟩ = some (.int .u16 g) ∧ W.cell? ⟨w.heap.size + 1, 0, none⟩ = some (.int .i64 1) ∧ W.frozen? ⟨w.heap.size + 1, 0, none⟩ = false ∧ NoG g pre) ∧ Below w.heap.size w W)
    (fun cc pre W => (cc = .exit 0 ∧ ∃ r, FindG g pre r ∧ W.cell? ⟨w.heap.size + 1, 0, none⟩ = some (.int .i64 r)) ∧ Below w.heap.size w W)
    (OwnFrom.and (Own.from (fun s A B row hs hg hr => ⟨cell_kept hs.1 hg hr, cell_kept hs.2.1 hg hr, (frozen_kept hs.2.1 hg hr).trans hs.2.2.1, hs.2.2.2⟩) _) (ownFrom_below (Nat.le_refl _) (by omega)))
    (fun c => OwnFrom.and (Own.from (fun s A B row hs hg hr => by obtain ⟨hc, m, hm, hcell⟩ := hs; exact ⟨hc, m, hm, cell_kept hcell hg hr⟩) _) (ownFrom_below (Nat.le_refl _) (by omega)))
    ⟨⟨c0, c1, f1, fun _ h => by cases h⟩, hB0⟩
    (fun x => { tmps := #[.slice A zs.length c, .int .u16 g, undef, .pointer (some ⟨w.heap.size, 0, none⟩), .int .i64 0, .pointer (some ⟨w.heap.size + 1, 0, none⟩), .int .i64 x.1, .int .u16 x.2, .slice A zs.length c, .func (.func 41) #[] #[.pointer (some ⟨w.heap.size + 1 + 1, 0, none⟩)], .int .i64 x.1, .int .u16 x.2, undef, undef, undef, undef, undef, undef], defers := [] }) ?assign ?body ?done ?stop
  case assign =>
    intro l x W K hK
    gi_wp2
    exact hK
  case body =>
    rintro l pre x W ⟨⟨hc0, hc1, hf1, hp⟩, hB⟩ _
    cases hx : (x.2 == g) with
    | true =>
      have HX := Lib.hid (show x.2 = g by simpa using hx)
      gi_wp2
      exact ⟨(KeepsOthers.setCell _ _ _).from _, ⟨rfl, _, ⟨pre, x, rfl, HX.out, hp, rfl⟩, World.cell?_setCell_same' _ _ _ (by rw [hc1]; rfl)⟩, hB.setCell (by simp) _⟩
    | false =>
      have HX := Lib.hid (show x.2 ≠ g by simpa using hx)
      gi_wp2
      exact ⟨KeepsFrom.refl _ _, fun b _ o v q => q, ⟨hc0, hc1, hf1, noG_snoc hp HX.out⟩, hB⟩
  case done =>
    rintro D ys W hD rfl ⟨⟨hc0, hc1, hf1, hp⟩, hB⟩ hK
    have HP := Lib.hid (res_done zs g hp)
    clear hp
    gi_wp2
    refine ⟨by simp, .inl ⟨_, _, rfl, run_takeDeferred hK, ?_⟩⟩
    exact ⟨_, results_tmp rfl _ _ _, by rw [HP.out]; rfl, hB.trans (belowK_b (w := V) (by omega) W D _ _ hD hK rfl rfl)⟩
  case stop =>
    rintro D cc pre W hD hpre ⟨⟨rfl, r, hr, hc1⟩, hB⟩ hK
    have HP := Lib.hid (res_stop zs g r pre hpre hr)
    clear hr
    gi_wp2
    refine ⟨by simp, .inl ⟨_, _, rfl, run_takeDeferred hK, ?_⟩⟩
    exact ⟨_, results_tmp rfl _ _ _, by rw [HP.out]; rfl, hB.trans (belowK_b (w := V) (by omega) W D _ _ hD hK rfl rfl)⟩
theorem row_at16 {w : World} {A : Option Addr} {l : List Int} (h : Kd.C (Kd.int .u16) w A l.length l) (hl : l ≠ []) : ∃ b off, A = some ⟨b, off, none⟩ ∧ b < w.heap.size ∧ ∀ j, j < l.length → w.cell? ⟨b, off + j, none⟩ = some (.int .u16 (l.getD j 0)) := by
  have h0 : 0 < l.length := by cases l with | nil => exact absurd rfl hl | cons _ _ => simp
  have addr_add : ∀ b off j : Nat, (⟨b, off, none⟩ : Addr).add j = ⟨b, off + j, none⟩ := fun b off j => by unfold Addr.add; split <;> simp_all
  obtain ⟨ad, hA, hc⟩ := Kd.at_int h 0 (by omega) (by omega)
  obtain ⟨b, off, sp⟩ := ad
  have hsp : sp = none := by
    simp only [Int.toNat_zero, Addr.add] at hc
    cases sp with
    | none => rfl
    | some q =>
      simp only [if_true, World.cell?] at hc
      cases hh : w.heap[b]? with
      | none => simp [hh] at hc
      | some o => cases o <;> simp [hh] at hc
  subst hsp
  refine ⟨b, off, hA, ?_, ?_⟩
  · have := World.block_lt_of_cell? w _ hc
    simpa [Addr.add] using this
  · intro j hj
    obtain ⟨ad, hA', hc'⟩ := Kd.at_int h (j : Int) (by omega) (by omega)
    rw [hA] at hA'
    cases hA'
    rw [Int.toNat_natCast, addr_add] at hc'
    rw [hc']
    unfold rd
    rw [Int.toNat_natCast]
def vector_Result.f (l0 : List Int) (a1 : Int) : Option Int := if l0.length ≤ 1000000 then some (resultV l0 a1) else none
theorem vector_Result.calls (A0 : Option Addr) (c0 : Nat) (l0 : List Int) (a1 : Int) (r : Int) (w : World) (hr0 : Kd.C (Kd.int .u16) w A0 l0.length l0) (hc0 : l0.length ≤ c0) (h : vector_Result.f l0 a1 = some r) :
    Calls Try.prog 12 #[.slice A0 l0.length c0, .int .u16 a1] w fun e w' => e = .returned (.int .i64 r) ∧ Below w.heap.size w w' := by
  unfold vector_Result.f at h
  by_cases hl : l0.length ≤ 1000000
  · rw [if_pos hl] at h
    cases h
    refine (callsIn_wide (n := 3)).1 ?_
    by_cases he : l0 = []
    · subst he
      exact result_in A0 c0 [] a1 [] w (fun _ h => by cases h) (fun W hb hs hc => some_stops_nil 2 (w.heap.size + 1 + 1) A0 c0 W (by omega) hc)
    · obtain ⟨b, off, rfl, hb, hcell⟩ := row_at16 hr0 he
      exact result_in _ c0 l0 a1 [b] w (fun x hx => by rw [List.mem_singleton.1 hx]; exact hb) (fun W hbW hs hc => some_stops 2 (w.heap.size + 1 + 1) b off c0 l0 hc0 (by omega) W (by omega) (by omega) hc (fun j hj => (hbW.cell (p := ⟨b, off + j, none⟩) hb).trans (hcell j hj)))
  · rw [if_neg hl] at h
    cases h
end Go.Proofs.Ytcfloaplbmpoaaa.Hand
