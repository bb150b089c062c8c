/- A slot of a cluster of nodes, by hand: what the Go code makes of all views is what the numbers say. -/
import Derived.Test.YtcfloaplbmpoaaaClus1
import Derived.Test.YtcfloaplbmpoaaaHandLooks3
import Derived.Test.YtcfloaplbmpoaaaPAx5
import Derived.Test.YtcfloaplbmpoaaaWGuard
import Derived.Test.YtcfloaplbmpoaaaHandStore
import Derived.StillTailTactics
import Derived.Deep.DeepFit
set_option linter.unusedVariables false
set_option linter.unusedSimpArgs false
namespace Go.Proofs.Ytcfloaplbmpoaaa.Hand
open Go.RowKit Go.Shelf Go.Proofs.Ytcfloaplbmpoaaa.Grp Go.Proofs.Ytcfloaplbmpoaaa.Cl Go.Proofs.Ytcfloaplbmpoaaa.PA Go.Proofs.YtcfloaplbmpoaaaW.PrintWords Go.Proofs.YtcfloaplbmpoaaaW.PrintLast Go.Proofs.YtcfloaplbmpoaaaW.PrintMore
attribute [local go_sem] Oper.semAt_some

/-- Views in a row's cells; how often each was told. -/
def VL (L : List Q) (cur : Array Value) : Prop := ∀ (i : Nat) (q : Q), L[i]? = some q → cur[i * 4]? = some (Value.int .i64 i) ∧ cur[i * 4 + 1]? = some (Value.int .u16 q.v) ∧ cur[i * 4 + 2]? = some (Value.int .i64 q.a) ∧ cur[i * 4 + 3]? = some (Value.int .i64 q.f)
def ZL (L : List Q) (cur : Array Value) : Prop := ∀ (i : Nat) (q : Q), L[i]? = some q → cur[i]? = some (Value.int .i64 q.z)
structure CL (w : World) (g bl bz cl cz n : Nat) (L M : List Q) : Prop where
  len : L.length = n
  hg : w.heap[g]? = some (.cells #[.slice (some ⟨bl, 0, none⟩) n cl, .slice (some ⟨bz, 0, none⟩) n cz] 55 (0, 0))
  hl : ∃ cur, w.heap[bl]? = some (.cells cur 25 (0, 0)) ∧ VL L cur
  hz : ∃ cur, w.heap[bz]? = some (.cells cur 3 (0, 0)) ∧ ZL M cur
theorem CL.below {w w' : World} {g bl bz cl cz n : Nat} {L M : List Q} (h : CL w g bl bz cl cz n L M) (hb : Below w.heap.size w w') : CL w' g bl bz cl cz n L M := by
  obtain ⟨c, h1, h2⟩ := h.hl
  obtain ⟨d, h3, h4⟩ := h.hz
  exact ⟨h.len, blk_below h.hg hb, ⟨c, blk_below h1 hb, h2⟩, ⟨d, blk_below h3 hb, h4⟩⟩
theorem CL.c0 {w : World} {g bl bz cl cz n : Nat} {L M : List Q} (h : CL w g bl bz cl cz n L M) : w.cell? ⟨g, 0, none⟩ = some (.slice (some ⟨bl, 0, none⟩) n cl) := (blk_cell h.hg 0).trans rfl
theorem CL.c1 {w : World} {g bl bz cl cz n : Nat} {L M : List Q} (h : CL w g bl bz cl cz n L M) : w.cell? ⟨g, 1, none⟩ = some (.slice (some ⟨bz, 0, none⟩) n cz) := (blk_cell h.hg 1).trans rfl
theorem CL.view {w : World} {g bl bz cl cz n : Nat} {L M : List Q} (h : CL w g bl bz cl cz n L M) {i : Nat} {q : Q} (hq : L[i]? = some q) : w.cell? ⟨bl, i * 4, none⟩ = some (.int .i64 i) ∧ w.cell? ⟨bl, i * 4 + 1, none⟩ = some (.int .u16 q.v) ∧ w.cell? ⟨bl, i * 4 + 2, none⟩ = some (.int .i64 q.a) ∧ w.cell? ⟨bl, i * 4 + 3, none⟩ = some (.int .i64 q.f) := by
  obtain ⟨c, h1, h2⟩ := h.hl
  obtain ⟨a, b, d, e⟩ := h2 i q hq
  exact ⟨(blk_cell h1 _).trans a, (blk_cell h1 _).trans b, (blk_cell h1 _).trans d, (blk_cell h1 _).trans e⟩
theorem CL.told {w : World} {g bl bz cl cz n : Nat} {L M : List Q} (h : CL w g bl bz cl cz n L M) {i : Nat} {q : Q} (hq : M[i]? = some q) : w.cell? ⟨bz, i, none⟩ = some (.int .i64 q.z) := by
  obtain ⟨c, h1, h2⟩ := h.hz
  exact (blk_cell h1 _).trans (h2 i q hq)
theorem CL.bl_lt {w : World} {g bl bz cl cz n : Nat} {L M : List Q} (h : CL w g bl bz cl cz n L M) : bl < w.heap.size := by
  obtain ⟨c, h1, h2⟩ := h.hl
  exact blk_lt h1
theorem CL.bz_lt {w : World} {g bl bz cl cz n : Nat} {L M : List Q} (h : CL w g bl bz cl cz n L M) : bz < w.heap.size := by
  obtain ⟨c, h1, h2⟩ := h.hz
  exact blk_lt h1
theorem CL.far {w : World} {g bl bz cl cz n : Nat} {L M : List Q} (h : CL w g bl bz cl cz n L M) {p : Nat} (h1 : g ≠ p) (h2 : bl ≠ p) (h3 : bz ≠ p) (j : Nat) (u : Value) : CL (w.setCell ⟨p, j, none⟩ u) g bl bz cl cz n L M := by
  obtain ⟨c, a1, a2⟩ := h.hl
  obtain ⟨d, a3, a4⟩ := h.hz
  exact ⟨h.len, blk_far h.hg h1 u, ⟨c, blk_far a1 h2 u, a2⟩, ⟨d, blk_far a3 h3 u, a4⟩⟩
theorem CL.drew {w : World} {g bl bz cl cz n : Nat} {L M : List Q} (h : CL w g bl bz cl cz n L M) : CL w.drew g bl bz cl cz n L M := ⟨h.len, h.hg, h.hl, h.hz⟩
theorem ne_type {w : World} {g g' t t' : Nat} {c c' : Array Value} (h : w.heap[g]? = some (.cells c t (0, 0))) (h' : w.heap[g']? = some (.cells c' t' (0, 0))) (ht : t ≠ t') : g ≠ g' := by
  intro e
  rw [e, h'] at h
  cases h
  exact ht rfl
theorem bp4_ {w : World} {g t : Nat} (h : w.heap[g]? = some (.cells #[.int .i64 0, .int .u16 0, .int .i64 0, .int .i64 0] t (0, 0))) (a b c d : Int) : ((((w.setCell ⟨g, 0, none⟩ (.int .i64 a)).setCell ⟨g, 1, none⟩ (.int .u16 b)).setCell ⟨g, 2, none⟩ (.int .i64 c)).setCell ⟨g, 3, none⟩ (.int .i64 d)).heap[g]? = some (.cells #[.int .i64 a, .int .u16 b, .int .i64 c, .int .i64 d] t (0, 0)) := by
  refine blk_put (cs := #[.int .i64 a, .int .u16 b, .int .i64 c, .int .i64 0]) ?_ 3 _ rfl
  refine blk_put (cs := #[.int .i64 a, .int .u16 b, .int .i64 0, .int .i64 0]) ?_ 2 _ rfl
  refine blk_put (cs := #[.int .i64 a, .int .u16 0, .int .i64 0, .int .i64 0]) ?_ 1 _ rfl
  exact blk_put (cs := #[.int .i64 0, .int .u16 0, .int .i64 0, .int .i64 0]) h 0 _ rfl
theorem bq4_ {w : World} {g t : Nat} {a0 b0 c0 d0 : Value} (h : w.heap[g]? = some (.cells #[a0, b0, c0, d0] t (0, 0))) (a b c d : Value) : ((((w.setCell ⟨g, 0, none⟩ a).setCell ⟨g, 1, none⟩ b).setCell ⟨g, 2, none⟩ c).setCell ⟨g, 3, none⟩ d).heap[g]? = some (.cells #[a, b, c, d] t (0, 0)) := by
  refine blk_put (cs := #[a, b, c, d0]) ?_ 3 _ rfl
  refine blk_put (cs := #[a, b, c0, d0]) ?_ 2 _ rfl
  refine blk_put (cs := #[a, b0, c0, d0]) ?_ 1 _ rfl
  exact blk_put (cs := #[a0, b0, c0, d0]) h 0 _ rfl
theorem CL.far4 {w : World} {g bl bz cl cz n : Nat} {L M : List Q} (h : CL w g bl bz cl cz n L M) {p : Nat} (h1 : g ≠ p) (h2 : bl ≠ p) (h3 : bz ≠ p) (a b c d : Value) : CL ((((w.setCell ⟨p, 0, none⟩ a).setCell ⟨p, 1, none⟩ b).setCell ⟨p, 2, none⟩ c).setCell ⟨p, 3, none⟩ d) g bl bz cl cz n L M := (((h.far h1 h2 h3 0 a).far h1 h2 h3 1 b).far h1 h2 h3 2 c).far h1 h2 h3 3 d
theorem bw4_ {base : Nat} {w0 w : World} {p : Nat} (h : Below base w0 w) (hp : base ≤ p) (h0 : base ≤ w0.heap.size) (a b c d : Value) : Below base w0 ((((w.setCell ⟨p, 0, none⟩ a).setCell ⟨p, 1, none⟩ b).setCell ⟨p, 2, none⟩ c).setCell ⟨p, 3, none⟩ d) ∧ base ≤ ((((w.setCell ⟨p, 0, none⟩ a).setCell ⟨p, 1, none⟩ b).setCell ⟨p, 2, none⟩ c).setCell ⟨p, 3, none⟩ d).heap.size := by
  have h4 := (((h.setCell (p := ⟨p, 0, none⟩) hp a).setCell (p := ⟨p, 1, none⟩) hp b).setCell (p := ⟨p, 2, none⟩) hp c).setCell (p := ⟨p, 3, none⟩) hp d
  exact ⟨h4, Nat.le_trans h0 h4.size⟩
/-- The views behind a store of one. -/
theorem VL.put {L : List Q} {cur : Array Value} (h : VL L cur) {pre t : List Q} {q q' : Q} (hL : L = pre ++ q :: t) : VL (pre ++ q' :: t) (putAt cur (pre.length * 4) #[.int .i64 pre.length, .int .u16 q'.v, .int .i64 q'.a, .int .i64 q'.f]) := by
  subst hL
  intro i x hx
  have hi : i < (pre ++ q :: t).length := by
    have := (List.getElem?_eq_some_iff.1 hx).1
    simpa using this
  obtain ⟨y, hy⟩ : ∃ y, (pre ++ q :: t)[i]? = some y := ⟨_, List.getElem?_eq_getElem hi⟩
  have hq := h pre.length q (by simp)
  have hsz : pre.length * 4 + 3 < cur.size := (Array.getElem?_eq_some_iff.1 hq.2.2.2).1
  have far : ∀ j, j < 4 → i ≠ pre.length → (putAt cur (pre.length * 4) #[.int .i64 pre.length, .int .u16 q'.v, .int .i64 q'.a, .int .i64 q'.f])[i * 4 + j]? = cur[i * 4 + j]? := by
    intro j hj hne
    unfold putAt
    rw [← Array.getElem?_toList, ← Array.getElem?_toList]
    simp only [Array.toArray_toList]
    rcases Nat.lt_or_gt_of_ne hne with hlt | hgt
    · rw [List.append_assoc, List.getElem?_append_left (by simp; omega), List.getElem?_take_of_lt (by omega)]
    · rw [List.getElem?_append_right (by simp; omega), List.getElem?_drop]
      congr 1
      simp
      omega
  by_cases e : i = pre.length
  · subst e
    have hxq : x = q' := by simpa using hx.symm
    subst hxq
    have at_ : ∀ j, j < 4 → (putAt cur (pre.length * 4) #[.int .i64 pre.length, .int .u16 x.v, .int .i64 x.a, .int .i64 x.f])[pre.length * 4 + j]? = #[Value.int .i64 pre.length, .int .u16 x.v, .int .i64 x.a, .int .i64 x.f][j]? := by
      intro j hj
      unfold putAt
      rw [← Array.getElem?_toList, ← Array.getElem?_toList]
      simp only [Array.toArray_toList]
      rw [List.append_assoc, List.getElem?_append_right (by simp; omega), List.getElem?_append_left (by simp; omega)]
      congr 1
      simp
      omega
    exact ⟨at_ 0 (by decide), at_ 1 (by decide), at_ 2 (by decide), at_ 3 (by decide)⟩
  · have hxy : x = y := by
      rcases Nat.lt_or_gt_of_ne e with hlt | hgt
      · rw [List.getElem?_append_left hlt] at hx hy
        rw [hx] at hy
        exact Option.some.inj hy
      · rw [List.getElem?_append_right (by omega)] at hx hy
        obtain ⟨k, hk⟩ : ∃ k, i - pre.length = k + 1 := ⟨i - pre.length - 1, by omega⟩
        rw [hk, List.getElem?_cons_succ] at hx hy
        rw [hx] at hy
        exact Option.some.inj hy
    subst hxy
    obtain ⟨a, b, c, d⟩ := h i x hy
    exact ⟨(far 0 (by decide) e).trans a, (far 1 (by decide) e).trans b, (far 2 (by decide) e).trans c, (far 3 (by decide) e).trans d⟩
theorem VL.size {L : List Q} {cur : Array Value} (h : VL L cur) {pre t : List Q} {q : Q} (hL : L = pre ++ q :: t) : pre.length * 4 + 4 ≤ cur.size := by
  have hq := h pre.length q (by subst hL; simp)
  have := (Array.getElem?_eq_some_iff.1 hq.2.2.2).1
  omega
theorem ZL.same {L : List Q} {cur : Array Value} (h : ZL L cur) {pre t : List Q} {q q' : Q} (hL : L = pre ++ q :: t) (hz : q'.z = q.z) : ZL (pre ++ q' :: t) cur := by
  subst hL
  intro i x hx
  rcases Nat.lt_trichotomy i pre.length with hlt | rfl | hgt
  · rw [List.getElem?_append_left hlt] at hx
    exact h i x (by rw [List.getElem?_append_left hlt]; exact hx)
  · have hxq : x = q' := by simpa using hx.symm
    subst hxq
    rw [hz]
    exact h pre.length q (by simp)
  · have := h i x (by
      rw [List.getElem?_append_right (by omega)] at hx ⊢
      obtain ⟨k, hk⟩ : ∃ k, i - pre.length = k + 1 := ⟨i - pre.length - 1, by omega⟩
      rw [hk, List.getElem?_cons_succ] at hx ⊢
      exact hx)
    exact this
theorem ZL.put {L : List Q} {cur : Array Value} (h : ZL L cur) {pre t : List Q} {q q' : Q} (hL : L = pre ++ q :: t) {z : Int} (hz : z = q'.z) : ZL (pre ++ q' :: t) (cur.setIfInBounds pre.length (.int .i64 z)) := by
  subst hL
  subst hz
  have hs : pre.length < cur.size := (Array.getElem?_eq_some_iff.1 (h pre.length q (by simp))).1
  intro i x hx
  rcases Nat.lt_trichotomy i pre.length with hlt | rfl | hgt
  · rw [List.getElem?_append_left hlt] at hx
    rw [Array.getElem?_setIfInBounds_ne (by omega)]
    exact h i x (by rw [List.getElem?_append_left hlt]; exact hx)
  · have hxq : x = q' := by simpa using hx.symm
    subst hxq
    simp [hs]
  · rw [Array.getElem?_setIfInBounds_ne (by omega)]
    exact h i x (by
      rw [List.getElem?_append_right (by omega)] at hx ⊢
      obtain ⟨k, hk⟩ : ∃ k, i - pre.length = k + 1 := ⟨i - pre.length - 1, by omega⟩
      rw [hk, List.getElem?_cons_succ] at hx ⊢
      exact hx)
theorem CL.stored {w ws : World} {g bl bz cl cz n : Nat} {pre t M : List Q} {q q' : Q} {cur : Array Value} (h : CL w g bl bz cl cz n (pre ++ q :: t) M) (hv : VL (pre ++ q :: t) cur) (hcur : w.heap[bl]? = some (.cells cur 25 (0, 0)))
    (hb : ws.heap[bl]? = some (.cells (putAt cur (pre.length * 4) #[.int .i64 pre.length, .int .u16 q'.v, .int .i64 q'.a, .int .i64 q'.f]) 25 (0, 0))) (hg : w.grownBy ws (some bl)) : CL ws g bl bz cl cz n (pre ++ q' :: t) M := by
  obtain ⟨d, h3, h4⟩ := h.hz
  have e1 : g ≠ bl := ne_type h.hg hcur (by decide)
  have e2 : bz ≠ bl := ne_type h3 hcur (by decide)
  exact ⟨by have := h.len; simpa using this, blk_grown h.hg hg (fun e => e1 (Option.some.inj e)), ⟨_, hb, hv.put rfl⟩, ⟨d, blk_grown h3 hg (fun e => e2 (Option.some.inj e)), h4⟩⟩
theorem CL.same {w : World} {g bl bz cl cz n : Nat} {L pre t : List Q} {q q' : Q} (h : CL w g bl bz cl cz n L (pre ++ q :: t)) (hz : q'.z = q.z) : CL w g bl bz cl cz n L (pre ++ q' :: t) := by
  obtain ⟨d, h3, h4⟩ := h.hz
  exact ⟨h.len, h.hg, h.hl, ⟨d, h3, h4.same rfl hz⟩⟩
theorem CL.put {w : World} {g bl bz cl cz n : Nat} {L pre t : List Q} {q q' : Q} (h : CL w g bl bz cl cz n L (pre ++ q :: t)) {z : Int} (hz : z = q'.z) : CL (w.setCell ⟨bz, pre.length, none⟩ (.int .i64 z)) g bl bz cl cz n L (pre ++ q' :: t) := by
  obtain ⟨c, h1, h2⟩ := h.hl
  obtain ⟨d, h3, h4⟩ := h.hz
  have e1 : g ≠ bz := ne_type h.hg h3 (by decide)
  have e2 : bl ≠ bz := ne_type h1 h3 (by decide)
  exact ⟨h.len, blk_far h.hg e1 _, ⟨c, blk_far h1 e2 _, h2⟩, ⟨_, blk_put h3 _ _ rfl, h4.put rfl hz⟩⟩
theorem CL.free {w : World} {g bl bz cl cz n : Nat} {L M : List Q} (h : CL w g bl bz cl cz n L M) (i : Nat) : w.frozen? ⟨bz, i, none⟩ = false := by
  obtain ⟨d, h3, _⟩ := h.hz
  exact blk_frozen h3 i
theorem check_0 {o v a f : Int} (h : viewV o v a f = true) : checkV o v a f = 0 := by unfold checkV; rw [if_pos h]
theorem sent_ok {o v a f : Int} (h : viewV o v a f = true) : vector_Sent.f o v a f = some (o, withG v o, 1, 0, 0) := by
  show (if checkV o v a f = 0 then some (o, withG v o, 1, 0, 0) else some (0, 0, 0, 0, 180)) = _
  rw [check_0 h, if_pos rfl]
theorem quiet_ok {o v a f : Int} (h : viewV o v a f = true) (ho : nodeB o = true) : vector_Quiet.f o v a f = some (o, withoutG v o, 0, 0, 0) := by
  unfold vector_Quiet.f
  have hj : vector_Joined.f o v = some (o, withoutG v o, 0, 0, 0) := by
    show (if nodeB o = true then some (o, withoutG v o, 0, 0, 0) else some (0, 0, 0, 0, 180)) = _
    rw [if_pos ho]
  rw [show vector_Check.f o v a f = some (checkV o v a f) from rfl, Option.bind_some, hj, check_0 h]
  rfl
set_option maxRecDepth 100000 in
set_option maxHeartbeats 4000000 in
theorem slot_core (g bl bz cl cz base s n : Nat) (d : Int) (deaf : Nat) (lose : Bool) (L L' : List Q) (w : World) (hc : CL w g bl bz cl cz n L L) (hb1 : base ≤ g) (hb2 : base ≤ bl) (hb3 : base ≤ bz) (hb4 : base ≤ w.heap.size) (hn : n ≤ 16) (m : Nat) (hm : m < 1000000) (hv : ∀ q ∈ L, q.v < 65536 ∧ q.z ≤ m)
    (hs : s < n) (hd : ∀ i : Nat, i < 16 → ((i : Int) == d) = (i == deaf)) (h : slot s deaf lose L = some L') :
    Calls Try.prog 25 #[.pointer (some ⟨g, 0, none⟩), .int .i64 s, .int .i64 d, .bool lose] w fun e w' => e = .returned (.bool true) ∧ CL w' g bl bz cl cz n L' L' ∧ (∀ q ∈ L', q.v < 65536 ∧ q.z ≤ m + 1) ∧ Below base w w' ∧ base ≤ w'.heap.size := by
  have hs16 : s < 16 := by omega
  have hlen := hc.len
  obtain ⟨qs, hqs⟩ : ∃ q, L[s]? = some q := ⟨_, List.getElem?_eq_getElem (by omega)⟩
  have hnth : nth L s = qs := nth_of hqs
  unfold slot at h
  rw [hnth] at h
  have hqv : qs.v < 65536 := (hv qs (List.mem_of_getElem? hqs)).1
  have hframe := wN_int hqv hs16
  have hz0 : ((qs.z : Int) == 0) = (qs.z == 0) := by
    cases hz : qs.z with
    | zero => rfl
    | succ m => simp; omega
  have hcg_0 := hc.c0
  have hcg_1 := hc.c1
  have hcv := (hc.view hqs).2.1
  have hct := hc.told hqs
  have HC := Aside0.mk hc
  have HH := Aside0.mk h
  have HV := Aside0.mk hv
  have HD := Aside0.mk hd
  have HN := Aside0.mk hlen
  clear hc h hv hd hlen hnth hqs hqv
  have HF := Aside0.mk hframe
  have HZ := Aside0.mk hz0
  clear hframe hz0
  go_enter Try.func25, Try.ntmps25
  go_wp2_with (go_at_call 37; refine (with_core _ _ _).mono ?_; rintro e w' ⟨rfl, rfl⟩)
  rw [HZ.out, HF.out]
  clear hcg_0 hcg_1 hcv hct HZ HF
  obtain ⟨fr, hfr⟩ : ∃ fr, wN qs.v s = fr := ⟨_, rfl⟩
  obtain ⟨sent, hse⟩ : ∃ b, (qs.z == 0) = b := ⟨_, rfl⟩
  rw [hfr, hse] at HH ⊢
  clear hfr hse
  go_loopw [43] (fun v43 wr => ∃ (pre t R : List Q), v43 = .int .i64 (pre.length : Int) ∧ Aside0 (pre.length + t.length = n) ∧ Aside0 (rest s fr sent lose deaf pre.length t = some R) ∧ Aside0 (pre ++ R = L') ∧ Aside0 (CL wr g bl bz cl cz n (pre ++ t) (pre ++ t)) ∧ Aside0 ((∀ q ∈ pre, q.v < 65536 ∧ q.z ≤ m + 1) ∧ (∀ q ∈ t, q.v < 65536 ∧ q.z ≤ m)) ∧ Aside0 (Below base w' wr ∧ base ≤ wr.heap.size)) (fun v43 _ => n - (intOf v43).toNat)
  case atStart => exact ⟨[], L, L', rfl, ⟨by simpa using HN.out⟩, HH, ⟨rfl⟩, HC, ⟨fun q hq => by simp at hq, HV.out⟩, ⟨Below.refl _ _, hb4⟩⟩
  case round =>
    obtain ⟨pre, t, R, rfl, HL, HR, HE, HC, HV, HB⟩ := hrel
    by_cases c : pre.length < n
    · have cb : decide (((pre.length : Nat) : Int) < (n : Int)) = true := decide_eq_true (by omega)
      obtain ⟨q, t, rfl⟩ : ∃ q t', t = q :: t' := by
        cases t with
        | nil => have := HL.out; simp at this; omega
        | cons q t => exact ⟨q, t, rfl⟩
      have hq : (pre ++ q :: t)[pre.length]? = some q := by simp
      have hi16 : pre.length < 16 := by omega
      by_cases e : pre.length = s
      · have hR := HR.out
        rw [rest] at hR
        have ebn : (pre.length == s) = true := beq_iff_eq.mpr e
        rw [ebn, cond_true] at hR
        obtain ⟨hqv, hqz⟩ := HV.out.2 q (List.mem_cons_self ..)
        cases hhq : send pre.length sent q with
        | none => rw [hhq] at hR; cases hR
        | some q' =>
          rw [hhq] at hR
          cases hrt : rest s fr sent lose deaf (pre.length + 1) t with
          | none => rw [hrt] at hR; cases hR
          | some t' =>
            rw [hrt] at hR
            have hR := Option.some.inj hR
            obtain ⟨hview, hqv', hz1, htup⟩ := send_int hi16 hqv hhq
            have HSE := Aside0.mk (sent_ok hview)
            have HQU := Aside0.mk (quiet_ok hview (node_int hi16))
            have HT' := Aside0.mk hrt
            have HR' := Aside0.mk hR
            have HQV := Aside0.mk hqv'
            have HZ1 := Aside0.mk hz1
            have HTU := Aside0.mk htup
            subst e
            have eb : ((pre.length : Int) == (pre.length : Int)) = true := beq_self_eq_true _
            clear hhq hrt hR hview hqv' hz1 htup hqv ebn HR
            have hcg_0 := HC.out.c0
            have hcg_1 := HC.out.c1
            obtain ⟨hv0, hv1, hv2, hv3⟩ := HC.out.view hq
            obtain ⟨x1, hx1⟩ : ∃ x, withG (q.v : Int) (pre.length : Int) = x := ⟨_, rfl⟩
            obtain ⟨x2, hx2⟩ : ∃ x, withoutG (q.v : Int) (pre.length : Int) = x := ⟨_, rfl⟩
            rw [hx1] at HSE HTU
            rw [hx2] at HQU HTU
            clear hx1 hx2
            go_upto_region 8 with (first | (go_at_call 16; (with_reducible refine (vector_Sent.calls (pre.length : Int) q.v q.a q.f _ _ _ _ _ _ HSE.out).mono ?_); rintro e w3 ⟨rfl, hb⟩; have n0_ := Aside0.mk (HC.out.below hb); have n1_ := Aside0.mk (And.intro (below_then HB.out.1 HB.out.2 hb) (Nat.le_trans HB.out.2 hb.size)); clear HC HB hb hcg_0 hcg_1 hv0 hv1 hv2 hv3; have HC := n0_; have HB := n1_; clear n0_ n1_) | ((with_reducible refine gate_dst (N := 12) rfl ?_); refine box_event ?hg (N := 12) ?hd (cs := #[.int .i64 0, .int .u16 0, .int .i64 0, .int .i64 0]) (t := 25) ?hr ?_; (case hd => rfl); (case hg => rfl); (case hr => first | (go_simp; done) | (go_simp; rfl)); intro g17 hg w4 hbox hb; have n0_ := Aside0.mk (HC.out.below hb); have n1_ := Aside0.mk (And.intro (below_then HB.out.1 HB.out.2 hb) (Nat.le_trans HB.out.2 hb.size)); have n2_ := Aside0.mk hbox; have n3_ := Aside0.mk (show base ≤ g17 by rw [hg]; exact HB.out.2); have n4_ := Aside0.mk (show g ≠ g17 by rw [hg]; exact Nat.ne_of_lt (blk_lt HC.out.hg)); have n5_ := Aside0.mk (show bl ≠ g17 by rw [hg]; exact Nat.ne_of_lt HC.out.bl_lt); have n6_ := Aside0.mk (show bz ≠ g17 by rw [hg]; exact Nat.ne_of_lt HC.out.bz_lt); clear HC HB hb hbox hg; have HC := n0_; have HB := n1_; have BK := n2_; have GE := n3_; have N1 := n4_; have N2 := n5_; have N3 := n6_; clear n0_ n1_ n2_ n3_ n4_ n5_ n6_; have hcz_0 : w4.cell? ⟨g17, 0, none⟩ = some (.int .i64 0) := (blk_cell BK.out 0).trans rfl; have hcz_1 : w4.cell? ⟨g17, 1, none⟩ = some (.int .u16 0) := (blk_cell BK.out 1).trans rfl; have hcz_2 : w4.cell? ⟨g17, 2, none⟩ = some (.int .i64 0) := (blk_cell BK.out 2).trans rfl; have hcz_3 : w4.cell? ⟨g17, 3, none⟩ = some (.int .i64 0) := (blk_cell BK.out 3).trans rfl; have hfz_0 := blk_frozen BK.out 0; have hfz_1 := blk_frozen BK.out 1; have hfz_2 := blk_frozen BK.out 2; have hfz_3 := blk_frozen BK.out 3))
            have n0_ := Aside0.mk (HC.out.far4 N1.out N2.out N3.out (.int .i64 (pre.length : Int)) (.int .u16 x1) (.int .i64 1) (.int .i64 0))
            have n1_ := Aside0.mk (bp4_ BK.out (pre.length : Int) x1 1 0)
            have n2_ := Aside0.mk (bw4_ HB.out.1 GE.out hb4 (.int .i64 (pre.length : Int)) (.int .u16 x1) (.int .i64 1) (.int .i64 0))
            clear HC BK HB hcz_0 hcz_1 hcz_2 hcz_3 hfz_0 hfz_1 hfz_2 hfz_3
            generalize ((((w4.setCell ⟨g17, 0, none⟩ (.int .i64 (pre.length : Int))).setCell ⟨g17, 1, none⟩ (.int .u16 x1)).setCell ⟨g17, 2, none⟩ (.int .i64 1)).setCell ⟨g17, 3, none⟩ (.int .i64 0)) = w5 at n0_ n1_ n2_ ⊢
            have HC := n0_
            have BK := n1_
            have HB := n2_
            clear n0_ n1_ n2_
            go_upto_if 61 with (fail)
            go_cut [13] (fun v13 wd => v13 = .int .i64 0 ∧ Aside0 (CL wd g bl bz cl cz n (pre ++ q :: t) (pre ++ q :: t)) ∧ Aside0 (wd.heap[g17]? = some (.cells #[.int .i64 (pre.length : Int), .int .u16 (q'.v : Int), .int .i64 (q'.a : Int), .int .i64 (q'.f : Int)] 25 (0, 0))) ∧ Aside0 (Below base w' wd ∧ base ≤ wd.heap.size))
            case first =>
              cases sent with
              | true =>
                have htu := HTU.out
                rw [if_pos rfl] at htu
                simp only [Prod.mk.injEq] at htu
                have HQ := Aside0.mk htu
                clear htu HTU
                go_wp2
                go_meet
                case rel => exact ⟨by first | rfl | trivial, HC, ⟨by rw [BK.out, HQ.out.2.1, HQ.out.2.2.1, HQ.out.2.2.2]⟩, HB⟩
              | false =>
                have htu := HTU.out
                rw [if_neg (by decide)] at htu
                simp only [Prod.mk.injEq] at htu
                have HQ := Aside0.mk htu
                clear htu HTU
                have hcg_0 := HC.out.c0
                have hcg_1 := HC.out.c1
                obtain ⟨hv0, hv1, hv2, hv3⟩ := HC.out.view hq
                go_wp2_with (go_at_call 18; (with_reducible refine (vector_Quiet.calls (pre.length : Int) q.v q.a q.f _ _ _ _ _ _ HQU.out).mono ?_); rintro e w7 ⟨rfl, hb⟩; have n0_ := Aside0.mk (HC.out.below hb); have n1_ := Aside0.mk (And.intro (below_then HB.out.1 HB.out.2 hb) (Nat.le_trans HB.out.2 hb.size)); have n2_ := Aside0.mk (blk_below BK.out hb); clear HC HB BK hb hcg_0 hcg_1 hv0 hv1 hv2 hv3; have HC := n0_; have HB := n1_; have BK := n2_; clear n0_ n1_ n2_; have hcz_0 : w7.cell? ⟨g17, 0, none⟩ = some (.int .i64 (pre.length : Int)) := (blk_cell BK.out 0).trans rfl; have hcz_1 : w7.cell? ⟨g17, 1, none⟩ = some (.int .u16 x1) := (blk_cell BK.out 1).trans rfl; have hcz_2 : w7.cell? ⟨g17, 2, none⟩ = some (.int .i64 1) := (blk_cell BK.out 2).trans rfl; have hcz_3 : w7.cell? ⟨g17, 3, none⟩ = some (.int .i64 0) := (blk_cell BK.out 3).trans rfl; have hfz_0 := blk_frozen BK.out 0; have hfz_1 := blk_frozen BK.out 1; have hfz_2 := blk_frozen BK.out 2; have hfz_3 := blk_frozen BK.out 3)
                go_meet
                case rel => exact ⟨by first | rfl | trivial, ⟨HC.out.far4 N1.out N2.out N3.out _ _ _ _⟩, ⟨by rw [← HQ.out.2.1, ← HQ.out.2.2.1, ← HQ.out.2.2.2]; exact bq4_ BK.out _ _ _ _⟩, ⟨bw4_ HB.out.1 GE.out hb4 _ _ _ _⟩⟩
            case rest =>
            clear HC BK HB
            obtain ⟨rfl, HC, BK, HB⟩ := hcut
            go_upto_region 12 with (fail)
            have hcg_0 := HC.out.c0
            have hcz_0 : wc.cell? ⟨g17, 0, none⟩ = some (.int .i64 (pre.length : Int)) := (blk_cell BK.out 0).trans rfl
            have hcz_1 : wc.cell? ⟨g17, 1, none⟩ = some (.int .u16 (q'.v : Int)) := (blk_cell BK.out 1).trans rfl
            have hcz_2 : wc.cell? ⟨g17, 2, none⟩ = some (.int .i64 (q'.a : Int)) := (blk_cell BK.out 2).trans rfl
            have hcz_3 : wc.cell? ⟨g17, 3, none⟩ = some (.int .i64 (q'.f : Int)) := (blk_cell BK.out 3).trans rfl
            go_still_tail 7, (by kernel_rfl)
            change wpList _ _ _ _ _ wc.drew
            obtain ⟨cuv, hcuv, hvl⟩ := HC.out.hl
            have hsz := hvl.size rfl
            refine wpList_store_blk rfl 25 (.tmp 81) (.tmp 80) rfl bl (pre.length * 4) #[.int .i64 (pre.length : Int), .int .u16 (q'.v : Int), .int .i64 (q'.a : Int), .int .i64 (q'.f : Int)] rfl rfl hcuv hsz (by kernel_rfl) (by simp [Value.oneCell']) ?_
            intro w6 hbk hgr
            have n0_ := Aside0.mk ((HC.out.drew.stored (q' := q') hvl hcuv hbk hgr).same HZ1.out)
            have n1_ := Aside0.mk (And.intro (Below.grown HB.out.1.drew hgr HB.out.2 (fun k hk => by cases hk; exact hb2)) (Nat.le_trans hb4 (Below.grown HB.out.1.drew hgr HB.out.2 (fun k hk => by cases hk; exact hb2)).size))
            clear HC HB BK hbk hgr hsz hvl hcuv hcg_0 hcz_0 hcz_1 hcz_2 hcz_3
            have HC := n0_
            have HB := n1_
            clear n0_ n1_
            go_wp2
            go_roundw
            case rel => exact ⟨pre ++ [q'], t, t', by first | rfl | (simp; done), ⟨by have := HL.out; simp at this ⊢; omega⟩, ⟨by simpa using HT'.out⟩, ⟨by rw [← HE.out, ← HR'.out]; simp⟩, ⟨by simpa using HC.out⟩, ⟨fun x hx => by
              rcases List.mem_append.1 hx with hx | hx
              · exact HV.out.1 x hx
              · rw [List.mem_singleton.1 hx]; exact ⟨HQV.out, by rw [HZ1.out]; omega⟩, fun x hx => HV.out.2 x (List.mem_cons_of_mem _ hx)⟩, HB⟩
            case measure => simp [intOf]; omega
      · have eb : ((pre.length : Int) == (s : Int)) = false := beq_eq_false_iff_ne.mpr (by omega)
        have hcg_0 := HC.out.c0
        have hcg_1 := HC.out.c1
        obtain ⟨hv0, hv1, hv2, hv3⟩ := HC.out.view hq
        obtain ⟨hqv, hqz⟩ := HV.out.2 q (List.mem_cons_self ..)
        have hsi : s ≠ pre.length := fun h => e h.symm
        have hR := HR.out
        rw [rest] at hR
        have ebn : (pre.length == s) = false := beq_eq_false_iff_ne.mpr e
        rw [ebn, cond_false] at hR
        obtain ⟨nn, hnn⟩ : ∃ b, (!sent || lose || pre.length == deaf) = b := ⟨_, rfl⟩
        rw [hnn] at hR
        cases hhq : hear pre.length s fr nn q with
        | none => rw [hhq] at hR; cases hR
        | some q' =>
          rw [hhq] at hR
          cases hrt : rest s fr sent lose deaf (pre.length + 1) t with
          | none => rw [hrt] at hR; cases hR
          | some t' =>
            rw [hrt] at hR
            have hR := Option.some.inj hR
            obtain ⟨hmay, hqv', says, hstep, hsays⟩ := hear_int hi16 hs16 hsi hqv hhq
            have HLK := Aside0.mk (show vector_Looks.f (pre.length : Int) q.v q.a q.f s = some (looksV (pre.length : Int) q.v q.a q.f s, 0) by unfold vector_Looks.f; rw [if_pos hmay])
            have HRES := Aside0.mk (show vector_Result.f (looksV (pre.length : Int) q.v q.a q.f s) fr = some (resultV (looksV (pre.length : Int) q.v q.a q.f s) fr) by unfold vector_Result.f; rw [if_pos (by have := looksV_len (pre.length : Int) q.v q.a q.f s; omega)])
            have HSTEP := Aside0.mk (show vector_Step.f (pre.length : Int) q.v q.a q.f s (resN pre.length s fr nn q) = some ((pre.length : Int), (q'.v : Int), (q'.a : Int), (q'.f : Int), says, 0) by unfold vector_Step.f; rw [hstep])
            have hdd := HD.out pre.length hi16
            have HDD := Aside0.mk hdd
            have HNN := Aside0.mk hnn
            have HT' := Aside0.mk hrt
            have HR' := Aside0.mk hR
            have HSAY := Aside0.mk hsays
            have HQV := Aside0.mk hqv'
            clear hstep hmay hdd hnn hrt hR hsays hhq hqv hqv' ebn HR
            obtain ⟨lk, hlk⟩ : ∃ l, looksV (pre.length : Int) q.v q.a q.f s = l := ⟨_, rfl⟩
            obtain ⟨rs, hrs⟩ : ∃ r, resN pre.length s fr nn q = r := ⟨_, rfl⟩
            have hrs2 : rs = if nn = true then 0 else resultV lk fr := by rw [← hrs, ← hlk]; rfl
            rw [hlk] at HLK HRES
            rw [hrs] at HSTEP
            have HRS := Aside0.mk hrs2
            clear hlk hrs hrs2
            obtain ⟨rv, hrv⟩ : ∃ r, resultV lk fr = r := ⟨_, rfl⟩
            rw [hrv] at HRES HRS
            clear hrv
            go_upto_region 15 with (first | (go_at_call 8; refine (vector_Looks.calls (pre.length : Int) q.v q.a q.f s _ _ _ HLK.out).mono ?_; rintro e w1 ⟨v1, rfl, ho, hb⟩; have n0_ := Aside0.mk (HC.out.below hb); have n1_ := Aside0.mk (And.intro (below_then HB.out.1 HB.out.2 hb) (Nat.le_trans HB.out.2 hb.size)); have n2_ := Aside0.mk ho; clear HC HB hb ho hcg_0 hcg_1 hv0 hv1 hv2 hv3; have HC := n0_; have HB := n1_; have HO := n2_; clear n0_ n1_ n2_; obtain ⟨Ao, co, eo⟩ := Kd.R_slice HO.out; subst eo) | (go_at_call 12; refine (vector_Result.calls _ _ lk fr rv _ (Kd.R_reads' HO.out).2.2 (Kd.R_reads' HO.out).2.1 HRES.out).mono ?_; rintro e w2 ⟨rfl, hb⟩; have n0_ := Aside0.mk (HC.out.below hb); have n1_ := Aside0.mk (And.intro (below_then HB.out.1 HB.out.2 hb) (Nat.le_trans HB.out.2 hb.size)); clear HC HB hb; have HC := n0_; have HB := n1_; clear n0_ n1_))
            go_cut [106] (fun v106 wc => wc = w2 ∧ v106 = .bool nn)
            case first =>
              cases sent with
              | false =>
                have HNT : nn = true := by have := HNN.out; simpa using this.symm
                go_wp2
                go_meet
                case rel => exact ⟨by first | rfl | trivial, by rw [HNT]⟩
              | true =>
                cases lose with
                | true =>
                  have HNT : nn = true := by have := HNN.out; simpa using this.symm
                  go_wp2
                  go_meet
                  case rel => exact ⟨by first | rfl | trivial, by rw [HNT]⟩
                | false =>
                  have HNT : ((pre.length : Int) == d) = nn := by rw [HDD.out]; have := HNN.out; simpa using this
                  go_wp2
                  go_meet
                  case rel => exact ⟨by first | rfl | trivial, by first | rfl | (rw [HNT])⟩
            case rest =>
            obtain ⟨rfl, rfl⟩ := hcut
            go_upto_if 106 with (fail)
            go_cut [16] (fun v16 wd => wd = wc ∧ v16 = .int .i64 rs)
            case first =>
              cases nn with
              | true =>
                have hr0 : rs = 0 := by have := HRS.out; simpa using this
                subst hr0
                go_wp2
                go_meet
                case rel => exact ⟨by first | rfl | trivial, rfl⟩
              | false =>
                have hr0 : rs = rv := by have := HRS.out; simpa using this
                subst hr0
                go_wp2
                go_meet
                case rel => exact ⟨by first | rfl | trivial, rfl⟩
            case rest =>
            obtain ⟨rfl, rfl⟩ := hcut
            have hcg_0 := HC.out.c0
            have hcg_1 := HC.out.c1
            obtain ⟨hv0, hv1, hv2, hv3⟩ := HC.out.view hq
            go_upto_region 18 with (first | (go_at_call 14; refine (vector_Step.calls (pre.length : Int) q.v q.a q.f s rs _ _ _ _ _ _ _ HSTEP.out).mono ?_; rintro e w3 ⟨rfl, hb⟩; have n0_ := Aside0.mk (HC.out.below hb); have n1_ := Aside0.mk (And.intro (below_then HB.out.1 HB.out.2 hb) (Nat.le_trans HB.out.2 hb.size)); clear HC HB hb hcg_0 hcg_1 hv0 hv1 hv2 hv3; have HC := n0_; have HB := n1_; clear n0_ n1_) | ((with_reducible refine gate_dst (N := 17) rfl ?_); refine box_event ?hg (N := 17) ?hd (cs := #[.int .i64 0, .int .u16 0, .int .i64 0, .int .i64 0]) (t := 25) ?hr ?_; (case hd => rfl); (case hg => rfl); (case hr => first | (go_simp; done) | (go_simp; rfl)); intro g17 hg w4 hbox hb; have n0_ := Aside0.mk (HC.out.below hb); have n1_ := Aside0.mk (And.intro (below_then HB.out.1 HB.out.2 hb) (Nat.le_trans HB.out.2 hb.size)); have n2_ := Aside0.mk hbox; have n3_ := Aside0.mk (show base ≤ g17 by rw [hg]; exact HB.out.2); have n4_ := Aside0.mk (show g ≠ g17 by rw [hg]; exact Nat.ne_of_lt (blk_lt HC.out.hg)); have n5_ := Aside0.mk (show bl ≠ g17 by rw [hg]; exact Nat.ne_of_lt HC.out.bl_lt); have n6_ := Aside0.mk (show bz ≠ g17 by rw [hg]; exact Nat.ne_of_lt HC.out.bz_lt); clear HC HB hb hbox hg; have HC := n0_; have HB := n1_; have BK := n2_; have GE := n3_; have N1 := n4_; have N2 := n5_; have N3 := n6_; clear n0_ n1_ n2_ n3_ n4_ n5_ n6_; have hcz_0 : w4.cell? ⟨g17, 0, none⟩ = some (.int .i64 0) := (blk_cell BK.out 0).trans rfl; have hcz_1 : w4.cell? ⟨g17, 1, none⟩ = some (.int .u16 0) := (blk_cell BK.out 1).trans rfl; have hcz_2 : w4.cell? ⟨g17, 2, none⟩ = some (.int .i64 0) := (blk_cell BK.out 2).trans rfl; have hcz_3 : w4.cell? ⟨g17, 3, none⟩ = some (.int .i64 0) := (blk_cell BK.out 3).trans rfl; have hfz_0 := blk_frozen BK.out 0; have hfz_1 := blk_frozen BK.out 1; have hfz_2 := blk_frozen BK.out 2; have hfz_3 := blk_frozen BK.out 3))
            have n0_ := Aside0.mk ((((HC.out.far N1.out N2.out N3.out 0 (.int .i64 (pre.length : Int))).far N1.out N2.out N3.out 1 (.int .u16 (q'.v : Int))).far N1.out N2.out N3.out 2 (.int .i64 (q'.a : Int))).far N1.out N2.out N3.out 3 (.int .i64 (q'.f : Int)))
            have n1_ := Aside0.mk (bp4_ BK.out (pre.length : Int) (q'.v : Int) (q'.a : Int) (q'.f : Int))
            have n2_ := Aside0.mk (And.intro ((((HB.out.1.setCell (p := ⟨g17, 0, none⟩) GE.out (.int .i64 (pre.length : Int))).setCell (p := ⟨g17, 1, none⟩) GE.out (.int .u16 (q'.v : Int))).setCell (p := ⟨g17, 2, none⟩) GE.out (.int .i64 (q'.a : Int))).setCell (p := ⟨g17, 3, none⟩) GE.out (.int .i64 (q'.f : Int))) HB.out.2)
            clear HC BK HB hcz_0 hcz_1 hcz_2 hcz_3 hfz_0 hfz_1 hfz_2 hfz_3
            have n3_ := Aside0.mk (And.intro n2_.out.1 (show base ≤ ((((w4.setCell ⟨g17, 0, none⟩ (.int .i64 (pre.length : Int))).setCell ⟨g17, 1, none⟩ (.int .u16 (q'.v : Int))).setCell ⟨g17, 2, none⟩ (.int .i64 (q'.a : Int))).setCell ⟨g17, 3, none⟩ (.int .i64 (q'.f : Int))).heap.size from Nat.le_trans hb4 n2_.out.1.size))
            clear n2_
            generalize ((((w4.setCell ⟨g17, 0, none⟩ (.int .i64 (pre.length : Int))).setCell ⟨g17, 1, none⟩ (.int .u16 (q'.v : Int))).setCell ⟨g17, 2, none⟩ (.int .i64 (q'.a : Int))).setCell ⟨g17, 3, none⟩ (.int .i64 (q'.f : Int))) = w5 at n0_ n1_ n3_ ⊢
            have HC := n0_
            have BK := n1_
            have HB := n3_
            clear n0_ n1_ n3_
            go_upto_region 20 with (fail)
            have hcg_0 := HC.out.c0
            have hcz_0 : w5.cell? ⟨g17, 0, none⟩ = some (.int .i64 (pre.length : Int)) := (blk_cell BK.out 0).trans rfl
            have hcz_1 : w5.cell? ⟨g17, 1, none⟩ = some (.int .u16 (q'.v : Int)) := (blk_cell BK.out 1).trans rfl
            have hcz_2 : w5.cell? ⟨g17, 2, none⟩ = some (.int .i64 (q'.a : Int)) := (blk_cell BK.out 2).trans rfl
            have hcz_3 : w5.cell? ⟨g17, 3, none⟩ = some (.int .i64 (q'.f : Int)) := (blk_cell BK.out 3).trans rfl
            go_still_tail 7, (by kernel_rfl)
            change wpList _ _ _ _ _ w5.drew
            obtain ⟨cuv, hcuv, hvl⟩ := HC.out.hl
            have hsz := hvl.size rfl
            refine wpList_store_blk rfl 25 (.tmp 133) (.tmp 132) rfl bl (pre.length * 4) #[.int .i64 (pre.length : Int), .int .u16 (q'.v : Int), .int .i64 (q'.a : Int), .int .i64 (q'.f : Int)] rfl rfl hcuv hsz (by kernel_rfl) (by simp [Value.oneCell']) ?_
            intro w6 hbk hgr
            have n0_ := Aside0.mk (HC.out.drew.stored (q' := q') hvl hcuv hbk hgr)
            have n1_ := Aside0.mk (And.intro (Below.grown HB.out.1.drew hgr HB.out.2 (fun k hk => by cases hk; exact hb2)) (Nat.le_trans hb4 (Below.grown HB.out.1.drew hgr HB.out.2 (fun k hk => by cases hk; exact hb2)).size))
            clear HC HB BK hbk hgr hsz hvl hcuv hcg_0 hcz_0 hcz_1 hcz_2 hcz_3
            have HC := n0_
            have HB := n1_
            clear n0_ n1_
            by_cases hs3 : says = 3
            · subst hs3
              have hz1 : q'.z = q.z + 1 := by have := HSAY.out; simpa using this
              have hw : wrap64 ((q.z : Int) + 1) = ((q'.z : Nat) : Int) := by unfold wrap64; omega
              have HZ1 := Aside0.mk (show (q.z : Int) + 1 = ((q'.z : Nat) : Int) by omega)
              clear hw hz1
              have hcg_1 := HC.out.c1
              have hcz_0 := HC.out.told hq
              have hfz_0 := HC.out.free pre.length
              go_wp2
              exact ⟨⟨pre ++ [q'], t, t', by simp, ⟨by have := HL.out; simp at this ⊢; omega⟩, ⟨by simpa using HT'.out⟩, ⟨by rw [← HE.out, ← HR'.out]; simp⟩, ⟨by have := HC.out.put (q' := q') (z := (q.z : Int) + 1) HZ1.out; simpa using this⟩, ⟨fun x hx => by
                rcases List.mem_append.1 hx with hx | hx
                · exact HV.out.1 x hx
                · rw [List.mem_singleton.1 hx]; exact ⟨HQV.out, by have := HZ1.out; omega⟩, fun x hx => HV.out.2 x (List.mem_cons_of_mem _ hx)⟩, ⟨HB.out.1.setCell (p := ⟨bz, pre.length, none⟩) hb3 _, Nat.le_trans HB.out.2 (Below.setCell (Below.refl base _) (p := ⟨bz, pre.length, none⟩) hb3 _).size⟩⟩, by simp [intOf]; omega⟩
            · have hz1 : q'.z = q.z := by have := HSAY.out; rw [if_neg hs3] at this; exact this
              have hsb : (says == 3) = false := beq_eq_false_iff_ne.mpr hs3
              have n0_ := Aside0.mk (HC.out.same hz1)
              clear HC
              have HC := n0_
              clear n0_
              have hz2 := Aside0.mk hz1
              clear hz1 hs3
              go_wp2
              go_roundw
              case rel => exact ⟨pre ++ [q'], t, t', by first | rfl | (simp; done), ⟨by have := HL.out; simp at this ⊢; omega⟩, ⟨by simpa using HT'.out⟩, ⟨by rw [← HE.out, ← HR'.out]; simp⟩, ⟨by simpa using HC.out⟩, ⟨fun x hx => by
                rcases List.mem_append.1 hx with hx | hx
                · exact HV.out.1 x hx
                · rw [List.mem_singleton.1 hx]; exact ⟨HQV.out, by rw [hz2.out]; omega⟩, fun x hx => HV.out.2 x (List.mem_cons_of_mem _ hx)⟩, HB⟩
              case measure => simp [intOf]; omega
    · have cb : decide (((pre.length : Nat) : Int) < (n : Int)) = false := decide_eq_false (by omega)
      obtain rfl : t = [] := by
        cases t with
        | nil => rfl
        | cons x t => have := HL.out; simp at this; omega
      have hR := HR.out
      rw [rest] at hR
      have hR := Option.some.inj hR
      subst hR
      have hE := HE.out
      rw [List.append_nil] at hE
      have HE' := Aside0.mk hE
      clear hE HR HE
      go_wp2
      go_ret
      exact ⟨rfl, by have := HC.out; rw [List.append_nil, HE'.out] at this; exact this, by rw [← HE'.out]; exact HV.out.1, HB.out.1, HB.out.2⟩
end Go.Proofs.Ytcfloaplbmpoaaa.Hand
