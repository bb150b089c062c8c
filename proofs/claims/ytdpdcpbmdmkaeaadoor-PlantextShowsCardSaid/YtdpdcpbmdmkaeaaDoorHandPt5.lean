/- plantext.Show, by hand (printed by wip/gen/mkpt5.py; region 5 by the kit's inv.py). -/
import Derived.Test.YtdpdcpbmdmkaeaaDoorHandPt4
import Derived.Test.YtdpdcpbmdmkaeaaDoorHandBld
import Derived.Test.YtdpdcpbmdmkaeaaDoorHandFmt
import Derived.Test.YtdpdcpbmdmkaeaaDoorWInv
import Derived.Test.YtdpdcpbmdmkaeaaDoorWInvWords
import Derived.Test.YtdpdcpbmdmkaeaaDoorWLast
import Derived.Test.YtdpdcpbmdmkaeaaDoorWTab
import Derived.Test.YtdpdcpbmdmkaeaaDoorWMore
import Derived.Shelf.Strconv.Itoa3
import Derived.Lib.ItoaLen
import Derived.Lib.AppendIntMem
import Derived.Lib.UnsafeStr
set_option linter.unusedVariables false
set_option linter.unusedSimpArgs false
namespace Go.Proofs.YtdpdcpbmdmkaeaaDoor.Hand
set_option maxRecDepth 100000
open Go.RowKit Go.Shelf Go.Proofs.YtdpdcpbmdmkaeaaDoor.PA Go.Proofs.YtdpdcpbmdmkaeaaDoorW.PrintWords Go.Proofs.YtdpdcpbmdmkaeaaDoorW.PrintLast Go.Proofs.YtdpdcpbmdmkaeaaDoorW.PrintMore
attribute [local go_sem] Oper.semAt_some

def plantextShow.T5 : Bool × List (List Nat × List Nat) := (true, [([], []), ([0], [0]), ([1], [1]), ([], []), ([3], [3]), ([4], [4]), ([5, 5], [5]), ([2, 6], [2, 6]), ([7], [7]), ([8, 6], [8])])
def plantextShow.B5 : List Nat := [0, 1, 3, 0, 8, 24, 56, 127, 255, 511]
theorem plantextShow.tab5 : rtab .any (opsOf Tryd.f8 5) = plantextShow.T5 := by kernel_rfl
theorem plantextShow.bits5 : waitsOk plantextShow.T5.2 plantextShow.B5 = true := by kernel_rfl

section
variable {P : Program} {ops : Array Oper} {Q : Exit → Act → World → Prop}
/-- A call of a closure. -/
theorem goesC_ {oi : Oper} {N : Option Tmp} {a : Act} {w : World} {K : Act → World → Prop} {f : FuncId} {fn : Func} {x : Operand} {as_ : Array Operand} {ts : Array TypeId} (hf : P.funcs[f]? = some fn) (hname : (fn.name == "runtime.NumGoroutine") = false) (hb : fn.body.isSome = true) (cap args : Array Value)
    (hw : Region.wanted oi (yielded ops a.tmps) = true) (hN : oi.dst = N) (hop : oi.op = .call { callee := .value x, args := as_, argTypes := ts }) (hx : a.eval x = .func (.func f) #[] cap) (hargs : as_.map a.eval = args)
    (h : Calls P f (args ++ cap) w fun e w' => ∃ v, e = .returned v ∧ K (a.put N v) w') : if Region.wanted oi (yielded ops a.tmps) = true then Oper.wp P oi a w K Q else K (a.put N undef) w := by
  refine call_ f (args ++ cap) hw hN ?_ h
  have he := enters_ hf hname hb (args ++ cap) w
  unfold execOp
  simp [hop, resolve, Deferred.ofValue, invoke, hx, hargs, he]
end
theorem fmt_core (n : Int) (h0 : -9223372036854775808 ≤ n) (h1 : n ≤ 9223372036854775807) (w : World) (hm : FieldsAt w) : Calls Tryd.prog 14 #[.int .i64 n, .int .i64 10] w fun e w' => e = .returned (.string ⟨(Lib.itoa n).toArray⟩) ∧ Below w.heap.size w w' := by
  go_enter Tryd.func14, Tryd.ntmps14
  go_wp2_with (go_at_call 38; refine (Any.internal_strconv_FormatInt_10 laysFmt n h0 h1 _ hm.pw).mono ?_; rintro e w' ⟨rfl, k, os, rfl⟩)
  go_ret
  exact ⟨rfl, Lib.below_grow _ _ (Nat.le_refl _) _ _⟩
theorem Bld.below {w1 w w' : World} {b : Nat} {bs : List Value} (h : Bld w1 b bs w) (hb : Below w.heap.size w w') : Bld w1 b bs w' := by
  obtain ⟨p, v, hp, hh, ho⟩ := h.ex
  exact ⟨⟨p, v, hp, blk_below hh hb, ho.kept (grown_of_below hb none) (by rcases hq : v.ownBlock with _ | k <;> simp)⟩, h.lt⟩
/-- A line of the text. -/
def lineB (L : List Int) (i : Nat) : ByteArray := (((namesL.getD i ⟨#[]⟩ ++ (⟨#[32, 61, 32]⟩ : ByteArray)) ++ ⟨(Lib.itoa (L.getD i 0)).toArray⟩) ++ (⟨#[10]⟩ : ByteArray))
def textL (L : List Int) : Nat → List UInt8
  | 0 => []
  | i + 1 => textL L i ++ (lineB L i).data.toList
theorem wf64_ {v : Int} (hv : (Lit.int .i64 v).wf = true) : -9223372036854775808 ≤ v ∧ v ≤ 9223372036854775807 := by
  simp [Lit.wf, IntKind.min, IntKind.max, IntKind.bits, IntKind.signed] at hv
  omega
theorem name_size : ∀ i, i < 16 → (namesL.getD i ⟨#[]⟩).size ≤ 7 := by decide
theorem num_in {L : List Int} (hN : ∀ x ∈ L, (Lit.int .i64 x).wf = true) (hL : L.length = 16) (i : Nat) (hi : i < 16) : -9223372036854775808 ≤ L.getD i 0 ∧ L.getD i 0 ≤ 9223372036854775807 := by
  have h : i < L.length := by omega
  have hd : L.getD i 0 = L[i] := by simp [h]
  rw [hd]
  exact wf64_ (hN _ (List.getElem_mem h))
theorem dig_size (n : Int) (h : -9223372036854775808 ≤ n ∧ n ≤ 9223372036854775807) : (⟨(Lib.itoa n).toArray⟩ : ByteArray).size ≤ 21 := by
  have := Lib.itoa_length_le n h.1 h.2
  simpa [ByteArray.size] using this
theorem line_size {L : List Int} (hN : ∀ x ∈ L, (Lit.int .i64 x).wf = true) (hL : L.length = 16) (i : Nat) (hi : i < 16) : (lineB L i).size ≤ 32 := by
  have h1 := name_size i hi
  have h2 := dig_size _ (num_in hN hL i hi)
  unfold lineB
  simp only [ByteArray.size_append]
  have h3 : (⟨#[32, 61, 32]⟩ : ByteArray).size = 3 := rfl
  have h4 : (⟨#[10]⟩ : ByteArray).size = 1 := rfl
  omega
theorem text_len {L : List Int} (hN : ∀ x ∈ L, (Lit.int .i64 x).wf = true) (hL : L.length = 16) : ∀ i, i ≤ 16 → (textL L i).length ≤ i * 32
  | 0, _ => Nat.zero_le _
  | i + 1, hi => by
    have h1 := text_len hN hL i (by omega)
    have h2 := line_size hN hL i (by omega)
    have h3 : ∀ x : ByteArray, x.data.toList.length = x.size := fun _ => rfl
    rw [textL, List.length_append, h3]
    omega
theorem fields_at2 (w : World) (hm : FieldsAt w) : Calls Tryd.prog 10 #[] w fun e w' => ∃ gt cap bx, e = .returned (.slice (some ⟨gt, 0, none⟩) 16 cap) ∧ Tab w' gt bx ∧ w.heap.size ≤ gt ∧ w.heap.size ≤ bx ∧ Below w.heap.size w w' :=
  (fields_pt w hm).mono fun e w1 ⟨v, he, hrow, hbox, hB1⟩ => by
    obtain ⟨gt, cap, hv, hgt, hcells⟩ := table_of hrow
    exact ⟨gt, cap, w.heap.size, by rw [he, hv], ⟨fun i hi => (hcells i hi).1, fun i hi => (hcells i hi).2, hbox⟩, hgt, Nat.le_refl _, hB1⟩
set_option maxHeartbeats 4000000 in
theorem show_core (p0 p1 p2 p3 p4 p5 p6 p7 p8 p9 p10 p11 p12 p13 p14 p15 : Int) (hN : ∀ x ∈ [p0, p1, p2, p3, p4, p5, p6, p7, p8, p9, p10, p11, p12, p13, p14, p15], (Lit.int .i64 x).wf = true) (w : World) (hm : FieldsAt w) : Calls Tryd.prog 8 #[.agg #[.int .i64 p0, .int .i64 p1, .int .i64 p2, .int .i64 p3, .int .i64 p4, .int .i64 p5, .int .i64 p6, .int .i64 p7, .int .i64 p8, .int .i64 p9, .int .i64 p10, .int .i64 p11, .int .i64 p12, .int .i64 p13, .int .i64 p14, .int .i64 p15]] w fun e w' => e = .returned (.string ⟨(textL [p0, p1, p2, p3, p4, p5, p6, p7, p8, p9, p10, p11, p12, p13, p14, p15] 16).toArray⟩) ∧ Below w.heap.size w w' := by
  have hP := plan_box p0 p1 p2 p3 p4 p5 p6 p7 p8 p9 p10 p11 p12 p13 p14 p15 w
  have hB0 : Below w.heap.size w (w.alloc (.cells #[.int .i64 p0, .int .i64 p1, .int .i64 p2, .int .i64 p3, .int .i64 p4, .int .i64 p5, .int .i64 p6, .int .i64 p7, .int .i64 p8, .int .i64 p9, .int .i64 p10, .int .i64 p11, .int .i64 p12, .int .i64 p13, .int .i64 p14, .int .i64 p15] 23 (0, 0))) := (Below.refl _ _).alloc (Nat.le_refl _) _
  have hLn : [p0, p1, p2, p3, p4, p5, p6, p7, p8, p9, p10, p11, p12, p13, p14, p15].length = 16 := rfl
  generalize [p0, p1, p2, p3, p4, p5, p6, p7, p8, p9, p10, p11, p12, p13, p14, p15] = L at hP hN hLn ⊢
  go_enter Tryd.func8, Tryd.ntmps8
  have hm1 := hm.below (hB0.alloc hB0.size (.cells #[.pointer none, .slice none 0 0] 42 (0, 0))) (Nat.le_refl _)
  have hbb0 := heap_alloc_new (w.alloc (.cells #[.int .i64 p0, .int .i64 p1, .int .i64 p2, .int .i64 p3, .int .i64 p4, .int .i64 p5, .int .i64 p6, .int .i64 p7, .int .i64 p8, .int .i64 p9, .int .i64 p10, .int .i64 p11, .int .i64 p12, .int .i64 p13, .int .i64 p14, .int .i64 p15] 23 (0, 0))) (.cells #[.pointer none, .slice none 0 0] 42 (0, 0))
  rw [World.size_alloc] at hbb0
  have hB00 := hB0.alloc hB0.size (.cells #[.pointer none, .slice none 0 0] 42 (0, 0))
  have hP0 := hP.below ((Below.refl _ _).alloc (Nat.le_refl _) (.cells #[.pointer none, .slice none 0 0] 42 (0, 0)))
  have hs0 : ((w.alloc (.cells #[.int .i64 p0, .int .i64 p1, .int .i64 p2, .int .i64 p3, .int .i64 p4, .int .i64 p5, .int .i64 p6, .int .i64 p7, .int .i64 p8, .int .i64 p9, .int .i64 p10, .int .i64 p11, .int .i64 p12, .int .i64 p13, .int .i64 p14, .int .i64 p15] 23 (0, 0))).alloc (.cells #[.pointer none, .slice none 0 0] 42 (0, 0))).heap.size = w.heap.size + 2 := by simp
  go_wp2_with (go_at_call 10; refine (fields_at2 _ hm1).mono ?_; rintro e w1 ⟨gt, cap, bx, rfl, hT, hgt, hbx, hB1⟩)
  have hP1 := hP0.below hB1
  have hbb1 := blk_below hbb0 hB1
  have hBw := below_step hB00 hB1
  have hl1 : w.heap.size + 2 ≤ w1.heap.size := by have := hB1.size; omega
  rw [hs0] at hgt hbx
  clear hP hP0 hB0 hm1 hB1 hbb0 hB00 hs0
  go_loopw [8] (fun v8 wr => ∃ i : Nat, i ≤ 16 ∧ v8 = .int .i64 i ∧ Bld w1 (w.heap.size + 1) (Lib.byteCells (textL L i)) wr ∧ w1.grownBy wr (some (w.heap.size + 1))) (fun v8 _ => 16 - (intOf v8).toNat)
  case atStart => exact ⟨0, Nat.zero_le _, rfl, ⟨⟨_, _, .inl rfl, hbb1, World.ownsRow_nil _ _ _ _⟩, by omega⟩, World.grownBy.refl _ _⟩
  case round =>
    obtain ⟨i, hi16, rfl, hBl, hG⟩ := hrel
    have hBr : Below w.heap.size w wr := hBw.grown hG hBw.size (fun j ej => by cases ej; omega)
    by_cases hlt : i < 16
    · have hcl : decide ((i : Int) < 16) = true := decide_eq_true (by omega)
      have d0 := hG.cell (hT.name i hlt) (by simp; omega)
      have d1 := hG.cell (hT.clo i hlt) (by simp; omega)
      have db := hG.cell (hT.box i hlt) (by simp; omega)
      have dp := hG.cell (hP1 i hlt) (by simp)
      have hmr := hm.below hBr (Nat.le_refl _)
      have hn := num_in hN hLn i hlt
      have hX : Lib.byteCells (textL L (i + 1)) = Lib.byteCells (textL L i) ++ Lib.strCells (lineB L i) := by rw [textL, Lib.byteCells_append]; rfl
      have hlen0 := text_len hN hLn i hi16
      rw [← Lib.byteCells_length] at hlen0
      have hnm := name_size i hlt
      have hds := dig_size _ hn
      unfold lineB at hX
      unfold cloV at d1
      generalize namesL.getD i ⟨#[]⟩ = nm at d0 hX hnm
      generalize L.getD i 0 = n at dp hn hX hds
      obtain ⟨D, hD0⟩ : ∃ D, D = (⟨(Lib.itoa n).toArray⟩ : ByteArray) := ⟨_, rfl⟩
      rw [← hD0] at hX hds
      generalize Lib.byteCells (textL L i) = bs at hBl hX hlen0
      have hlen : Aside0 (bs.length + (((nm ++ (⟨#[32, 61, 32]⟩ : ByteArray)) ++ D) ++ (⟨#[10]⟩ : ByteArray)).size ≤ 140737488355328) := ⟨by simp only [ByteArray.size_append, show (⟨#[32, 61, 32]⟩ : ByteArray).size = 3 from rfl, show (⟨#[10]⟩ : ByteArray).size = 1 from rfl]; omega⟩
      have SZ2 : Aside0 ((9223372036854775807 < nm.size + 3) = False) := ⟨eq_false (by omega)⟩
      have SZ7 : Aside0 ((9223372036854775807 < nm.size + 3 + D.size) = False) := ⟨eq_false (by omega)⟩
      have SZ8 : Aside0 ((9223372036854775807 < nm.size + 3 + D.size + 1) = False) := ⟨eq_false (by omega)⟩
      have hD := Aside0.mk hD0
      have hX_ := Aside0.mk hX
      have hn_ := Aside0.mk hn
      clear hD0 hX hn hlen0 hnm hds
      rcases clo_kind i hlt with hk | hk
      · rw [hk] at d1
        go_wp2_with (refine wpList_store_blk rfl 34 (.tmp 5) (.tmp 11) rfl wr.heap.size 0 #[.string nm, .func (.func 39) #[] #[.pointer (some ⟨bx + i, 0, none⟩)]] rfl rfl (heap_alloc_new wr (.cells #[.string ⟨#[]⟩, .nilFunc] 34 (0, 0))) (by simp) (by kernel_rfl) (by simp [Value.oneCell']) ?_; intro ws hbk hgr)
        have hbs : Below wr.heap.size wr ws := ((Below.refl _ _).alloc (Nat.le_refl _) _).grown hgr (by simp) (fun j ej => by cases ej; exact Nat.le_refl _)
        have E0 : Aside0 (ws.drew.cell? ⟨wr.heap.size, 0, none⟩ = some (.string nm)) := ⟨(blk_cell hbk 0).trans rfl⟩
        have E1 : Aside0 (ws.drew.cell? ⟨wr.heap.size, 1, none⟩ = some (.func (.func 39) #[] #[.pointer (some ⟨bx + i, 0, none⟩)])) := ⟨(blk_cell hbk 1).trans rfl⟩
        have DB := Aside0.mk (show ws.drew.cell? ⟨bx + i, 0, none⟩ = some (.func (.func (atF i)) #[] #[]) from (hbs.cell (World.block_lt_of_cell? _ _ db)).trans db)
        have DP := Aside0.mk (show ws.drew.cell? ⟨w.heap.size, i, none⟩ = some (.int .i64 n) from (hbs.cell (World.block_lt_of_cell? _ _ dp)).trans dp)
        have TB : Aside0 (FieldsAt ws.drew) := ⟨hmr.below (below_drew hbs) (Nat.le_refl _)⟩
        have BL : Aside0 (Bld w1 (w.heap.size + 1) bs ws.drew) := ⟨hBl.below (below_drew hbs)⟩
        have GB : Aside0 (w1.grownBy ws.drew (some (w.heap.size + 1))) := ⟨hG.andThen (grown_of_below (below_drew hbs) none) (fun j e => by cases e)⟩
        clear hbk hgr hbs d0 d1 db dp hmr hBl hG hBr
        refine start_ (n := 10) (S := fun w' => True) (ds := []) #[false, false, false, false, false, false, false, false, false, false] (by kernel_rfl) rfl rfl trivial (fun hHeld => ?_)
        refine with_tabW plantextShow.tab5 plantextShow.bits5 (fun HT_ HW_ => ?_)
        generalize ws.drew = w20 at E0 E1 DB DP TB BL GB ⊢
        refine pure_ (i := 0) (N := some 12) (v := ?_) (a' := ?_) #[true, false, false, false, false, false, false, false, false, false] rfl rfl (any_of HT_.out (by kernel_rfl)) (fun _ _ _ h => h) (Or.inl ⟨by rfl, ?_⟩) ?_ ?_
        rotate_left
        · intro w'
          go_simp
          with_reducible rfl
        rotate_left
        · simp only [Act.put, List.setIfInBounds_toArray, List.set_cons_zero, List.set_cons_succ, i64_w, i32_w]
          rfl
        refine pure_ (i := 3) (N := some 15) (v := ?_) (a' := ?_) #[true, false, false, true, false, false, false, false, false, false] rfl rfl (any_of HT_.out (by kernel_rfl)) (fun _ _ _ h => h) (Or.inl ⟨by rfl, ?_⟩) ?_ ?_
        rotate_left
        · intro w'
          go_simp
          with_reducible rfl
        rotate_left
        · simp only [Act.put, List.setIfInBounds_toArray, List.set_cons_zero, List.set_cons_succ, i64_w, i32_w]
          rfl
        refine inv_at [1, 2, 4, 5, 6, 7, 8, 9] (fun a0_ b a w' => a = putSel a0_ b [(1, 13, .string nm), (2, 14, .string (nm ++ (⟨#[32, 61, 32]⟩ : ByteArray))), (4, 16, .func (.func 39) #[] #[.pointer (some ⟨bx + i, 0, none⟩)]), (5, 17, .int .i64 n), (6, 18, .string D), (7, 19, .string ((nm ++ (⟨#[32, 61, 32]⟩ : ByteArray)) ++ D)), (8, 20, .string (((nm ++ (⟨#[32, 61, 32]⟩ : ByteArray)) ++ D) ++ (⟨#[10]⟩ : ByteArray))), (9, 21, .tuple #[.int .i64 (((nm ++ (⟨#[32, 61, 32]⟩ : ByteArray)) ++ D) ++ (⟨#[10]⟩ : ByteArray)).size, .nilIface])] ∧ (b 9 = false → w'.cell? ⟨wr.heap.size, 0, none⟩ = some (.string nm)) ∧ (b 9 = false → w'.cell? ⟨wr.heap.size, 1, none⟩ = some (.func (.func 39) #[] #[.pointer (some ⟨bx + i, 0, none⟩)])) ∧ (b 9 = false → w'.cell? ⟨bx + i, 0, none⟩ = some (.func (.func (atF i)) #[] #[])) ∧ (b 9 = false → w'.cell? ⟨w.heap.size, i, none⟩ = some (.int .i64 n)) ∧ (b 9 = false → FieldsAt w') ∧ (b 9 = false → Bld w1 (w.heap.size + 1) bs w') ∧ (b 9 = true → Bld w1 (w.heap.size + 1) (bs ++ Lib.strCells (((nm ++ (⟨#[32, 61, 32]⟩ : ByteArray)) ++ D) ++ (⟨#[10]⟩ : ByteArray))) w') ∧ (w1.grownBy w' (some (w.heap.size + 1)))) HT_.out HW_.out (by kernel_rfl) (by kernel_rfl) ?_ ?_ ?_
        · exact ⟨by simp only [putSel, Bool.false_eq_true, if_false], fun _ => E0.out, fun _ => E1.out, fun _ => DB.out, fun _ => DP.out, fun _ => TB.out, fun _ => BL.out, fun h_ => absurd h_ (by decide), GB.out⟩
        · skip
          clear BL DB DP E0 E1 GB TB
          refine steps_cons ?_ ?_
          · rintro b a w' ⟨ha, Q_E0, Q_E1, Q_DB, Q_DP, Q_TB, Q_BL, Q_BM, Q_GB⟩ hb_ hon hoff
            refine ⟨_, rfl, fun K hK => ?_⟩
            have e12 : a.tmps[12]? = some (.pointer (some ⟨wr.heap.size, 0, none⟩)) := by rw [ha]; exact (putSel_off rfl).trans rfl
            replace ha := Aside0.mk ha
            have E0 := Aside0.mk (Q_E0 (hoff 9 (by kernel_rfl)))
            have E1 := Aside0.mk (Q_E1 (hoff 9 (by kernel_rfl)))
            have DB := Aside0.mk (Q_DB (hoff 9 (by kernel_rfl)))
            have DP := Aside0.mk (Q_DP (hoff 9 (by kernel_rfl)))
            have TB := Aside0.mk (Q_TB (hoff 9 (by kernel_rfl)))
            have BL := Aside0.mk (Q_BL (hoff 9 (by kernel_rfl)))
            have GB := Aside0.mk Q_GB
            have hc_ := E0.out
            refine value_ (w1 := w') (v := .string nm) (by rfl) rfl ?_ ?_
            · go_simp
              (try simp only [i64_w])
              try rfl
            refine hK.out _ _ ⟨(by rw [ha.out]; exact putSel_upk 0 hb_ rfl rfl rfl), Q_E0, Q_E1, Q_DB, Q_DP, Q_TB, Q_BL, fun h0_ => absurd ((hoff 9 (by kernel_rfl)).symm.trans h0_) (by decide), Q_GB⟩
          refine steps_cons ?_ ?_
          · rintro b a w' ⟨ha, Q_E0, Q_E1, Q_DB, Q_DP, Q_TB, Q_BL, Q_BM, Q_GB⟩ hb_ hon hoff
            refine ⟨_, rfl, fun K hK => ?_⟩
            have e13 : a.tmps[13]? = some (.string nm) := by rw [ha]; exact putSel_on (e := (1, 13, .string nm)) 0 rfl rfl (hon 1 (by kernel_rfl)) rfl
            replace ha := Aside0.mk ha
            have E0 := Aside0.mk (Q_E0 (hoff 9 (by kernel_rfl)))
            have E1 := Aside0.mk (Q_E1 (hoff 9 (by kernel_rfl)))
            have DB := Aside0.mk (Q_DB (hoff 9 (by kernel_rfl)))
            have DP := Aside0.mk (Q_DP (hoff 9 (by kernel_rfl)))
            have TB := Aside0.mk (Q_TB (hoff 9 (by kernel_rfl)))
            have BL := Aside0.mk (Q_BL (hoff 9 (by kernel_rfl)))
            have GB := Aside0.mk Q_GB
            have hs_ := SZ2.out
            refine value_ (w1 := w') (v := .string (nm ++ (⟨#[32, 61, 32]⟩ : ByteArray))) (by rfl) rfl ?_ ?_
            · go_simp
              (try simp only [i64_w])
              try rfl
            refine hK.out _ _ ⟨(by rw [ha.out]; exact putSel_upk 1 hb_ rfl rfl rfl), Q_E0, Q_E1, Q_DB, Q_DP, Q_TB, Q_BL, fun h0_ => absurd ((hoff 9 (by kernel_rfl)).symm.trans h0_) (by decide), Q_GB⟩
          refine steps_cons ?_ ?_
          · rintro b a w' ⟨ha, Q_E0, Q_E1, Q_DB, Q_DP, Q_TB, Q_BL, Q_BM, Q_GB⟩ hb_ hon hoff
            refine ⟨_, rfl, fun K hK => ?_⟩
            have e15 : a.tmps[15]? = some (.pointer (some ⟨wr.heap.size, 1, none⟩)) := by rw [ha]; exact (putSel_off rfl).trans rfl
            replace ha := Aside0.mk ha
            have E0 := Aside0.mk (Q_E0 (hoff 9 (by kernel_rfl)))
            have E1 := Aside0.mk (Q_E1 (hoff 9 (by kernel_rfl)))
            have DB := Aside0.mk (Q_DB (hoff 9 (by kernel_rfl)))
            have DP := Aside0.mk (Q_DP (hoff 9 (by kernel_rfl)))
            have TB := Aside0.mk (Q_TB (hoff 9 (by kernel_rfl)))
            have BL := Aside0.mk (Q_BL (hoff 9 (by kernel_rfl)))
            have GB := Aside0.mk Q_GB
            have hc_ := E1.out
            refine value_ (w1 := w') (v := .func (.func 39) #[] #[.pointer (some ⟨bx + i, 0, none⟩)]) (by rfl) rfl ?_ ?_
            · go_simp
              (try simp only [i64_w])
              try rfl
            refine hK.out _ _ ⟨(by rw [ha.out]; exact putSel_upk 2 hb_ rfl rfl rfl), Q_E0, Q_E1, Q_DB, Q_DP, Q_TB, Q_BL, fun h0_ => absurd ((hoff 9 (by kernel_rfl)).symm.trans h0_) (by decide), Q_GB⟩
          refine steps_cons ?_ ?_
          · rintro b a w' ⟨ha, Q_E0, Q_E1, Q_DB, Q_DP, Q_TB, Q_BL, Q_BM, Q_GB⟩ hb_ hon hoff
            refine ⟨_, rfl, fun K hK => ?_⟩
            have e16 : a.tmps[16]? = some (.func (.func 39) #[] #[.pointer (some ⟨bx + i, 0, none⟩)]) := by rw [ha]; exact putSel_on (e := (4, 16, .func (.func 39) #[] #[.pointer (some ⟨bx + i, 0, none⟩)])) 2 rfl rfl (hon 4 (by kernel_rfl)) rfl
            have e1 : a.tmps[1]? = some (.pointer (some ⟨w.heap.size, 0, none⟩)) := by rw [ha]; exact (putSel_off rfl).trans rfl
            replace ha := Aside0.mk ha
            have E0 := Aside0.mk (Q_E0 (hoff 9 (by kernel_rfl)))
            have E1 := Aside0.mk (Q_E1 (hoff 9 (by kernel_rfl)))
            have DB := Aside0.mk (Q_DB (hoff 9 (by kernel_rfl)))
            have DP := Aside0.mk (Q_DP (hoff 9 (by kernel_rfl)))
            have TB := Aside0.mk (Q_TB (hoff 9 (by kernel_rfl)))
            have BL := Aside0.mk (Q_BL (hoff 9 (by kernel_rfl)))
            have GB := Aside0.mk Q_GB
            refine goesC_ Tryd.func39 (by kernel_rfl) rfl #[.pointer (some ⟨bx + i, 0, none⟩)] #[.pointer (some ⟨w.heap.size, 0, none⟩), .pointer none] (by rfl) rfl rfl (by simp only [Act.eval, Array.getD_eq_getD_getElem?, Option.getD_some, e16]) (by first | (simp only [List.map_toArray, List.map_cons, List.map_nil, Act.eval, Array.getD_eq_getD_getElem?, Option.getD_some, e16, e1]; done) | (simp only [List.map_toArray, List.map_cons, List.map_nil, Act.eval, Array.getD_eq_getD_getElem?, Option.getD_some, e16, e1]; rfl)) ?_
            refine (get_whole i hlt hk _ _ _ _ DB.out DP.out).mono ?_
            rintro e w' ⟨rfl, rfl⟩
            refine ⟨_, rfl, ?_⟩
            refine hK.out _ _ ⟨(by rw [ha.out]; exact putSel_upk 3 hb_ rfl rfl rfl), fun _ => E0.out, fun _ => E1.out, fun _ => DB.out, fun _ => DP.out, fun _ => TB.out, fun _ => BL.out, fun h0_ => absurd ((hoff 9 (by kernel_rfl)).symm.trans h0_) (by decide), GB.out⟩
          refine steps_cons ?_ ?_
          · rintro b a w' ⟨ha, Q_E0, Q_E1, Q_DB, Q_DP, Q_TB, Q_BL, Q_BM, Q_GB⟩ hb_ hon hoff
            refine ⟨_, rfl, fun K hK => ?_⟩
            have e17 : a.tmps[17]? = some (.int .i64 n) := by rw [ha]; exact putSel_on (e := (5, 17, .int .i64 n)) 3 rfl rfl (hon 5 (by kernel_rfl)) rfl
            replace ha := Aside0.mk ha
            have E0 := Aside0.mk (Q_E0 (hoff 9 (by kernel_rfl)))
            have E1 := Aside0.mk (Q_E1 (hoff 9 (by kernel_rfl)))
            have DB := Aside0.mk (Q_DB (hoff 9 (by kernel_rfl)))
            have DP := Aside0.mk (Q_DP (hoff 9 (by kernel_rfl)))
            have TB := Aside0.mk (Q_TB (hoff 9 (by kernel_rfl)))
            have BL := Aside0.mk (Q_BL (hoff 9 (by kernel_rfl)))
            have GB := Aside0.mk Q_GB
            refine goes_ Tryd.func14 (by kernel_rfl) rfl #[.int .i64 n, .int .i64 10] (by rfl) rfl rfl (by first | (simp only [List.map_toArray, List.map_cons, List.map_nil, Act.eval, Array.getD_eq_getD_getElem?, Option.getD_some, e17]; done) | (simp only [List.map_toArray, List.map_cons, List.map_nil, Act.eval, Array.getD_eq_getD_getElem?, Option.getD_some, e17]; rfl)) ?_
            refine (fmt_core n hn_.out.1 hn_.out.2 _ TB.out).mono ?_
            rw [← hD.out]
            rintro e w6 ⟨rfl, hb⟩
            refine ⟨_, rfl, ?_⟩
            refine hK.out _ _ ⟨(by rw [ha.out]; exact putSel_upk 4 hb_ rfl rfl rfl), fun _ => (hb.cell (World.block_lt_of_cell? _ _ E0.out)).trans E0.out, fun _ => (hb.cell (World.block_lt_of_cell? _ _ E1.out)).trans E1.out, fun _ => (hb.cell (World.block_lt_of_cell? _ _ DB.out)).trans DB.out, fun _ => (hb.cell (World.block_lt_of_cell? _ _ DP.out)).trans DP.out, fun _ => TB.out.below hb (Nat.le_refl _), fun _ => BL.out.below hb, fun h0_ => absurd ((hoff 9 (by kernel_rfl)).symm.trans h0_) (by decide), GB.out.andThen (grown_of_below hb none) (fun j e => by cases e)⟩
          refine steps_cons ?_ ?_
          · rintro b a w' ⟨ha, Q_E0, Q_E1, Q_DB, Q_DP, Q_TB, Q_BL, Q_BM, Q_GB⟩ hb_ hon hoff
            refine ⟨_, rfl, fun K hK => ?_⟩
            have e14 : a.tmps[14]? = some (.string (nm ++ (⟨#[32, 61, 32]⟩ : ByteArray))) := by rw [ha]; exact putSel_on (e := (2, 14, .string (nm ++ (⟨#[32, 61, 32]⟩ : ByteArray)))) 1 rfl rfl (hon 2 (by kernel_rfl)) rfl
            have e18 : a.tmps[18]? = some (.string D) := by rw [ha]; exact putSel_on (e := (6, 18, .string D)) 4 rfl rfl (hon 6 (by kernel_rfl)) rfl
            replace ha := Aside0.mk ha
            have E0 := Aside0.mk (Q_E0 (hoff 9 (by kernel_rfl)))
            have E1 := Aside0.mk (Q_E1 (hoff 9 (by kernel_rfl)))
            have DB := Aside0.mk (Q_DB (hoff 9 (by kernel_rfl)))
            have DP := Aside0.mk (Q_DP (hoff 9 (by kernel_rfl)))
            have TB := Aside0.mk (Q_TB (hoff 9 (by kernel_rfl)))
            have BL := Aside0.mk (Q_BL (hoff 9 (by kernel_rfl)))
            have GB := Aside0.mk Q_GB
            have hs_ := SZ7.out
            refine value_ (w1 := w') (v := .string ((nm ++ (⟨#[32, 61, 32]⟩ : ByteArray)) ++ D)) (by rfl) rfl ?_ ?_
            · go_simp
              (try simp only [i64_w])
              try rfl
            refine hK.out _ _ ⟨(by rw [ha.out]; exact putSel_upk 5 hb_ rfl rfl rfl), Q_E0, Q_E1, Q_DB, Q_DP, Q_TB, Q_BL, fun h0_ => absurd ((hoff 9 (by kernel_rfl)).symm.trans h0_) (by decide), Q_GB⟩
          refine steps_cons ?_ ?_
          · rintro b a w' ⟨ha, Q_E0, Q_E1, Q_DB, Q_DP, Q_TB, Q_BL, Q_BM, Q_GB⟩ hb_ hon hoff
            refine ⟨_, rfl, fun K hK => ?_⟩
            have e19 : a.tmps[19]? = some (.string ((nm ++ (⟨#[32, 61, 32]⟩ : ByteArray)) ++ D)) := by rw [ha]; exact putSel_on (e := (7, 19, .string ((nm ++ (⟨#[32, 61, 32]⟩ : ByteArray)) ++ D))) 5 rfl rfl (hon 7 (by kernel_rfl)) rfl
            replace ha := Aside0.mk ha
            have E0 := Aside0.mk (Q_E0 (hoff 9 (by kernel_rfl)))
            have E1 := Aside0.mk (Q_E1 (hoff 9 (by kernel_rfl)))
            have DB := Aside0.mk (Q_DB (hoff 9 (by kernel_rfl)))
            have DP := Aside0.mk (Q_DP (hoff 9 (by kernel_rfl)))
            have TB := Aside0.mk (Q_TB (hoff 9 (by kernel_rfl)))
            have BL := Aside0.mk (Q_BL (hoff 9 (by kernel_rfl)))
            have GB := Aside0.mk Q_GB
            have hs_ := SZ8.out
            refine value_ (w1 := w') (v := .string (((nm ++ (⟨#[32, 61, 32]⟩ : ByteArray)) ++ D) ++ (⟨#[10]⟩ : ByteArray))) (by rfl) rfl ?_ ?_
            · go_simp
              (try simp only [i64_w])
              try rfl
            refine hK.out _ _ ⟨(by rw [ha.out]; exact putSel_upk 6 hb_ rfl rfl rfl), Q_E0, Q_E1, Q_DB, Q_DP, Q_TB, Q_BL, fun h0_ => absurd ((hoff 9 (by kernel_rfl)).symm.trans h0_) (by decide), Q_GB⟩
          refine steps_cons ?_ ?_
          · rintro b a w' ⟨ha, Q_E0, Q_E1, Q_DB, Q_DP, Q_TB, Q_BL, Q_BM, Q_GB⟩ hb_ hon hoff
            refine ⟨_, rfl, fun K hK => ?_⟩
            have e3 : a.tmps[3]? = some (.pointer (some ⟨(w.heap.size + 1), 0, none⟩)) := by rw [ha]; exact (putSel_off rfl).trans rfl
            have e20 : a.tmps[20]? = some (.string (((nm ++ (⟨#[32, 61, 32]⟩ : ByteArray)) ++ D) ++ (⟨#[10]⟩ : ByteArray))) := by rw [ha]; exact putSel_on (e := (8, 20, .string (((nm ++ (⟨#[32, 61, 32]⟩ : ByteArray)) ++ D) ++ (⟨#[10]⟩ : ByteArray)))) 6 rfl rfl (hon 8 (by kernel_rfl)) rfl
            replace ha := Aside0.mk ha
            have E0 := Aside0.mk (Q_E0 hb_)
            have E1 := Aside0.mk (Q_E1 hb_)
            have DB := Aside0.mk (Q_DB hb_)
            have DP := Aside0.mk (Q_DP hb_)
            have TB := Aside0.mk (Q_TB hb_)
            have BL := Aside0.mk (Q_BL hb_)
            have GB := Aside0.mk Q_GB
            refine goes_ Tryd.func13 (by kernel_rfl) rfl #[.pointer (some ⟨(w.heap.size + 1), 0, none⟩), .string (((nm ++ (⟨#[32, 61, 32]⟩ : ByteArray)) ++ D) ++ (⟨#[10]⟩ : ByteArray))] (by rfl) rfl rfl (by first | (simp only [List.map_toArray, List.map_cons, List.map_nil, Act.eval, Array.getD_eq_getD_getElem?, Option.getD_some, e3, e20]; done) | (simp only [List.map_toArray, List.map_cons, List.map_nil, Act.eval, Array.getD_eq_getD_getElem?, Option.getD_some, e3, e20]; rfl)) ?_
            refine (wstr_core w1 (w.heap.size + 1) bs _ _ BL.out GB.out hlen.out).mono ?_
            rintro e w9 ⟨rfl, hbm, hgb⟩
            refine ⟨_, rfl, ?_⟩
            refine hK.out _ _ ⟨(by rw [ha.out]; exact putSel_upk 7 hb_ rfl rfl rfl), fun h0_ => absurd ((up_self b 9).symm.trans h0_) (by decide), fun h0_ => absurd ((up_self b 9).symm.trans h0_) (by decide), fun h0_ => absurd ((up_self b 9).symm.trans h0_) (by decide), fun h0_ => absurd ((up_self b 9).symm.trans h0_) (by decide), fun h0_ => absurd ((up_self b 9).symm.trans h0_) (by decide), fun h0_ => absurd ((up_self b 9).symm.trans h0_) (by decide), fun _ => hbm, hgb⟩
          exact steps_nil
        rintro b a w30 hall ⟨ha, Q_E0, Q_E1, Q_DB, Q_DP, Q_TB, Q_BL, Q_BM, Q_GB⟩
        clear BL DB DP E0 E1 GB TB
        have hb1_ := hall 1 (by kernel_rfl)
        have hb2_ := hall 2 (by kernel_rfl)
        have hb4_ := hall 4 (by kernel_rfl)
        have hb5_ := hall 5 (by kernel_rfl)
        have hb6_ := hall 6 (by kernel_rfl)
        have hb7_ := hall 7 (by kernel_rfl)
        have hb8_ := hall 8 (by kernel_rfl)
        have hb9_ := hall 9 (by kernel_rfl)
        subst ha
        simp only [putSel, hb1_, hb2_, hb4_, hb5_, hb6_, hb7_, hb8_, hb9_, if_true, Act.put, List.setIfInBounds_toArray, List.set_cons_zero, List.set_cons_succ]
        clear Q_E0
        clear Q_E1
        clear Q_DB
        clear Q_DP
        clear Q_TB
        clear Q_BL
        have BM := Aside0.mk (Q_BM hb9_)
        clear Q_BM
        have GB := Aside0.mk Q_GB
        clear Q_GB
        clear hall hb1_ hb2_ hb4_ hb5_ hb6_ hb7_ hb8_ hb9_
        go_wp2
        go_roundw
        case rel => exact ⟨i + 1, by omega, rfl, by rw [hX_.out]; exact BM.out, GB.out⟩
        case measure => simp [intOf]; omega
      · rw [hk] at d1
        go_wp2_with (refine wpList_store_blk rfl 34 (.tmp 5) (.tmp 11) rfl wr.heap.size 0 #[.string nm, .func (.func 40) #[] #[.pointer (some ⟨bx + i, 0, none⟩)]] rfl rfl (heap_alloc_new wr (.cells #[.string ⟨#[]⟩, .nilFunc] 34 (0, 0))) (by simp) (by kernel_rfl) (by simp [Value.oneCell']) ?_; intro ws hbk hgr)
        have hbs : Below wr.heap.size wr ws := ((Below.refl _ _).alloc (Nat.le_refl _) _).grown hgr (by simp) (fun j ej => by cases ej; exact Nat.le_refl _)
        have E0 : Aside0 (ws.drew.cell? ⟨wr.heap.size, 0, none⟩ = some (.string nm)) := ⟨(blk_cell hbk 0).trans rfl⟩
        have E1 : Aside0 (ws.drew.cell? ⟨wr.heap.size, 1, none⟩ = some (.func (.func 40) #[] #[.pointer (some ⟨bx + i, 0, none⟩)])) := ⟨(blk_cell hbk 1).trans rfl⟩
        have DB := Aside0.mk (show ws.drew.cell? ⟨bx + i, 0, none⟩ = some (.func (.func (atF i)) #[] #[]) from (hbs.cell (World.block_lt_of_cell? _ _ db)).trans db)
        have DP := Aside0.mk (show ws.drew.cell? ⟨w.heap.size, i, none⟩ = some (.int .i64 n) from (hbs.cell (World.block_lt_of_cell? _ _ dp)).trans dp)
        have TB : Aside0 (FieldsAt ws.drew) := ⟨hmr.below (below_drew hbs) (Nat.le_refl _)⟩
        have BL : Aside0 (Bld w1 (w.heap.size + 1) bs ws.drew) := ⟨hBl.below (below_drew hbs)⟩
        have GB : Aside0 (w1.grownBy ws.drew (some (w.heap.size + 1))) := ⟨hG.andThen (grown_of_below (below_drew hbs) none) (fun j e => by cases e)⟩
        clear hbk hgr hbs d0 d1 db dp hmr hBl hG hBr
        refine start_ (n := 10) (S := fun w' => True) (ds := []) #[false, false, false, false, false, false, false, false, false, false] (by kernel_rfl) rfl rfl trivial (fun hHeld => ?_)
        refine with_tabW plantextShow.tab5 plantextShow.bits5 (fun HT_ HW_ => ?_)
        generalize ws.drew = w20 at E0 E1 DB DP TB BL GB ⊢
        refine pure_ (i := 0) (N := some 12) (v := ?_) (a' := ?_) #[true, false, false, false, false, false, false, false, false, false] rfl rfl (any_of HT_.out (by kernel_rfl)) (fun _ _ _ h => h) (Or.inl ⟨by rfl, ?_⟩) ?_ ?_
        rotate_left
        · intro w'
          go_simp
          with_reducible rfl
        rotate_left
        · simp only [Act.put, List.setIfInBounds_toArray, List.set_cons_zero, List.set_cons_succ, i64_w, i32_w]
          rfl
        refine pure_ (i := 3) (N := some 15) (v := ?_) (a' := ?_) #[true, false, false, true, false, false, false, false, false, false] rfl rfl (any_of HT_.out (by kernel_rfl)) (fun _ _ _ h => h) (Or.inl ⟨by rfl, ?_⟩) ?_ ?_
        rotate_left
        · intro w'
          go_simp
          with_reducible rfl
        rotate_left
        · simp only [Act.put, List.setIfInBounds_toArray, List.set_cons_zero, List.set_cons_succ, i64_w, i32_w]
          rfl
        refine inv_at [1, 2, 4, 5, 6, 7, 8, 9] (fun a0_ b a w' => a = putSel a0_ b [(1, 13, .string nm), (2, 14, .string (nm ++ (⟨#[32, 61, 32]⟩ : ByteArray))), (4, 16, .func (.func 40) #[] #[.pointer (some ⟨bx + i, 0, none⟩)]), (5, 17, .int .i64 n), (6, 18, .string D), (7, 19, .string ((nm ++ (⟨#[32, 61, 32]⟩ : ByteArray)) ++ D)), (8, 20, .string (((nm ++ (⟨#[32, 61, 32]⟩ : ByteArray)) ++ D) ++ (⟨#[10]⟩ : ByteArray))), (9, 21, .tuple #[.int .i64 (((nm ++ (⟨#[32, 61, 32]⟩ : ByteArray)) ++ D) ++ (⟨#[10]⟩ : ByteArray)).size, .nilIface])] ∧ (b 9 = false → w'.cell? ⟨wr.heap.size, 0, none⟩ = some (.string nm)) ∧ (b 9 = false → w'.cell? ⟨wr.heap.size, 1, none⟩ = some (.func (.func 40) #[] #[.pointer (some ⟨bx + i, 0, none⟩)])) ∧ (b 9 = false → w'.cell? ⟨bx + i, 0, none⟩ = some (.func (.func (atF i)) #[] #[])) ∧ (b 9 = false → w'.cell? ⟨w.heap.size, i, none⟩ = some (.int .i64 n)) ∧ (b 9 = false → FieldsAt w') ∧ (b 9 = false → Bld w1 (w.heap.size + 1) bs w') ∧ (b 9 = true → Bld w1 (w.heap.size + 1) (bs ++ Lib.strCells (((nm ++ (⟨#[32, 61, 32]⟩ : ByteArray)) ++ D) ++ (⟨#[10]⟩ : ByteArray))) w') ∧ (w1.grownBy w' (some (w.heap.size + 1)))) HT_.out HW_.out (by kernel_rfl) (by kernel_rfl) ?_ ?_ ?_
        · exact ⟨by simp only [putSel, Bool.false_eq_true, if_false], fun _ => E0.out, fun _ => E1.out, fun _ => DB.out, fun _ => DP.out, fun _ => TB.out, fun _ => BL.out, fun h_ => absurd h_ (by decide), GB.out⟩
        · skip
          clear BL DB DP E0 E1 GB TB
          refine steps_cons ?_ ?_
          · rintro b a w' ⟨ha, Q_E0, Q_E1, Q_DB, Q_DP, Q_TB, Q_BL, Q_BM, Q_GB⟩ hb_ hon hoff
            refine ⟨_, rfl, fun K hK => ?_⟩
            have e12 : a.tmps[12]? = some (.pointer (some ⟨wr.heap.size, 0, none⟩)) := by rw [ha]; exact (putSel_off rfl).trans rfl
            replace ha := Aside0.mk ha
            have E0 := Aside0.mk (Q_E0 (hoff 9 (by kernel_rfl)))
            have E1 := Aside0.mk (Q_E1 (hoff 9 (by kernel_rfl)))
            have DB := Aside0.mk (Q_DB (hoff 9 (by kernel_rfl)))
            have DP := Aside0.mk (Q_DP (hoff 9 (by kernel_rfl)))
            have TB := Aside0.mk (Q_TB (hoff 9 (by kernel_rfl)))
            have BL := Aside0.mk (Q_BL (hoff 9 (by kernel_rfl)))
            have GB := Aside0.mk Q_GB
            have hc_ := E0.out
            refine value_ (w1 := w') (v := .string nm) (by rfl) rfl ?_ ?_
            · go_simp
              (try simp only [i64_w])
              try rfl
            refine hK.out _ _ ⟨(by rw [ha.out]; exact putSel_upk 0 hb_ rfl rfl rfl), Q_E0, Q_E1, Q_DB, Q_DP, Q_TB, Q_BL, fun h0_ => absurd ((hoff 9 (by kernel_rfl)).symm.trans h0_) (by decide), Q_GB⟩
          refine steps_cons ?_ ?_
          · rintro b a w' ⟨ha, Q_E0, Q_E1, Q_DB, Q_DP, Q_TB, Q_BL, Q_BM, Q_GB⟩ hb_ hon hoff
            refine ⟨_, rfl, fun K hK => ?_⟩
            have e13 : a.tmps[13]? = some (.string nm) := by rw [ha]; exact putSel_on (e := (1, 13, .string nm)) 0 rfl rfl (hon 1 (by kernel_rfl)) rfl
            replace ha := Aside0.mk ha
            have E0 := Aside0.mk (Q_E0 (hoff 9 (by kernel_rfl)))
            have E1 := Aside0.mk (Q_E1 (hoff 9 (by kernel_rfl)))
            have DB := Aside0.mk (Q_DB (hoff 9 (by kernel_rfl)))
            have DP := Aside0.mk (Q_DP (hoff 9 (by kernel_rfl)))
            have TB := Aside0.mk (Q_TB (hoff 9 (by kernel_rfl)))
            have BL := Aside0.mk (Q_BL (hoff 9 (by kernel_rfl)))
            have GB := Aside0.mk Q_GB
            have hs_ := SZ2.out
            refine value_ (w1 := w') (v := .string (nm ++ (⟨#[32, 61, 32]⟩ : ByteArray))) (by rfl) rfl ?_ ?_
            · go_simp
              (try simp only [i64_w])
              try rfl
            refine hK.out _ _ ⟨(by rw [ha.out]; exact putSel_upk 1 hb_ rfl rfl rfl), Q_E0, Q_E1, Q_DB, Q_DP, Q_TB, Q_BL, fun h0_ => absurd ((hoff 9 (by kernel_rfl)).symm.trans h0_) (by decide), Q_GB⟩
          refine steps_cons ?_ ?_
          · rintro b a w' ⟨ha, Q_E0, Q_E1, Q_DB, Q_DP, Q_TB, Q_BL, Q_BM, Q_GB⟩ hb_ hon hoff
            refine ⟨_, rfl, fun K hK => ?_⟩
            have e15 : a.tmps[15]? = some (.pointer (some ⟨wr.heap.size, 1, none⟩)) := by rw [ha]; exact (putSel_off rfl).trans rfl
            replace ha := Aside0.mk ha
            have E0 := Aside0.mk (Q_E0 (hoff 9 (by kernel_rfl)))
            have E1 := Aside0.mk (Q_E1 (hoff 9 (by kernel_rfl)))
            have DB := Aside0.mk (Q_DB (hoff 9 (by kernel_rfl)))
            have DP := Aside0.mk (Q_DP (hoff 9 (by kernel_rfl)))
            have TB := Aside0.mk (Q_TB (hoff 9 (by kernel_rfl)))
            have BL := Aside0.mk (Q_BL (hoff 9 (by kernel_rfl)))
            have GB := Aside0.mk Q_GB
            have hc_ := E1.out
            refine value_ (w1 := w') (v := .func (.func 40) #[] #[.pointer (some ⟨bx + i, 0, none⟩)]) (by rfl) rfl ?_ ?_
            · go_simp
              (try simp only [i64_w])
              try rfl
            refine hK.out _ _ ⟨(by rw [ha.out]; exact putSel_upk 2 hb_ rfl rfl rfl), Q_E0, Q_E1, Q_DB, Q_DP, Q_TB, Q_BL, fun h0_ => absurd ((hoff 9 (by kernel_rfl)).symm.trans h0_) (by decide), Q_GB⟩
          refine steps_cons ?_ ?_
          · rintro b a w' ⟨ha, Q_E0, Q_E1, Q_DB, Q_DP, Q_TB, Q_BL, Q_BM, Q_GB⟩ hb_ hon hoff
            refine ⟨_, rfl, fun K hK => ?_⟩
            have e16 : a.tmps[16]? = some (.func (.func 40) #[] #[.pointer (some ⟨bx + i, 0, none⟩)]) := by rw [ha]; exact putSel_on (e := (4, 16, .func (.func 40) #[] #[.pointer (some ⟨bx + i, 0, none⟩)])) 2 rfl rfl (hon 4 (by kernel_rfl)) rfl
            have e1 : a.tmps[1]? = some (.pointer (some ⟨w.heap.size, 0, none⟩)) := by rw [ha]; exact (putSel_off rfl).trans rfl
            replace ha := Aside0.mk ha
            have E0 := Aside0.mk (Q_E0 (hoff 9 (by kernel_rfl)))
            have E1 := Aside0.mk (Q_E1 (hoff 9 (by kernel_rfl)))
            have DB := Aside0.mk (Q_DB (hoff 9 (by kernel_rfl)))
            have DP := Aside0.mk (Q_DP (hoff 9 (by kernel_rfl)))
            have TB := Aside0.mk (Q_TB (hoff 9 (by kernel_rfl)))
            have BL := Aside0.mk (Q_BL (hoff 9 (by kernel_rfl)))
            have GB := Aside0.mk Q_GB
            refine goesC_ Tryd.func40 (by kernel_rfl) rfl #[.pointer (some ⟨bx + i, 0, none⟩)] #[.pointer (some ⟨w.heap.size, 0, none⟩), .pointer none] (by rfl) rfl rfl (by simp only [Act.eval, Array.getD_eq_getD_getElem?, Option.getD_some, e16]) (by first | (simp only [List.map_toArray, List.map_cons, List.map_nil, Act.eval, Array.getD_eq_getD_getElem?, Option.getD_some, e16, e1]; done) | (simp only [List.map_toArray, List.map_cons, List.map_nil, Act.eval, Array.getD_eq_getD_getElem?, Option.getD_some, e16, e1]; rfl)) ?_
            refine (get_long i hlt hk _ _ _ _ DB.out DP.out).mono ?_
            rintro e w' ⟨rfl, rfl⟩
            refine ⟨_, rfl, ?_⟩
            refine hK.out _ _ ⟨(by rw [ha.out]; exact putSel_upk 3 hb_ rfl rfl rfl), fun _ => E0.out, fun _ => E1.out, fun _ => DB.out, fun _ => DP.out, fun _ => TB.out, fun _ => BL.out, fun h0_ => absurd ((hoff 9 (by kernel_rfl)).symm.trans h0_) (by decide), GB.out⟩
          refine steps_cons ?_ ?_
          · rintro b a w' ⟨ha, Q_E0, Q_E1, Q_DB, Q_DP, Q_TB, Q_BL, Q_BM, Q_GB⟩ hb_ hon hoff
            refine ⟨_, rfl, fun K hK => ?_⟩
            have e17 : a.tmps[17]? = some (.int .i64 n) := by rw [ha]; exact putSel_on (e := (5, 17, .int .i64 n)) 3 rfl rfl (hon 5 (by kernel_rfl)) rfl
            replace ha := Aside0.mk ha
            have E0 := Aside0.mk (Q_E0 (hoff 9 (by kernel_rfl)))
            have E1 := Aside0.mk (Q_E1 (hoff 9 (by kernel_rfl)))
            have DB := Aside0.mk (Q_DB (hoff 9 (by kernel_rfl)))
            have DP := Aside0.mk (Q_DP (hoff 9 (by kernel_rfl)))
            have TB := Aside0.mk (Q_TB (hoff 9 (by kernel_rfl)))
            have BL := Aside0.mk (Q_BL (hoff 9 (by kernel_rfl)))
            have GB := Aside0.mk Q_GB
            refine goes_ Tryd.func14 (by kernel_rfl) rfl #[.int .i64 n, .int .i64 10] (by rfl) rfl rfl (by first | (simp only [List.map_toArray, List.map_cons, List.map_nil, Act.eval, Array.getD_eq_getD_getElem?, Option.getD_some, e17]; done) | (simp only [List.map_toArray, List.map_cons, List.map_nil, Act.eval, Array.getD_eq_getD_getElem?, Option.getD_some, e17]; rfl)) ?_
            refine (fmt_core n hn_.out.1 hn_.out.2 _ TB.out).mono ?_
            rw [← hD.out]
            rintro e w6 ⟨rfl, hb⟩
            refine ⟨_, rfl, ?_⟩
            refine hK.out _ _ ⟨(by rw [ha.out]; exact putSel_upk 4 hb_ rfl rfl rfl), fun _ => (hb.cell (World.block_lt_of_cell? _ _ E0.out)).trans E0.out, fun _ => (hb.cell (World.block_lt_of_cell? _ _ E1.out)).trans E1.out, fun _ => (hb.cell (World.block_lt_of_cell? _ _ DB.out)).trans DB.out, fun _ => (hb.cell (World.block_lt_of_cell? _ _ DP.out)).trans DP.out, fun _ => TB.out.below hb (Nat.le_refl _), fun _ => BL.out.below hb, fun h0_ => absurd ((hoff 9 (by kernel_rfl)).symm.trans h0_) (by decide), GB.out.andThen (grown_of_below hb none) (fun j e => by cases e)⟩
          refine steps_cons ?_ ?_
          · rintro b a w' ⟨ha, Q_E0, Q_E1, Q_DB, Q_DP, Q_TB, Q_BL, Q_BM, Q_GB⟩ hb_ hon hoff
            refine ⟨_, rfl, fun K hK => ?_⟩
            have e14 : a.tmps[14]? = some (.string (nm ++ (⟨#[32, 61, 32]⟩ : ByteArray))) := by rw [ha]; exact putSel_on (e := (2, 14, .string (nm ++ (⟨#[32, 61, 32]⟩ : ByteArray)))) 1 rfl rfl (hon 2 (by kernel_rfl)) rfl
            have e18 : a.tmps[18]? = some (.string D) := by rw [ha]; exact putSel_on (e := (6, 18, .string D)) 4 rfl rfl (hon 6 (by kernel_rfl)) rfl
            replace ha := Aside0.mk ha
            have E0 := Aside0.mk (Q_E0 (hoff 9 (by kernel_rfl)))
            have E1 := Aside0.mk (Q_E1 (hoff 9 (by kernel_rfl)))
            have DB := Aside0.mk (Q_DB (hoff 9 (by kernel_rfl)))
            have DP := Aside0.mk (Q_DP (hoff 9 (by kernel_rfl)))
            have TB := Aside0.mk (Q_TB (hoff 9 (by kernel_rfl)))
            have BL := Aside0.mk (Q_BL (hoff 9 (by kernel_rfl)))
            have GB := Aside0.mk Q_GB
            have hs_ := SZ7.out
            refine value_ (w1 := w') (v := .string ((nm ++ (⟨#[32, 61, 32]⟩ : ByteArray)) ++ D)) (by rfl) rfl ?_ ?_
            · go_simp
              (try simp only [i64_w])
              try rfl
            refine hK.out _ _ ⟨(by rw [ha.out]; exact putSel_upk 5 hb_ rfl rfl rfl), Q_E0, Q_E1, Q_DB, Q_DP, Q_TB, Q_BL, fun h0_ => absurd ((hoff 9 (by kernel_rfl)).symm.trans h0_) (by decide), Q_GB⟩
          refine steps_cons ?_ ?_
          · rintro b a w' ⟨ha, Q_E0, Q_E1, Q_DB, Q_DP, Q_TB, Q_BL, Q_BM, Q_GB⟩ hb_ hon hoff
            refine ⟨_, rfl, fun K hK => ?_⟩
            have e19 : a.tmps[19]? = some (.string ((nm ++ (⟨#[32, 61, 32]⟩ : ByteArray)) ++ D)) := by rw [ha]; exact putSel_on (e := (7, 19, .string ((nm ++ (⟨#[32, 61, 32]⟩ : ByteArray)) ++ D))) 5 rfl rfl (hon 7 (by kernel_rfl)) rfl
            replace ha := Aside0.mk ha
            have E0 := Aside0.mk (Q_E0 (hoff 9 (by kernel_rfl)))
            have E1 := Aside0.mk (Q_E1 (hoff 9 (by kernel_rfl)))
            have DB := Aside0.mk (Q_DB (hoff 9 (by kernel_rfl)))
            have DP := Aside0.mk (Q_DP (hoff 9 (by kernel_rfl)))
            have TB := Aside0.mk (Q_TB (hoff 9 (by kernel_rfl)))
            have BL := Aside0.mk (Q_BL (hoff 9 (by kernel_rfl)))
            have GB := Aside0.mk Q_GB
            have hs_ := SZ8.out
            refine value_ (w1 := w') (v := .string (((nm ++ (⟨#[32, 61, 32]⟩ : ByteArray)) ++ D) ++ (⟨#[10]⟩ : ByteArray))) (by rfl) rfl ?_ ?_
            · go_simp
              (try simp only [i64_w])
              try rfl
            refine hK.out _ _ ⟨(by rw [ha.out]; exact putSel_upk 6 hb_ rfl rfl rfl), Q_E0, Q_E1, Q_DB, Q_DP, Q_TB, Q_BL, fun h0_ => absurd ((hoff 9 (by kernel_rfl)).symm.trans h0_) (by decide), Q_GB⟩
          refine steps_cons ?_ ?_
          · rintro b a w' ⟨ha, Q_E0, Q_E1, Q_DB, Q_DP, Q_TB, Q_BL, Q_BM, Q_GB⟩ hb_ hon hoff
            refine ⟨_, rfl, fun K hK => ?_⟩
            have e3 : a.tmps[3]? = some (.pointer (some ⟨(w.heap.size + 1), 0, none⟩)) := by rw [ha]; exact (putSel_off rfl).trans rfl
            have e20 : a.tmps[20]? = some (.string (((nm ++ (⟨#[32, 61, 32]⟩ : ByteArray)) ++ D) ++ (⟨#[10]⟩ : ByteArray))) := by rw [ha]; exact putSel_on (e := (8, 20, .string (((nm ++ (⟨#[32, 61, 32]⟩ : ByteArray)) ++ D) ++ (⟨#[10]⟩ : ByteArray)))) 6 rfl rfl (hon 8 (by kernel_rfl)) rfl
            replace ha := Aside0.mk ha
            have E0 := Aside0.mk (Q_E0 hb_)
            have E1 := Aside0.mk (Q_E1 hb_)
            have DB := Aside0.mk (Q_DB hb_)
            have DP := Aside0.mk (Q_DP hb_)
            have TB := Aside0.mk (Q_TB hb_)
            have BL := Aside0.mk (Q_BL hb_)
            have GB := Aside0.mk Q_GB
            refine goes_ Tryd.func13 (by kernel_rfl) rfl #[.pointer (some ⟨(w.heap.size + 1), 0, none⟩), .string (((nm ++ (⟨#[32, 61, 32]⟩ : ByteArray)) ++ D) ++ (⟨#[10]⟩ : ByteArray))] (by rfl) rfl rfl (by first | (simp only [List.map_toArray, List.map_cons, List.map_nil, Act.eval, Array.getD_eq_getD_getElem?, Option.getD_some, e3, e20]; done) | (simp only [List.map_toArray, List.map_cons, List.map_nil, Act.eval, Array.getD_eq_getD_getElem?, Option.getD_some, e3, e20]; rfl)) ?_
            refine (wstr_core w1 (w.heap.size + 1) bs _ _ BL.out GB.out hlen.out).mono ?_
            rintro e w9 ⟨rfl, hbm, hgb⟩
            refine ⟨_, rfl, ?_⟩
            refine hK.out _ _ ⟨(by rw [ha.out]; exact putSel_upk 7 hb_ rfl rfl rfl), fun h0_ => absurd ((up_self b 9).symm.trans h0_) (by decide), fun h0_ => absurd ((up_self b 9).symm.trans h0_) (by decide), fun h0_ => absurd ((up_self b 9).symm.trans h0_) (by decide), fun h0_ => absurd ((up_self b 9).symm.trans h0_) (by decide), fun h0_ => absurd ((up_self b 9).symm.trans h0_) (by decide), fun h0_ => absurd ((up_self b 9).symm.trans h0_) (by decide), fun _ => hbm, hgb⟩
          exact steps_nil
        rintro b a w30 hall ⟨ha, Q_E0, Q_E1, Q_DB, Q_DP, Q_TB, Q_BL, Q_BM, Q_GB⟩
        clear BL DB DP E0 E1 GB TB
        have hb1_ := hall 1 (by kernel_rfl)
        have hb2_ := hall 2 (by kernel_rfl)
        have hb4_ := hall 4 (by kernel_rfl)
        have hb5_ := hall 5 (by kernel_rfl)
        have hb6_ := hall 6 (by kernel_rfl)
        have hb7_ := hall 7 (by kernel_rfl)
        have hb8_ := hall 8 (by kernel_rfl)
        have hb9_ := hall 9 (by kernel_rfl)
        subst ha
        simp only [putSel, hb1_, hb2_, hb4_, hb5_, hb6_, hb7_, hb8_, hb9_, if_true, Act.put, List.setIfInBounds_toArray, List.set_cons_zero, List.set_cons_succ]
        clear Q_E0
        clear Q_E1
        clear Q_DB
        clear Q_DP
        clear Q_TB
        clear Q_BL
        have BM := Aside0.mk (Q_BM hb9_)
        clear Q_BM
        have GB := Aside0.mk Q_GB
        clear Q_GB
        clear hall hb1_ hb2_ hb4_ hb5_ hb6_ hb7_ hb8_ hb9_
        go_wp2
        go_roundw
        case rel => exact ⟨i + 1, by omega, rfl, by rw [hX_.out]; exact BM.out, GB.out⟩
        case measure => simp [intOf]; omega
    · obtain rfl : i = 16 := by omega
      have hcl : decide ((16 : Int) < 16) = false := by decide
      go_wp2_with (go_at_call 15; refine (str_core w1 _ _ _ hBl hG).mono ?_; rintro e w' ⟨rfl, hbs⟩)
      go_ret
      exact ⟨rfl, hBr.trans ⟨hbs.os, hbs.tape, hbs.output, hbs.size, fun k hk => hbs.block k (by omega)⟩⟩
end Go.Proofs.YtdpdcpbmdmkaeaaDoor.Hand
