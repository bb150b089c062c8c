/- PlantextShows, the plain law (printed by wip/gen/mkpureshows.py). -/
import Derived.Test.YtdpdcpbmdmkaeaaDoorPurePt0
import Derived.Test.YtdpdcpbmdmkaeaaDoorPCx2
set_option linter.unusedVariables false
set_option linter.unusedSimpArgs false
namespace Go.Proofs.YtdpdcpbmdmkaeaaDoor.Pure
set_option maxRecDepth 100000
open Go.RowKit Go.Proofs.YtdpdcpbmdmkaeaaDoor.Hand Go.Proofs.YtdpdcpbmdmkaeaaDoor.PA Go.Proofs.YtdpdcpbmdmkaeaaDoor.PC Go.Proofs.YtdpdcpbmdmkaeaaDoorW.PrintWords Go.Proofs.YtdpdcpbmdmkaeaaDoorW.PrintLast

theorem name_at (i : Nat) : rdOf ByteArray.empty namesL (i : Int) = namesL.getD i ⟨#[]⟩ := rfl
theorem val_loop (s : ByteArray) (L : List Int) (hL : L.length = 16) : ∀ d i k : Nat, 16 - i = d → i ≤ 16 → d < k → vespersref08_Value.l0 k s namesL L (i : Int) = some (valN L s (16 - i)) := by
  intro d
  induction d with
  | zero =>
    intro i k hd hi hk
    obtain ⟨k, rfl⟩ : ∃ j, k = j + 1 := ⟨k - 1, by omega⟩
    obtain rfl : i = 16 := by omega
    rfl
  | succ d ih =>
    intro i k hd hi hk
    obtain ⟨k, rfl⟩ : ∃ j, k = j + 1 := ⟨k - 1, by omega⟩
    have hn : namesL.length = 16 := rfl
    have hw : wrap64 ((i : Int) + 1) = ((i + 1 : Nat) : Int) := by rw [w_id (by omega) (by omega)]; rfl
    rw [vespersref08_Value.l0, if_pos (by omega), if_pos (by omega), if_pos (by omega), name_at, valN_at L s i (by omega), hw]
    by_cases hq : (namesL.getD i ⟨#[]⟩).toList = s.toList
    · rw [if_pos hq, if_pos hq, if_pos (by omega)]
      rfl
    · rw [if_neg hq, if_neg hq]
      exact ih (i + 1) k (by omega) (by omega) (by omega)
theorem line_cat (L : List Int) (i : Nat) : (((((⟨(textL L i).toArray⟩ : ByteArray) ++ namesL.getD i ⟨#[]⟩) ++ (⟨#[32, 61, 32]⟩ : ByteArray)) ++ ⟨(Lib.itoa (L.getD i 0)).toArray⟩) ++ (⟨#[10]⟩ : ByteArray)) = ⟨(textL L (i + 1)).toArray⟩ := by
  apply ByteArray.ext
  rw [textL]
  unfold lineB
  simp
theorem show_loop (L : List Int) (hN : ∀ x ∈ L, (Lit.int .i64 x).wf = true) (hL : L.length = 16) : ∀ d i k : Nat, 16 - i = d → i ≤ 16 → d + 30 < k → vespersref08_Show.l0 k namesL L ⟨(textL L i).toArray⟩ (i : Int) = some ⟨(textL L 16).toArray⟩ := by
  intro d
  induction d with
  | zero =>
    intro i k hd hi hk
    obtain ⟨k, rfl⟩ : ∃ j, k = j + 1 := ⟨k - 1, by omega⟩
    obtain rfl : i = 16 := by omega
    rw [vespersref08_Show.l0, if_neg (by omega)]
  | succ d ih =>
    intro i k hd hi hk
    obtain ⟨k, rfl⟩ : ∃ j, k = j + 1 := ⟨k - 1, by omega⟩
    have hn : namesL.length = 16 := rfl
    have hw : wrap64 ((i : Int) + 1) = ((i + 1 : Nat) : Int) := by rw [w_id (by omega) (by omega)]; rfl
    have ht := text_len hN hL i hi
    rw [← size_] at ht
    have h1 := name_size i (by omega)
    have hr := num_in hN hL i (by omega)
    have h2 := dig_size _ hr
    have hs := shown_eq _ hr k (by omega)
    have hc := line_cat L i
    have hrd : rd L (i : Int) = L.getD i 0 := rfl
    have hi2 := ih (i + 1) k (by omega) (by omega) (by omega)
    rw [← hc] at hi2
    rw [vespersref08_Show.l0, name_at, hrd]
    clear hc ih
    generalize namesL.getD i ⟨#[]⟩ = nm at *
    generalize (⟨(Lib.itoa (L.getD i 0)).toArray⟩ : ByteArray) = D at *
    generalize (⟨(textL L i).toArray⟩ : ByteArray) = X at *
    have e3 : (⟨#[32, 61, 32]⟩ : ByteArray).size = 3 := rfl
    rw [if_pos (by omega), if_pos (by omega), if_pos (by omega), if_pos (by omega), if_pos (by rw [ByteArray.size_append]; omega), if_pos (by omega), hs]
    simp only [Option.bind_some]
    rw [if_pos (by simp only [ByteArray.size_append, e3]; omega), if_pos (by simp only [ByteArray.size_append, e3]; omega), hw]
    exact hi2
theorem tail_loop : ∀ (d i k : Nat) (u : List ByteArray), 16 - i = d → i ≤ 16 → d < k → u.length = 16 → (∀ j, i ≤ j → j < 16 → u.getD j ⟨#[]⟩ = namesL.getD j ⟨#[]⟩) → vesperslaw08_PlantextShows.l0 k u namesL 16 (i : Int) = some true := by
  intro d
  induction d with
  | zero =>
    intro i k u hd hi hk hu hj
    obtain ⟨k, rfl⟩ : ∃ j, k = j + 1 := ⟨k - 1, by omega⟩
    obtain rfl : i = 16 := by omega
    rw [vesperslaw08_PlantextShows.l0, if_neg (by omega)]
    show (some namesL).bind _ = _
    simp only [Option.bind_some]
    rw [if_pos (by decide), if_pos (by decide), beq_self_eq_true]
  | succ d ih =>
    intro i k u hd hi hk hu hj
    obtain ⟨k, rfl⟩ : ∃ j, k = j + 1 := ⟨k - 1, by omega⟩
    have hn : namesL.length = 16 := rfl
    have hw : wrap64 ((i : Int) + 1) = ((i + 1 : Nat) : Int) := by rw [w_id (by omega) (by omega)]; rfl
    have hr : rdOf ByteArray.empty u (i : Int) = rdOf ByteArray.empty namesL (i : Int) := hj i (Nat.le_refl _) (by omega)
    rw [vesperslaw08_PlantextShows.l0, if_pos (by omega), if_pos (by omega), if_pos (by omega), if_pos (by omega), if_pos (by rw [hr]), hw]
    refine ih (i + 1) k _ (by omega) (by omega) (by omega) (by simpa using hu) (fun j h1 h2 => ?_)
    rw [← hj j (by omega) h2]
    show (u.set ((i : Int).toNat) _).getD j _ = _
    rw [Int.toNat_natCast, List.getD_eq_getElem?_getD, List.getD_eq_getElem?_getD, List.getElem?_set_ne (by omega)]
theorem PlantextShows : vesperslaw08_PlantextShows.Pure := by
  intro a0_0 a0_1 a0_2 a0_3 a0_4 a0_5 a0_6 a0_7 a0_8 a0_9 a0_10 a0_11 a0_12 a0_13 a0_14 a0_15 a1 w0 w1 w2 w3 w4 w5 w6 w7 w8 w9 w10 w11 w12 w13 w14 w15 hs
  refine ⟨200, ?_⟩
  unfold vesperslaw08_PlantextShows.f
  by_cases hl : (a1.size : Int) > 100
  · rw [if_pos hl]
  rw [if_neg hl]
  have hN : ∀ x ∈ [a0_0, a0_1, a0_2, a0_3, a0_4, a0_5, a0_6, a0_7, a0_8, a0_9, a0_10, a0_11, a0_12, a0_13, a0_14, a0_15], (Lit.int .i64 x).wf = true := by
    intro x hx
    simp only [List.mem_cons, List.mem_nil_iff, or_false] at hx
    rcases hx with rfl | rfl | rfl | rfl | rfl | rfl | rfl | rfl | rfl | rfl | rfl | rfl | rfl | rfl | rfl | rfl <;> assumption
  have hV : vespersref08_Value.f 200 a0_0 a0_1 a0_2 a0_3 a0_4 a0_5 a0_6 a0_7 a0_8 a0_9 a0_10 a0_11 a0_12 a0_13 a0_14 a0_15 a1 = some (valN [a0_0, a0_1, a0_2, a0_3, a0_4, a0_5, a0_6, a0_7, a0_8, a0_9, a0_10, a0_11, a0_12, a0_13, a0_14, a0_15] a1 16) := by
    show vespersref08_Value.l0 200 a1 namesL [a0_0, a0_1, a0_2, a0_3, a0_4, a0_5, a0_6, a0_7, a0_8, a0_9, a0_10, a0_11, a0_12, a0_13, a0_14, a0_15] ((0 : Nat) : Int) = _
    exact val_loop a1 _ rfl 16 0 200 rfl (by omega) (by omega)
  have hS : vespersref08_Show.f 200 a0_0 a0_1 a0_2 a0_3 a0_4 a0_5 a0_6 a0_7 a0_8 a0_9 a0_10 a0_11 a0_12 a0_13 a0_14 a0_15 = some ⟨(textL [a0_0, a0_1, a0_2, a0_3, a0_4, a0_5, a0_6, a0_7, a0_8, a0_9, a0_10, a0_11, a0_12, a0_13, a0_14, a0_15] 16).toArray⟩ := by
    show vespersref08_Show.l0 200 namesL [a0_0, a0_1, a0_2, a0_3, a0_4, a0_5, a0_6, a0_7, a0_8, a0_9, a0_10, a0_11, a0_12, a0_13, a0_14, a0_15] ⟨(textL [a0_0, a0_1, a0_2, a0_3, a0_4, a0_5, a0_6, a0_7, a0_8, a0_9, a0_10, a0_11, a0_12, a0_13, a0_14, a0_15] 0).toArray⟩ ((0 : Nat) : Int) = _
    exact show_loop _ hN rfl 16 0 200 rfl (by omega) (by omega)
  have hS2 : plantext_Show.f a0_0 a0_1 a0_2 a0_3 a0_4 a0_5 a0_6 a0_7 a0_8 a0_9 a0_10 a0_11 a0_12 a0_13 a0_14 a0_15 = some ⟨(textL [a0_0, a0_1, a0_2, a0_3, a0_4, a0_5, a0_6, a0_7, a0_8, a0_9, a0_10, a0_11, a0_12, a0_13, a0_14, a0_15] 16).toArray⟩ := by
    unfold plantext_Show.f
    rw [if_pos hN]
  rw [show plantext_Value.f a0_0 a0_1 a0_2 a0_3 a0_4 a0_5 a0_6 a0_7 a0_8 a0_9 a0_10 a0_11 a0_12 a0_13 a0_14 a0_15 a1 = some (valN [a0_0, a0_1, a0_2, a0_3, a0_4, a0_5, a0_6, a0_7, a0_8, a0_9, a0_10, a0_11, a0_12, a0_13, a0_14, a0_15] a1 16) from rfl, hV, hS2, hS]
  rw [show plantext_Names.f = some namesL from rfl, show vespersref08_Names.f = some namesL from rfl]
  simp only [Option.bind_some, if_true, bne_self_eq_false, Bool.false_eq_true, if_false]
  rw [show (200 : Nat) = 199 + 1 from rfl, vesperslaw08_PlantextShows.j0]
  simp only [Bool.false_eq_true, if_false]
  exact tail_loop 16 0 199 namesL rfl (by omega) (by omega) rfl (fun _ _ _ => rfl)
end Go.Proofs.YtdpdcpbmdmkaeaaDoor.Pure
