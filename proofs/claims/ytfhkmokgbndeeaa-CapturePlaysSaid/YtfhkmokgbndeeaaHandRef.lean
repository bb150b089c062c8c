/- The reference's capture: a list behind a pointer. -/
import Derived.Test.YtfhkmokgbndeeaaHandCapNil
import Derived.Test.YtfhkmokgbndeeaaPCx0
set_option linter.unusedVariables false
set_option linter.unusedSimpArgs false
namespace Go.Proofs.Ytfhkmokgbndeeaa.Hand
open Go.RowKit Go.Proofs.Ytfhkmokgbndeeaa.Cap Go.Proofs.Ytfhkmokgbndeeaa.PA Go.Proofs.Ytfhkmokgbndeeaa.PB Go.Proofs.YtfhkmokgbndeeaaW.PrintWords Go.Proofs.YtfhkmokgbndeeaaW.PrintLast Go.Proofs.YtfhkmokgbndeeaaW.PrintMore
open Go.Proofs.Ytfhkmokgbndeeaa.PC (S68 k68 z68 rd_T68 at_T68 k68_mkM)
attribute [local go_sem] Oper.semAt_some

/-- A capture of the reference at block g: v its list, told by l; the rows lie at blocks that are ok. -/
structure RefAt (w : World) (g base : Nat) (ok : Nat → Prop) (v : Value) (l : List S68) : Prop where
  blk : w.heap[g]? = some (.cells #[v] 54 (0, 0))
  row : Kd.R k68 68 w base ok v l
  ne : ¬ ok g
theorem RefAt.below {w w1 : World} {g base : Nat} {ok : Nat → Prop} {v : Value} {l : List S68} (h : RefAt w g base ok v l) (hb : Below w.heap.size w w1) : RefAt w1 g base ok v l := ⟨blk_below h.1 hb, Kd.R_below h.2 hb, h.3⟩
theorem RefAt.lt {w : World} {g base : Nat} {ok : Nat → Prop} {v : Value} {l : List S68} (h : RefAt w g base ok v l) : g < w.heap.size := blk_lt h.1
def sumP (n : Int) (l : List S68) : Int := ((l.filter (fun x => x.f0 == n)).map (·.f2)).sum
def manyP (n : Int) (l : List S68) : Nat := (l.filter (fun x => x.f0 == n)).length
def FitL (l : List S68) : Prop := (∀ x ∈ l, -4294967296 ≤ x.f2 ∧ x.f2 ≤ 4294967296) ∧ l.length ≤ 1000
theorem sumP_snoc (n : Int) (l : List S68) (x : S68) : sumP n (l ++ [x]) = if x.f0 = n then sumP n l + x.f2 else sumP n l := by
  unfold sumP
  rw [List.filter_append, List.map_append, List.sum_append]
  by_cases h : x.f0 = n <;> simp [h]
theorem manyP_snoc (n : Int) (l : List S68) (x : S68) : manyP n (l ++ [x]) = if x.f0 = n then manyP n l + 1 else manyP n l := by
  unfold manyP
  rw [List.filter_append, List.length_append]
  by_cases h : x.f0 = n <;> simp [h]
theorem sumP_bound (n : Int) : ∀ (l : List S68), (∀ x ∈ l, -4294967296 ≤ x.f2 ∧ x.f2 ≤ 4294967296) → -4294967296 * (l.length : Int) ≤ sumP n l ∧ sumP n l ≤ 4294967296 * (l.length : Int)
  | [], _ => by simp [sumP]
  | x :: l, h => by
    have ih := sumP_bound n l (fun y hy => h y (by simp [hy]))
    have hx := h x (by simp)
    have e : sumP n (x :: l) = if x.f0 = n then x.f2 + sumP n l else sumP n l := by
      unfold sumP
      by_cases q : x.f0 = n <;> simp [q]
    rw [e]
    split <;> (simp only [List.length_cons]; push_cast; omega)
theorem manyP_le (n : Int) (l : List S68) : manyP n l ≤ l.length := List.length_filter_le _ _
/-- What 'Of' tells of the list (a node has two entries at most). -/
def ofL (l : List S68) (n : Int) : Int × Bool := if manyP n l = 0 then (0, false) else if manyP n l = 1 then (sumP n l, true) else (sumP n l / 2, true)
theorem tdiv2 (s : Int) : (Int.tdiv s 2 * 2 > s → Int.tdiv s 2 - 1 = s / 2) ∧ (¬ Int.tdiv s 2 * 2 > s → Int.tdiv s 2 = s / 2) ∧ (-9000000000000 ≤ s ∧ s ≤ 9000000000000 → -9000000000000 ≤ Int.tdiv s 2 ∧ Int.tdiv s 2 ≤ 9000000000000) := by
  by_cases h : 0 ≤ s
  · rw [Int.tdiv_eq_ediv_of_nonneg h]; omega
  · obtain ⟨t, rfl⟩ : ∃ t, s = -t := ⟨-s, by omega⟩
    rw [Int.neg_tdiv, Int.tdiv_eq_ediv_of_nonneg (by omega)]; omega
set_option maxRecDepth 100000 in
set_option maxHeartbeats 4000000 in
theorem rof_core (g base : Nat) (ok : Nat → Prop) (v : Value) (l : List S68) (n : Int) (hf : FitL l) (hm : manyP n l ≤ 2) (w : World) (hR : RefAt w g base ok v l) :
    Calls Try.prog 19 #[.pointer (some ⟨g, 0, none⟩), .int .i64 n] w fun e w' => e = .returned (.tuple #[.int .i64 (ofL l n).1, .bool (ofL l n).2]) ∧ w' = w := by
  obtain ⟨A, c, rfl⟩ := Kd.R_slice hR.row
  have hc0 : w.cell? ⟨g, 0, none⟩ = some (.slice A l.length c) := (blk_cell hR.blk 0).trans rfl
  have hrd := (Kd.R_reads' hR.row).2.2
  have hl := hf.2
  go_enter Try.func19, Try.ntmps19
  go_wp2_with (go_in)
  go_loopw [6, 7, 8] (fun v6 v7 v8 wr => ∃ (i : Nat) (s : Int) (k : Nat), i ≤ l.length ∧ v8 = .int .i64 i ∧ v6 = .int .i64 s ∧ v7 = .int .i64 (k : Int) ∧ s = sumP n (l.take i) ∧ k = manyP n (l.take i) ∧ wr = w)
    (fun _ _ v8 _ => l.length - (intOf v8).toNat)
  case atStart => exact ⟨0, 0, 0, Nat.zero_le _, rfl, rfl, rfl, rfl, rfl, rfl⟩
  case round =>
    obtain ⟨i, s, k, hi, rfl, rfl, rfl, hs, hk, rfl⟩ := hrel
    have hsb := sumP_bound n (l.take i) (fun x hx => hf.1 x (List.mem_of_mem_take hx))
    rw [← hs, List.length_take, Nat.min_eq_left hi] at hsb
    have hkb : k ≤ i := by have := manyP_le n (l.take i); rw [← hk, List.length_take, Nat.min_eq_left hi] at this; exact this
    by_cases hlt : i < l.length
    · have hcl : decide ((i : Int) < (l.length : Int)) = true := decide_eq_true (by omega)
      have p1 : 0 ≤ (i : Int) := by omega
      have q1 : (i : Int) < (l.length : Int) := by omega
      obtain ⟨ad, ead, hx0, hx1, hx2⟩ := at_T68 hrd (i : Int) p1 q1
      cases ead
      rw [Int.toNat_natCast] at hx0 hx1 hx2
      have hst1 : sumP n (l.take (i + 1)) = if (rd_T68 l (i : Int)).f0 = n then s + (rd_T68 l (i : Int)).f2 else s := by
        rw [List.take_succ_eq_append_getElem hlt, sumP_snoc, hs]
        simp [rd_T68, hlt]
      have hst2 : manyP n (l.take (i + 1)) = if (rd_T68 l (i : Int)).f0 = n then k + 1 else k := by
        rw [List.take_succ_eq_append_getElem hlt, manyP_snoc, hk]
        simp [rd_T68, hlt]
      have hob : -4294967296 ≤ (rd_T68 l (i : Int)).f2 ∧ (rd_T68 l (i : Int)).f2 ≤ 4294967296 := by
        have := hf.1 l[i] (List.getElem_mem hlt)
        simpa [rd_T68, hlt] using this
      generalize rd_T68 l (i : Int) = o at hx0 hx1 hx2 hst1 hst2 hob
      obtain ⟨o0, o1, o2⟩ := o
      simp only at hx0 hx1 hx2 hst1 hst2 hob
      clear hs hk
      replace p1 := eq_true p1
      replace q1 := eq_true q1
      by_cases hq : o0 = n
      · have hqb : (o0 == n) = true := by simpa using hq
        rw [if_pos hq] at hst1 hst2
        clear hq
        go_wp2
        exact ⟨⟨i + 1, s + o2, k + 1, by omega, by go_num, by go_num, by go_num, hst1.symm, hst2.symm, trivial⟩, by simp [intOf]; omega⟩
      · have hqb : (o0 == n) = false := by simpa using hq
        rw [if_neg hq] at hst1 hst2
        clear hq
        go_wp2
        exact ⟨⟨i + 1, s, k, by omega, by go_num, rfl, rfl, hst1.symm, hst2.symm, trivial⟩, by simp [intOf]; omega⟩
    · obtain rfl : i = l.length := by omega
      have hcl : decide ((l.length : Int) < (l.length : Int)) = false := decide_eq_false (by omega)
      rw [List.take_length] at hs hk
      have hs' := Lib.hid hs
      rw [← hk] at hm
      have hO : ofL l n = if k = 0 then (0, false) else if k = 1 then (s, true) else (s / 2, true) := by unfold ofL; rw [← hs, ← hk]
      clear hs hk
      obtain rfl | rfl | rfl : k = 0 ∨ k = 1 ∨ k = 2 := by omega
      · rw [if_pos rfl] at hO
        go_wp2
        go_ret2
        rw [hO]
        exact ⟨rfl, rfl⟩
      · rw [if_neg (by decide), if_pos rfl] at hO
        have ht1 : s.tdiv 1 = s := Int.tdiv_one s
        go_wp2
        go_ret2
        rw [hO]
        exact ⟨rfl, rfl⟩
      · rw [if_neg (by decide), if_neg (by decide)] at hO
        obtain ⟨t1, t2, t3⟩ := tdiv2 s
        have t3' := t3 (by omega)
        obtain ⟨z, hz⟩ : ∃ z, s / 2 = z := ⟨_, rfl⟩
        rw [hz] at t1 t2 hO
        clear hz t3
        obtain ⟨t, hT⟩ : ∃ t, s.tdiv 2 = t := ⟨_, rfl⟩
        rw [hT] at t1 t2 t3'
        by_cases hgt : t * 2 > s
        · have hgb : decide (s < t * 2) = true := decide_eq_true hgt
          have hz := t1 hgt
          clear t1 t2 hgt
          subst hz
          go_wp2
          go_ret2
          rw [hO]
          exact ⟨rfl, rfl⟩
        · have hgb : decide (s < t * 2) = false := decide_eq_false (by omega)
          have hz := t2 hgt
          clear t1 t2 hgt
          subst hz
          go_wp2
          go_ret2
          rw [hO]
          exact ⟨rfl, rfl⟩
end Go.Proofs.Ytfhkmokgbndeeaa.Hand
