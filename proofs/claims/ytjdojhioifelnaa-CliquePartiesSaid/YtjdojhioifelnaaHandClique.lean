/- What 'clique.may' and 'clique.Add' compute, by hand: contracts in the form of the printed ones. -/
import Derived.Test.YtjdojhioifelnaaProg
import Derived.WalkKit
import Derived.Outline
import Derived.Lib.Hide
import Derived.RegionTactic
import Derived.ChangeAlike
import Derived.BigRegion
import Derived.KernelRfl
import Derived.RowKit3
import Derived.Deep.QuietTactic
import Derived.BigQuiet
import Derived.Deep.LoopGhost
import Derived.Deep.DeepCutAuto
import Derived.Test.YtjdojhioifelnaaWWords
import Derived.Test.YtjdojhioifelnaaWMore
set_option linter.unusedVariables false
set_option linter.unusedSimpArgs false
namespace Go.Proofs.Ytjdojhioifelnaa.Hand
open Go.RowKit Go.Proofs.YtjdojhioifelnaaW.PrintWords

/-- May a counter be? -/
def inC (n : Int) : Bool := decide (0 ≤ n) && decide (n ≤ 2147483647)
def clique_may.f (a0_0 a0_1 : Int) : Option Bool := some (inC a0_0 && inC a0_1)

theorem in_calls (n : Int) (w : World) : Calls Try.prog 29 #[.int .i64 n] w fun e w' => e = .returned (.bool (inC n)) ∧ w' = w := by
  by_cases h0 : 0 ≤ n
  · by_cases h1 : n ≤ 2147483647
    · go_enter Try.func29, Try.ntmps29
      go_wp2
      go_ret
      exact ⟨by simp [inC, h0, h1], rfl⟩
    · go_enter Try.func29, Try.ntmps29
      go_wp2
      go_ret
      exact ⟨by simp [inC, h0, h1], rfl⟩
  · have h2 : decide (0 ≤ n) = false := by simpa using h0
    go_enter Try.func29, Try.ntmps29
    go_wp2
    go_ret
    exact ⟨by simp [inC, h2], rfl⟩

set_option maxHeartbeats 1000000 in
theorem may_core (a b : Int) (w : World) : Calls Try.prog 21 #[.agg #[.int .i64 a, .int .i64 b]] w fun e w' => e = .returned (.bool (inC a && inC b)) ∧ w' = w.alloc (.cells #[.int .i64 a, .int .i64 b] 23) := by
  cases ha : inC a with
  | true =>
    go_enter Try.func21, Try.ntmps21
    go_wp2_with (go_at_call 29; refine (in_calls _ _).mono ?_; rintro e w' ⟨rfl, rfl⟩)
    go_ret
    exact ⟨rfl, rfl⟩
  | false =>
    go_enter Try.func21, Try.ntmps21
    go_wp2_with (go_at_call 29; refine (in_calls _ _).mono ?_; rintro e w' ⟨rfl, rfl⟩)
    go_ret
    exact ⟨rfl, rfl⟩
theorem clique_may.calls (a0_0 : Int) (a0_1 : Int) (r : Bool) (w : World) (h : clique_may.f a0_0 a0_1 = some r) :
    Calls Try.prog 21 #[.agg #[.int .i64 a0_0, .int .i64 a0_1]] w fun e w' => e = .returned (.bool r) ∧ Below w.heap.size w w' := by
  refine (may_core a0_0 a0_1 w).mono ?_
  rintro e w' ⟨rfl, rfl⟩
  obtain rfl : (inC a0_0 && inC a0_1) = r := by simpa [clique_may.f] using h
  exact ⟨rfl, (Below.refl _ _).alloc (Nat.le_refl _) _⟩

/-! ### Add -/
def cntC (l : List Int) (k : Int) : Int := ((l.countP (fun x => x == k) : Nat) : Int)
def saysOk (l : List Int) : Bool := l.all (fun s => decide (0 ≤ s) && decide (s < 4))
def addC (a b : Int) (l : List Int) : Int × Int × Int :=
  if (inC a && inC b) = true then
    if saysOk l = true then
      if (inC (a + cntC l 1) && inC (b + cntC l 2 + cntC l 3)) = true then (a + cntC l 1, b + cntC l 2 + cntC l 3, 0) else (0, 0, 190)
    else (0, 0, 190)
  else (0, 0, 190)
def clique_Add.f (a0_0 a0_1 : Int) (l1 : List Int) : Option (Int × Int × Int) := if l1.length * 8 ≤ 140737488351232 then some (addC a0_0 a0_1 l1) else none

structure AddI (w wr : World) (a b c0 c1 c2 c3 : Int) : Prop where
  h0 : wr.heap[w.heap.size]? = some (.cells #[.int .i64 a, .int .i64 b] 23 (0, 0))
  h1 : wr.heap[w.heap.size + 1]? = some (.cells #[.int .i64 0, .int .i64 0] 23 (0, 0))
  h3 : wr.heap[w.heap.size + 1 + 1 + 1]? = some (.cells #[.int .i64 c0, .int .i64 c1, .int .i64 c2, .int .i64 c3] 57 (0, 0))
  hb : Below w.heap.size w wr

theorem cell_at {w : World} {g : Nat} {cs : Array Value} {t : TypeId} {fr : Nat × Nat} (h : w.heap[g]? = some (.cells cs t fr)) (i : Nat) {v : Value} (hv : cs[i]? = some v) : w.cell? ⟨g, i, none⟩ = some v := by
  simp [World.cell?, h, hv]
theorem free_at {w : World} {g : Nat} {cs : Array Value} {t : TypeId} (h : w.heap[g]? = some (.cells cs t (0, 0))) (i : Nat) : w.frozen? ⟨g, i, none⟩ = false := by simp [World.frozen?, h]
theorem heap_set {w : World} {g i : Nat} {cs : Array Value} {t : TypeId} {fr : Nat × Nat} (h : w.heap[g]? = some (.cells cs t fr)) (v : Value) : (w.setCell ⟨g, i, none⟩ v).heap[g]? = some (.cells (cs.setIfInBounds i v) t fr) := by
  have hlt : g < w.heap.size := (Array.getElem?_eq_some_iff.1 h).1
  simp [World.setCell, Array.getElem?_modify, h]
theorem cntC_snoc (l : List Int) (s k : Int) : cntC (l ++ [s]) k = cntC l k + if s = k then 1 else 0 := by
  unfold cntC
  rw [List.countP_append]
  by_cases h : s = k <;> simp [h]
theorem cntC_le (l : List Int) (k : Int) : 0 ≤ cntC l k ∧ cntC l k ≤ l.length := by
  unfold cntC
  have := List.countP_le_length (p := fun x => x == k) (l := l)
  omega
theorem saysOk_snoc (l : List Int) (s : Int) : saysOk (l ++ [s]) = (saysOk l && (decide (0 ≤ s) && decide (s < 4))) := by simp [saysOk]
theorem take_snoc_i (l : List Int) (k : Nat) (h : k < l.length) : l.take (k + 1) = l.take k ++ [rd l (k : Int)] := by
  rw [List.take_succ_eq_append_getElem h]
  simp [rd, List.getElem?_eq_getElem h]

theorem add_start (w : World) (a b : Int) (W3 W4 : World) (h3 : W3 = ((w.alloc (.cells #[.int .i64 a, .int .i64 b] 23)).alloc (.cells #[.int .i64 0, .int .i64 0] 23)).alloc (.cells #[.int .i64 a, .int .i64 b] 23)) (h4 : W4 = W3.alloc (.cells #[.int .i64 0, .int .i64 0, .int .i64 0, .int .i64 0] 57)) : AddI w W4 a b (cntC ([] : List Int) 0) (cntC ([] : List Int) 1) (cntC ([] : List Int) 2) (cntC ([] : List Int) 3) := by
  subst h3
  subst h4
  refine ⟨?_, ?_, ?_, ?_⟩
  · rw [Below.heap_alloc _ _ _ (by simp <;> omega), Below.heap_alloc _ _ _ (by simp <;> omega), Below.heap_alloc _ _ _ (by simp)]
    exact heap_alloc_new w _
  · rw [Below.heap_alloc _ _ _ (by simp <;> omega), Below.heap_alloc _ _ _ (by simp)]
    have := heap_alloc_new (w.alloc (.cells #[.int .i64 a, .int .i64 b] 23)) (.cells #[.int .i64 0, .int .i64 0] 23)
    rwa [World.size_alloc] at this
  · have := heap_alloc_new (((w.alloc (.cells #[.int .i64 a, .int .i64 b] 23)).alloc (.cells #[.int .i64 0, .int .i64 0] 23)).alloc (.cells #[.int .i64 a, .int .i64 b] 23)) (.cells #[.int .i64 0, .int .i64 0, .int .i64 0, .int .i64 0] 57)
    simp only [World.size_alloc] at this
    exact this
  · exact ((((Below.refl _ _).alloc (by simp) _).alloc (by simp) _).alloc (by simp <;> omega) _).alloc (by simp <;> omega) _
theorem AddI.s0 {w wr : World} {a b c0 c1 c2 c3 : Int} (h : AddI w wr a b c0 c1 c2 c3) (x : Int) : AddI w (wr.setCell ⟨w.heap.size + 1 + 1 + 1, 0, none⟩ (.int .i64 x)) a b x c1 c2 c3 :=
  ⟨(Below.heap_setCell _ _ _ _ (by simp <;> omega)).trans h.h0, (Below.heap_setCell _ _ _ _ (by simp <;> omega)).trans h.h1, heap_set h.h3 _, h.hb.setCell (by simp <;> omega) _⟩
theorem AddI.s1 {w wr : World} {a b c0 c1 c2 c3 : Int} (h : AddI w wr a b c0 c1 c2 c3) (x : Int) : AddI w (wr.setCell ⟨w.heap.size + 1 + 1 + 1, 1, none⟩ (.int .i64 x)) a b c0 x c2 c3 :=
  ⟨(Below.heap_setCell _ _ _ _ (by simp <;> omega)).trans h.h0, (Below.heap_setCell _ _ _ _ (by simp <;> omega)).trans h.h1, heap_set h.h3 _, h.hb.setCell (by simp <;> omega) _⟩
theorem AddI.s2 {w wr : World} {a b c0 c1 c2 c3 : Int} (h : AddI w wr a b c0 c1 c2 c3) (x : Int) : AddI w (wr.setCell ⟨w.heap.size + 1 + 1 + 1, 2, none⟩ (.int .i64 x)) a b c0 c1 x c3 :=
  ⟨(Below.heap_setCell _ _ _ _ (by simp <;> omega)).trans h.h0, (Below.heap_setCell _ _ _ _ (by simp <;> omega)).trans h.h1, heap_set h.h3 _, h.hb.setCell (by simp <;> omega) _⟩
theorem AddI.s3 {w wr : World} {a b c0 c1 c2 c3 : Int} (h : AddI w wr a b c0 c1 c2 c3) (x : Int) : AddI w (wr.setCell ⟨w.heap.size + 1 + 1 + 1, 3, none⟩ (.int .i64 x)) a b c0 c1 c2 x :=
  ⟨(Below.heap_setCell _ _ _ _ (by simp <;> omega)).trans h.h0, (Below.heap_setCell _ _ _ _ (by simp <;> omega)).trans h.h1, heap_set h.h3 _, h.hb.setCell (by simp <;> omega) _⟩
theorem AddI.ca {w wr : World} {a b c0 c1 c2 c3 : Int} (h : AddI w wr a b c0 c1 c2 c3) (x : Int) : AddI w (wr.setCell ⟨w.heap.size, 0, none⟩ (.int .i64 x)) x b c0 c1 c2 c3 :=
  ⟨heap_set h.h0 _, (Below.heap_setCell _ _ _ _ (by simp)).trans h.h1, (Below.heap_setCell _ _ _ _ (by simp <;> omega)).trans h.h3, h.hb.setCell (by simp) _⟩
theorem AddI.cb {w wr : World} {a b c0 c1 c2 c3 : Int} (h : AddI w wr a b c0 c1 c2 c3) (x : Int) : AddI w (wr.setCell ⟨w.heap.size, 1, none⟩ (.int .i64 x)) a x c0 c1 c2 c3 :=
  ⟨heap_set h.h0 _, (Below.heap_setCell _ _ _ _ (by simp)).trans h.h1, (Below.heap_setCell _ _ _ _ (by simp <;> omega)).trans h.h3, h.hb.setCell (by simp) _⟩
theorem AddI.alloc {w wr : World} {a b c0 c1 c2 c3 : Int} (h : AddI w wr a b c0 c1 c2 c3) (o : Obj) : AddI w (wr.alloc o) a b c0 c1 c2 c3 := by
  have h0 := (Array.getElem?_eq_some_iff.1 h.h0).1
  have h1 := (Array.getElem?_eq_some_iff.1 h.h1).1
  have h3 := (Array.getElem?_eq_some_iff.1 h.h3).1
  exact ⟨(Below.heap_alloc _ _ _ h0).trans h.h0, (Below.heap_alloc _ _ _ h1).trans h.h1, (Below.heap_alloc _ _ _ h3).trans h.h3, h.hb.alloc (by omega) _⟩
theorem AddI.drew {w wr : World} {a b c0 c1 c2 c3 : Int} (h : AddI w wr a b c0 c1 c2 c3) : AddI w wr.drew a b c0 c1 c2 c3 := ⟨h.h0, h.h1, h.h3, h.hb.drew⟩
theorem AddI.drewN {w wr : World} {a b c0 c1 c2 c3 : Int} (h : AddI w wr a b c0 c1 c2 c3) (n : Nat) : AddI w (wr.drewN n) a b c0 c1 c2 c3 := ⟨h.h0, h.h1, h.h3, pw_below_drewN h.hb n⟩
theorem saysOk_bad (l : List Int) (k : Nat) (hk : k < l.length) (s : Int) (hs : rd l (k : Int) = s) (h : s < 0 ∨ ¬ s < 4) : saysOk l = false := by
  unfold saysOk
  rw [List.all_eq_false]
  refine ⟨l[k], List.getElem_mem hk, ?_⟩
  have : l[k] = s := by rw [← hs]; simp [rd, List.getElem?_eq_getElem hk]
  rw [this]
  rcases h with h | h <;> simp <;> omega
theorem addC_bad (a b : Int) (l : List Int) (h : saysOk l = false) : addC a b l = (0, 0, 190) := by
  unfold addC
  rw [h]
  split <;> simp

set_option maxHeartbeats 4000000 in
set_option maxRecDepth 100000 in
theorem add_core (a b : Int) (A : Option Addr) (c : Nat) (l : List Int) (w : World) (hr : ReadsInt w .i64 A l.length l) (hm : l.length * 8 ≤ 140737488351232) :
    Calls Try.prog 9 #[.agg #[.int .i64 a, .int .i64 b], .slice A l.length c] w fun e w' => e = .returned (.tuple #[.agg #[.int .i64 (addC a b l).1, .int .i64 (addC a b l).2.1], .int .i64 (addC a b l).2.2]) ∧ Below w.heap.size w w' := by
  cases hmay : (inC a && inC b) with
  | false =>
    go_enter Try.func9, Try.ntmps9
    go_wp2_with (go_at_call 21; refine (may_core _ _ _).mono ?_; rintro e w' ⟨rfl, rfl⟩)
    refine bodyPost_ret (v := .tuple #[.agg #[.int .i64 0, .int .i64 0], .int .i64 190]) (by simp [results, Try.results9, go_sem]) rfl ⟨by simp [addC, hmay], ?_⟩
    repeat (first | exact Below.refl _ _ | refine Below.setCell ?_ (show w.heap.size ≤ _ by simp) _ | refine Below.alloc ?_ (by simp <;> omega) _ | refine Below.alloc ?_ (by simp) _)
  | true =>
    have hR := Aside0.mk hr
    clear hr
    go_enter Try.func9, Try.ntmps9
    go_wp2_with (go_at_call 21; refine (may_core _ _ _).mono ?_; rintro e w' ⟨rfl, rfl⟩)
    have HM := Lib.hid hmay
    clear hmay
    go_loopw [8, 16] (fun _ i wr => ∃ k : Nat, k ≤ l.length ∧ i = .int .i64 k ∧ saysOk (l.take k) = true ∧ AddI w wr a b (cntC (l.take k) 0) (cntC (l.take k) 1) (cntC (l.take k) 2) (cntC (l.take k) 3)) (fun _ i _ => l.length - (intOf i).toNat)
    case atStart =>
      refine ⟨0, Nat.zero_le _, rfl, rfl, ?_⟩
      exact add_start w a b _ _ rfl rfl
    case round =>
      obtain ⟨k, hk, rfl, hs, hI⟩ := hrel
      have HS := Aside0.mk hs
      have HI := Aside0.mk hI
      clear hs hI
      by_cases hlt : k < l.length
      · obtain ⟨ad, hA, hcell⟩ := (hR.out.below HI.out.hb).at_ (k : Int) (by omega) (by omega)
        rw [Int.toNat_natCast] at hcell
        obtain ⟨s, hs⟩ : ∃ s, rd l (k : Int) = s := ⟨_, rfl⟩
        rw [hs] at hcell
        have HT := Aside0.mk hs
        subst hA
        clear hs
        have hf1 := free_at HI.out.h1
        have h10 := cell_at HI.out.h1 0 (v := .int .i64 0) rfl
        have h11 := cell_at HI.out.h1 1 (v := .int .i64 0) rfl
        by_cases hs0 : s < 0
        · have HE := Aside0.mk (addC_bad a b l (saysOk_bad l k hlt s HT.out (.inl hs0)))
          have HB := Aside0.mk HI.out.hb
          go_wp2
          refine bodyPost_ret (v := .tuple #[.agg #[.int .i64 0, .int .i64 0], .int .i64 190]) ?_ rfl ⟨by rw [HE.out], ?_⟩
          · have hz := heap_set (heap_set HI.out.h1 (i := 0) (.int .i64 0)) (i := 1) (.int .i64 0)
            have hz0 := cell_at hz 0 (v := .int .i64 0) rfl
            have hz1 := cell_at hz 1 (v := .int .i64 0) rfl
            simp [results, Try.results9, go_sem, hz0, hz1]
          · exact (HB.out.setCell (by simp) _).setCell (by simp) _
        · by_cases hs4 : s < 4
          · have hf3 := free_at HI.out.h3
            have HB := Aside0.mk HI.out.hb
            have HN := Aside0.mk (take_snoc_i l k hlt)
            have q0 := cntC_le (l.take k) 0
            have q1 := cntC_le (l.take k) 1
            have q2 := cntC_le (l.take k) 2
            have q3 := cntC_le (l.take k) 3
            have ql : (l.take k).length ≤ l.length := by rw [List.length_take]; omega
            have hS : saysOk (l.take (k + 1)) = true := by rw [HN.out, HT.out, saysOk_snoc, HS.out]; simp; omega
            have HS' := Aside0.mk hS
            have hC : ∀ x, cntC (l.take (k + 1)) x = cntC (l.take k) x + if s = x then 1 else 0 := fun x => by rw [HN.out, HT.out, cntC_snoc]
            have HC := Aside0.mk hC
            clear hS hC
            obtain ⟨c0, e0⟩ : ∃ c0, cntC (l.take k) 0 = c0 := ⟨_, rfl⟩
            obtain ⟨c1, e1⟩ : ∃ c1, cntC (l.take k) 1 = c1 := ⟨_, rfl⟩
            obtain ⟨c2, e2⟩ : ∃ c2, cntC (l.take k) 2 = c2 := ⟨_, rfl⟩
            obtain ⟨c3, e3⟩ : ∃ c3, cntC (l.take k) 3 = c3 := ⟨_, rfl⟩
            rw [e0] at q0 HI
            rw [e1] at q1 HI
            rw [e2] at q2 HI
            rw [e3] at q3 HI
            have E0 := Aside0.mk e0
            have E1 := Aside0.mk e1
            have E2 := Aside0.mk e2
            have E3 := Aside0.mk e3
            clear e0 e1 e2 e3
            have hss : s = 0 ∨ s = 1 ∨ s = 2 ∨ s = 3 := by omega
            have b0 : c0 ≤ 140737488351232 := by omega
            have b1 : c1 ≤ 140737488351232 := by omega
            have b2 : c2 ≤ 140737488351232 := by omega
            have b3 : c3 ≤ 140737488351232 := by omega
            have p0 : 0 ≤ c0 := q0.1
            have p1 : 0 ≤ c1 := q1.1
            have p2 : 0 ≤ c2 := q2.1
            have p3 : 0 ≤ c3 := q3.1
            clear q0 q1 q2 q3 ql hs0 hs4
            rcases hss with rfl | rfl | rfl | rfl
            · have h3s := cell_at HI.out.h3 0 (v := .int .i64 c0) rfl
              go_wp2
              go_roundw
              case rel => exact ⟨k + 1, by omega, by go_num, HS'.out, by rw [HC.out, HC.out, HC.out, HC.out, E0.out, E1.out, E2.out, E3.out]; simpa using HI.out.s0 _⟩
              case measure => simp [intOf]; omega
            · have h3s := cell_at HI.out.h3 1 (v := .int .i64 c1) rfl
              go_wp2
              go_roundw
              case rel => exact ⟨k + 1, by omega, by go_num, HS'.out, by rw [HC.out, HC.out, HC.out, HC.out, E0.out, E1.out, E2.out, E3.out]; simpa using HI.out.s1 _⟩
              case measure => simp [intOf]; omega
            · have h3s := cell_at HI.out.h3 2 (v := .int .i64 c2) rfl
              go_wp2
              go_roundw
              case rel => exact ⟨k + 1, by omega, by go_num, HS'.out, by rw [HC.out, HC.out, HC.out, HC.out, E0.out, E1.out, E2.out, E3.out]; simpa using HI.out.s2 _⟩
              case measure => simp [intOf]; omega
            · have h3s := cell_at HI.out.h3 3 (v := .int .i64 c3) rfl
              go_wp2
              go_roundw
              case rel => exact ⟨k + 1, by omega, by go_num, HS'.out, by rw [HC.out, HC.out, HC.out, HC.out, E0.out, E1.out, E2.out, E3.out]; simpa using HI.out.s3 _⟩
              case measure => simp [intOf]; omega
          · have HE := Aside0.mk (addC_bad a b l (saysOk_bad l k hlt s HT.out (.inr hs4)))
            have HB := Aside0.mk HI.out.hb
            go_wp2
            refine bodyPost_ret (v := .tuple #[.agg #[.int .i64 0, .int .i64 0], .int .i64 190]) ?_ rfl ⟨by rw [HE.out], ?_⟩
            · have hz := heap_set (heap_set HI.out.h1 (i := 0) (.int .i64 0)) (i := 1) (.int .i64 0)
              have hz0 := cell_at hz 0 (v := .int .i64 0) rfl
              have hz1 := cell_at hz 1 (v := .int .i64 0) rfl
              simp [results, Try.results9, go_sem, hz0, hz1]
            · exact (HB.out.setCell (by simp) _).setCell (by simp) _
      · obtain rfl : k = l.length := by omega
        rw [List.take_length] at HS HI
        have p0 := cntC_le l 0
        have p1 := cntC_le l 1
        have p2 := cntC_le l 2
        have p3 := cntC_le l 3
        obtain ⟨c0, e0⟩ : ∃ c0, cntC l 0 = c0 := ⟨_, rfl⟩
        obtain ⟨c1, e1⟩ : ∃ c1, cntC l 1 = c1 := ⟨_, rfl⟩
        obtain ⟨c2, e2⟩ : ∃ c2, cntC l 2 = c2 := ⟨_, rfl⟩
        obtain ⟨c3, e3⟩ : ∃ c3, cntC l 3 = c3 := ⟨_, rfl⟩
        rw [e0] at p0 HI
        rw [e1] at p1 HI
        rw [e2] at p2 HI
        rw [e3] at p3 HI
        have E1 := Aside0.mk e1
        have E2 := Aside0.mk e2
        have E3 := Aside0.mk e3
        have hab : inC a = true ∧ inC b = true := by have := HM.out; simpa using this
        have ha : 0 ≤ a ∧ a ≤ 2147483647 := by have := hab.1; simpa [inC] using this
        have hb : 0 ≤ b ∧ b ≤ 2147483647 := by have := hab.2; simpa [inC] using this
        clear e0 e1 e2 e3 hab
        go_wp2
        go_loopw [9, 33, 37, 46] (fun _ i _ _ wr => ∃ k : Nat, k ≤ 4 ∧ i = .int .i64 k ∧ AddI w wr (a + if 2 ≤ k then c1 else 0) (b + (if 3 ≤ k then c2 else 0) + if 4 ≤ k then c3 else 0) c0 c1 c2 c3) (fun _ i _ _ _ => 4 - (intOf i).toNat)
        case atStart => exact ⟨0, by omega, rfl, by simpa using HI.out⟩
        case round =>
          obtain ⟨k, hk4, rfl, hJ⟩ := hrel
          have HJ := Aside0.mk hJ
          clear hJ HI
          have hc : k = 0 ∨ k = 1 ∨ k = 2 ∨ k = 3 ∨ k = 4 := by omega
          clear hk4
          rcases hc with rfl | rfl | rfl | rfl | rfl
          · go_wp2
            go_roundw
            case rel => exact ⟨1, by omega, rfl, by simpa using HJ.out⟩
            case measure => simp [intOf]
          · have f0 := free_at HJ.out.h0
            have f3 := free_at HJ.out.h3
            have d0 := cell_at HJ.out.h0 0 (v := .int .i64 a) (by simp)
            have d1 := cell_at HJ.out.h3 1 (v := .int .i64 c1) rfl
            go_wp2
            go_region
            all_goals go_wp2
            all_goals go_roundw
            case rel => exact ⟨2, by omega, rfl, by simpa using (HJ.out.ca _).drew⟩
            case measure => simp [intOf]
          · have f0 := free_at HJ.out.h0
            have f3 := free_at HJ.out.h3
            have d0 := cell_at HJ.out.h0 1 (v := .int .i64 b) (by simp)
            have d1 := cell_at HJ.out.h3 2 (v := .int .i64 c2) rfl
            go_wp2
            go_region
            all_goals go_wp2
            all_goals go_roundw
            case rel => exact ⟨3, by omega, rfl, by simpa using (HJ.out.cb _).drew⟩
            case measure => simp [intOf]
          · have f0 := free_at HJ.out.h0
            have f3 := free_at HJ.out.h3
            have d0 := cell_at HJ.out.h0 1 (v := .int .i64 (b + c2)) (by simp)
            have d1 := cell_at HJ.out.h3 3 (v := .int .i64 c3) rfl
            go_wp2
            go_region
            all_goals go_wp2
            all_goals go_roundw
            case rel => exact ⟨4, by omega, rfl, by simpa using (HJ.out.cb _).drew⟩
            case measure => simp [intOf]
          · have hJ : AddI w wr (a + c1) (b + c2 + c3) c0 c1 c2 c3 := by simpa using HJ.out
            clear HJ
            have HJ := Aside0.mk hJ
            clear hJ
            have f1 := free_at HJ.out.h1
            have d0 := cell_at HJ.out.h0 0 (v := .int .i64 (a + c1)) rfl
            have d1 := cell_at HJ.out.h0 1 (v := .int .i64 (b + c2 + c3)) rfl
            have g0 := cell_at HJ.out.h1 0 (v := .int .i64 0) rfl
            have g1 := cell_at HJ.out.h1 1 (v := .int .i64 0) rfl
            have f1' := fun o i => free_at (HJ.out.alloc o).h1 i
            have d0' := fun o => cell_at (HJ.out.alloc o).h0 0 (v := .int .i64 (a + c1)) rfl
            have d1' := fun o => cell_at (HJ.out.alloc o).h0 1 (v := .int .i64 (b + c2 + c3)) rfl
            have g0' := fun o => cell_at (HJ.out.alloc o).h1 0 (v := .int .i64 0) rfl
            have g1' := fun o => cell_at (HJ.out.alloc o).h1 1 (v := .int .i64 0) rfl
            cases hfin : (inC (a + c1) && inC (b + c2 + c3)) with
            | true =>
              have HE : Aside0 (addC a b l = (a + c1, b + c2 + c3, 0)) := ⟨by unfold addC; rw [HM.out, HS.out, E1.out, E2.out, E3.out, hfin]; simp⟩
              go_wp2_with (go_at_call 21; refine (may_core _ _ _).mono ?_; rintro e w' ⟨rfl, rfl⟩)
              have hJ := HJ.out.alloc (.cells #[.int .i64 (a + c1), .int .i64 (b + c2 + c3)] 23)
              refine bodyPost_ret (v := .tuple #[.agg #[.int .i64 (a + c1), .int .i64 (b + c2 + c3)], .int .i64 0]) ?_ rfl ⟨by rw [HE.out], ?_⟩
              · have hz := heap_set (heap_set hJ.h1 (i := 0) (.int .i64 (a + c1))) (i := 1) (.int .i64 (b + c2 + c3))
                have hz0 := cell_at hz 0 (v := .int .i64 (a + c1)) rfl
                have hz1 := cell_at hz 1 (v := .int .i64 (b + c2 + c3)) rfl
                simp [results, Try.results9, go_sem, hz0, hz1]
              · exact (hJ.hb.setCell (by simp) _).setCell (by simp) _
            | false =>
              have HE : Aside0 (addC a b l = (0, 0, 190)) := ⟨by unfold addC; rw [HM.out, HS.out, E1.out, E2.out, E3.out, hfin]; simp⟩
              go_wp2_with (go_at_call 21; refine (may_core _ _ _).mono ?_; rintro e w' ⟨rfl, rfl⟩)
              have hJ := HJ.out.alloc (.cells #[.int .i64 (a + c1), .int .i64 (b + c2 + c3)] 23)
              refine bodyPost_ret (v := .tuple #[.agg #[.int .i64 0, .int .i64 0], .int .i64 190]) ?_ rfl ⟨by rw [HE.out], ?_⟩
              · have hz := heap_set (heap_set hJ.h1 (i := 0) (.int .i64 0)) (i := 1) (.int .i64 0)
                have hz0 := cell_at hz 0 (v := .int .i64 0) rfl
                have hz1 := cell_at hz 1 (v := .int .i64 0) rfl
                simp [results, Try.results9, go_sem, hz0, hz1]
              · exact (hJ.hb.setCell (by simp) _).setCell (by simp) _

theorem clique_Add.calls (a0_0 : Int) (a0_1 : Int) (A1 : Option Addr) (c1 : Nat) (l1 : List Int) (r1 : Int) (r2 : Int) (r3 : Int) (w : World) (hr1 : Kd.C (Kd.int .i64) w A1 l1.length l1) (hc1 : l1.length ≤ c1) (h : clique_Add.f a0_0 a0_1 l1 = some (r1, r2, r3)) :
    Calls Try.prog 9 #[.agg #[.int .i64 a0_0, .int .i64 a0_1], .slice A1 l1.length c1] w fun e w' => e = .returned (.tuple #[.agg #[.int .i64 r1, .int .i64 r2], .int .i64 r3]) ∧ Below w.heap.size w w' := by
  unfold clique_Add.f at h
  split at h
  · rename_i hm
    refine (add_core a0_0 a0_1 A1 c1 l1 w (Kd.reads_of_C (d := (0 : Int)) hr1) hm).mono ?_
    rintro e w' ⟨rfl, hb⟩
    have h' := Option.some.inj h
    rw [h']
    exact ⟨rfl, hb⟩
  · cases h

end Go.Proofs.Ytjdojhioifelnaa.Hand
