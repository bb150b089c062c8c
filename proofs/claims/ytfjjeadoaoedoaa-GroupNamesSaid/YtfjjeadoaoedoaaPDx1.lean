/- Written by a program of this session (wip/jprint.py, over the printer of the kit): functions that a law comes to, as plain Lean functions, and walks; Lean checks it. -/
import Derived.Test.YtfjjeadoaoedoaaPDx0
namespace Go.Proofs.Ytfjjeadoaoedoaa.PD
open Go.RowKit Go.Proofs.Ytfjjeadoaoedoaa.Hand Go.Proofs.Ytfjjeadoaoedoaa.PA Go.Proofs.Ytfjjeadoaoedoaa.PB Go.Proofs.YtfjjeadoaoedoaaW.PrintWords Go.Proofs.YtfjjeadoaoedoaaW.PrintLast Go.Proofs.YtfjjeadoaoedoaaW.PrintMore
attribute [local go_sem] max2_int min2_int max_two min_two max_three min_three max_four min_four   -- for this text's walks alone
set_option linter.unusedVariables false
set_option linter.unusedSimpArgs false

-- BY HAND: function 14 (group_Has)

-- BY HAND: function 16 (group_With)

-- BY HAND: function 18 (group_Without)

-- BY HAND: function 20 (group_Count)

-- BY HAND: function 22 (group_Next)

-- BY HAND: function 24 (group_Rank)

-- BY HAND: function 26 (group_First)

-- BY HAND: function 28 (group_Both)

-- BY HAND: function 30 (group_Less)

-- BY HAND: function 32 (vesperslaw03_alive)

-- BY HAND: function 33 (group_Of)

-- BY HAND: function 34 (group_Text)

-- BY HAND: function 36 (group_Parse)

/-! ### vesperslaw03_GroupNames: function 10 -/
def vesperslaw03_GroupNames.l0 : Nat → Int → Int → Int → Int → Int → Int → Int → List ByteArray → Int → Int → Option (Bool)
  | 0, _, _, _, _, _, _, _, _, _, _ => none
  | k + 1, x1, x2, x3, x4, x6, x8, x9, x39, x40, x41 => if x41 < x40 then (if 0 ≤ x41 then (if x41 < (x39.length : Int) then ((group_Parse.f (rdOf ByteArray.empty x39 x41)).bind fun bt122 => (if bt122.2 = 2 then (if bt122.1 = 0 then (vesperslaw03_GroupNames.l0 k x1 x2 x3 x4 x6 x8 (wrap64 (x9 + 1)) x39 x40 (wrap64 (x41 + 1))) else (vesperslaw03_GroupNames.l0 k x1 x2 x3 x4 x6 x8 x9 x39 x40 (wrap64 (x41 + 1)))) else (none))) else (none)) else (none)) else ((group_Parse.f (⟨#[48, 49, 50, 51, 52, 53, 54, 55, 56, 57, 97, 98, 99, 100, 101, 102]⟩ : ByteArray)).bind fun bt124 => ((group_Parse.f (⟨#[45]⟩ : ByteArray)).bind fun bt126 => (if x2 = 0 then ((group_Next.f x1 7).bind fun t128 => (if t128 = 7 then ((group_Count.f x1).bind fun t129 => (if t129 = 1 then (if x4 = 0 then ((group_Next.f x3 7).bind fun t130 => (if t130 = (-1) then ((group_Text.f x3).bind fun t131 => (if t131.toList = ([45] : List UInt8) then (if x6 = 2 then (if x8 = 2 then (if x9 = 10 then (if bt124.2 = 0 then (if bt124.1 = 65535 then (if bt126.2 = 0 then ((group_First.f 0).bind fun t132 => (if t132 = 0 then ((group_First.f (-5)).bind fun t133 => (if t133 = 0 then ((group_First.f 3).bind fun t134 => (if t134 = 7 then ((group_First.f 16).bind fun t135 => (if t135 = 65535 then ((group_First.f 99).bind fun t136 => (if t136 = 65535 then ((group_Has.f bt124.1 15).bind fun t137 => (if t137 = true then ((group_Has.f bt124.1 16).bind fun t138 => (if t138 = true then (none) else ((group_Has.f bt124.1 (-1)).bind fun t139 => (if t139 = true then (none) else ((group_With.f 0 16).bind fun t140 => (if t140 = 0 then ((group_Without.f bt124.1 (-1)).bind fun t141 => (if t141 = bt124.1 then ((group_Next.f bt124.1 16).bind fun t142 => (if t142 = (-1) then ((group_Next.f bt124.1 (-1)).bind fun t143 => (if t143 = (-1) then ((group_Next.f bt124.1 15).bind fun t144 => (if t144 = 0 then ((group_Rank.f bt124.1 5).bind fun t145 => (if t145 = 5 then ((group_Rank.f bt124.1 (-3)).bind fun t146 => (if t146 = 0 then ((group_Rank.f bt124.1 99).bind fun t147 => ((vesperslaw03_alive.f k).bind fun t148 => (if t148 = true then (if bt126.1 = 0 then (if t147 = 16 then ((group_Both.f 12 10).bind fun t149 => (if t149 = 8 then ((group_Less.f 12 10).bind fun t150 => (some (t150 == 4))) else (none))) else (none)) else (none)) else (none)))) else (none))) else (none))) else (none))) else (none))) else (none))) else (none))) else (none))))))) else (none))) else (none))) else (none))) else (none))) else (none))) else (none))) else (none)) else (none)) else (none)) else (none)) else (none)) else (none)) else (none))) else (none))) else (none)) else (none))) else (none))) else (none))))
def vesperslaw03_GroupNames.f (k : Nat)  : Option (Bool) := (group_Of.f k (([7, 7] : List Int))).bind fun bt104 => ((group_Of.f k ([] : List Int)).bind fun bt106 => ((group_Of.f k (([0, 16] : List Int))).bind fun bt111 => ((group_Of.f k (([(-1)] : List Int))).bind fun bt116 => ((some (([(⟨#[52, 49]⟩ : ByteArray), (⟨#[49, 49]⟩ : ByteArray), (⟨#[103]⟩ : ByteArray), (⟨#[]⟩ : ByteArray), (⟨#[45, 45]⟩ : ByteArray), (⟨#[45, 49]⟩ : ByteArray), (⟨#[49, 45]⟩ : ByteArray), (⟨#[65]⟩ : ByteArray), (⟨#[32]⟩ : ByteArray), (⟨#[48, 49, 50, 51, 52, 53, 54, 55, 56, 57, 97, 98, 99, 100, 101, 102, 48]⟩ : ByteArray)] : List ByteArray) : List ByteArray)).bind fun y118 => (vesperslaw03_GroupNames.l0 k bt104.1 bt104.2 bt106.1 bt106.2 bt111.2 bt116.2 0 y118 (y118.length : Int) 0)))))
theorem vesperslaw03_GroupNames.mono_l : ∀ k, (∀ y0 y1 y2 y3 y4 y5 y6 y7 y8 y9, LeO (vesperslaw03_GroupNames.l0 k y0 y1 y2 y3 y4 y5 y6 y7 y8 y9) (vesperslaw03_GroupNames.l0 (k + 1) y0 y1 y2 y3 y4 y5 y6 y7 y8 y9))
  | 0 => fun _ _ _ _ _ _ _ _ _ _ r h => by simp [vesperslaw03_GroupNames.l0] at h
  | k + 1 => by
    have ih0 := vesperslaw03_GroupNames.mono_l k
    · intro y0 y1 y2 y3 y4 y5 y6 y7 y8 y9
      unfold vesperslaw03_GroupNames.l0
      repeat' first
      | (with_reducible exact ih0 _ _ _ _ _ _ _ _ _ _)
      | (with_reducible exact group_Of.mono _ _)
      | (with_reducible exact vesperslaw03_alive.mono _)
      | (with_reducible exact LeO.refl _)
      | (with_reducible exact LeO.none _)
      | (with_reducible refine LeO.ite ?_ ?_)
      | (with_reducible refine LeO.bind ?_ (fun _ => ?_))
      | exact ih0 _ _ _ _ _ _ _ _ _ _
      | exact group_Of.mono _ _
      | exact vesperslaw03_alive.mono _
      | exact LeO.none _
      | refine LeO.ite ?_ ?_
      | refine LeO.bind ?_ (fun _ => ?_)
theorem vesperslaw03_GroupNames.mono : ∀ k, LeO (vesperslaw03_GroupNames.f k ) (vesperslaw03_GroupNames.f (k + 1) ) := by
  intro  k
  have ih0 := vesperslaw03_GroupNames.mono_l k
  unfold vesperslaw03_GroupNames.f
  repeat' first
      | (with_reducible exact ih0 _ _ _ _ _ _ _ _ _ _)
      | (with_reducible exact group_Of.mono _ _)
      | (with_reducible exact vesperslaw03_alive.mono _)
      | (with_reducible exact LeO.refl _)
      | (with_reducible exact LeO.none _)
      | (with_reducible refine LeO.ite ?_ ?_)
      | (with_reducible refine LeO.bind ?_ (fun _ => ?_))
      | exact ih0 _ _ _ _ _ _ _ _ _ _
      | exact group_Of.mono _ _
      | exact vesperslaw03_alive.mono _
      | exact LeO.none _
      | refine LeO.ite ?_ ?_
      | refine LeO.bind ?_ (fun _ => ?_)
set_option maxHeartbeats 8000000 in
set_option maxRecDepth 100000 in
theorem vesperslaw03_GroupNames.calls (k : Nat)  (r : Bool) (w : World) (hm : MaxAt w) (h : vesperslaw03_GroupNames.f k  = some r) :
    Calls Try.prog 10 #[] w fun e w' => e = .returned (.bool r) ∧ Below w.heap.size w w' := by
  have HB := Aside0.mk (Below.refl w.heap.size w)
  have H : ((group_Of.f k (([7, 7] : List Int))).bind fun bt104 => ((group_Of.f k ([] : List Int)).bind fun bt106 => ((group_Of.f k (([0, 16] : List Int))).bind fun bt111 => ((group_Of.f k (([(-1)] : List Int))).bind fun bt116 => ((some (([(⟨#[52, 49]⟩ : ByteArray), (⟨#[49, 49]⟩ : ByteArray), (⟨#[103]⟩ : ByteArray), (⟨#[]⟩ : ByteArray), (⟨#[45, 45]⟩ : ByteArray), (⟨#[45, 49]⟩ : ByteArray), (⟨#[49, 45]⟩ : ByteArray), (⟨#[65]⟩ : ByteArray), (⟨#[32]⟩ : ByteArray), (⟨#[48, 49, 50, 51, 52, 53, 54, 55, 56, 57, 97, 98, 99, 100, 101, 102, 48]⟩ : ByteArray)] : List ByteArray) : List ByteArray)).bind fun y118 => (vesperslaw03_GroupNames.l0 k bt104.1 bt104.2 bt106.1 bt106.2 bt111.2 bt116.2 0 y118 (y118.length : Int) 0)))))) = some r := h
  clear h
  obtain ⟨y101, hy101⟩ : ∃ y_ : List Int, y_ = (([7, 7] : List Int)) := ⟨_, rfl⟩
  replace H : ((group_Of.f k y101).bind fun bt104 => ((group_Of.f k ([] : List Int)).bind fun bt106 => ((group_Of.f k (([0, 16] : List Int))).bind fun bt111 => ((group_Of.f k (([(-1)] : List Int))).bind fun bt116 => ((some (([(⟨#[52, 49]⟩ : ByteArray), (⟨#[49, 49]⟩ : ByteArray), (⟨#[103]⟩ : ByteArray), (⟨#[]⟩ : ByteArray), (⟨#[45, 45]⟩ : ByteArray), (⟨#[45, 49]⟩ : ByteArray), (⟨#[49, 45]⟩ : ByteArray), (⟨#[65]⟩ : ByteArray), (⟨#[32]⟩ : ByteArray), (⟨#[48, 49, 50, 51, 52, 53, 54, 55, 56, 57, 97, 98, 99, 100, 101, 102, 48]⟩ : ByteArray)] : List ByteArray) : List ByteArray)).bind fun y118 => (vesperslaw03_GroupNames.l0 k bt104.1 bt104.2 bt106.1 bt106.2 bt111.2 bt116.2 0 y118 (y118.length : Int) 0)))))) = some r := by first | (rw [hy101]; with_reducible exact H) | (have H2_ := (Option.bind_some _ _).symm.trans H; rw [hy101]; with_reducible exact H2_) | (have H2_ := (Option.bind_some _ _).symm.trans H; with_reducible exact H2_) | with_reducible exact H | (rw [hy101]; exact H) | exact H
  have Ny101 := Aside0.mk hy101
  clear hy101
  replace H := Option.bind_eq_some_iff.mp H
  obtain ⟨⟨t104, t105⟩, A10, H⟩ := H
  replace H : ((group_Of.f k ([] : List Int)).bind fun bt106 => ((group_Of.f k (([0, 16] : List Int))).bind fun bt111 => ((group_Of.f k (([(-1)] : List Int))).bind fun bt116 => ((some (([(⟨#[52, 49]⟩ : ByteArray), (⟨#[49, 49]⟩ : ByteArray), (⟨#[103]⟩ : ByteArray), (⟨#[]⟩ : ByteArray), (⟨#[45, 45]⟩ : ByteArray), (⟨#[45, 49]⟩ : ByteArray), (⟨#[49, 45]⟩ : ByteArray), (⟨#[65]⟩ : ByteArray), (⟨#[32]⟩ : ByteArray), (⟨#[48, 49, 50, 51, 52, 53, 54, 55, 56, 57, 97, 98, 99, 100, 101, 102, 48]⟩ : ByteArray)] : List ByteArray) : List ByteArray)).bind fun y118 => (vesperslaw03_GroupNames.l0 k t104 t105 bt106.1 bt106.2 bt111.2 bt116.2 0 y118 (y118.length : Int) 0))))) = some r := H
  have A1 := Aside0.mk A10
  clear A10
  replace H := Option.bind_eq_some_iff.mp H
  obtain ⟨⟨t106, t107⟩, A20, H⟩ := H
  replace H : ((group_Of.f k (([0, 16] : List Int))).bind fun bt111 => ((group_Of.f k (([(-1)] : List Int))).bind fun bt116 => ((some (([(⟨#[52, 49]⟩ : ByteArray), (⟨#[49, 49]⟩ : ByteArray), (⟨#[103]⟩ : ByteArray), (⟨#[]⟩ : ByteArray), (⟨#[45, 45]⟩ : ByteArray), (⟨#[45, 49]⟩ : ByteArray), (⟨#[49, 45]⟩ : ByteArray), (⟨#[65]⟩ : ByteArray), (⟨#[32]⟩ : ByteArray), (⟨#[48, 49, 50, 51, 52, 53, 54, 55, 56, 57, 97, 98, 99, 100, 101, 102, 48]⟩ : ByteArray)] : List ByteArray) : List ByteArray)).bind fun y118 => (vesperslaw03_GroupNames.l0 k t104 t105 t106 t107 bt111.2 bt116.2 0 y118 (y118.length : Int) 0)))) = some r := H
  have A2 := Aside0.mk A20
  clear A20
  obtain ⟨y108, hy108⟩ : ∃ y_ : List Int, y_ = (([0, 16] : List Int)) := ⟨_, rfl⟩
  replace H : ((group_Of.f k y108).bind fun bt111 => ((group_Of.f k (([(-1)] : List Int))).bind fun bt116 => ((some (([(⟨#[52, 49]⟩ : ByteArray), (⟨#[49, 49]⟩ : ByteArray), (⟨#[103]⟩ : ByteArray), (⟨#[]⟩ : ByteArray), (⟨#[45, 45]⟩ : ByteArray), (⟨#[45, 49]⟩ : ByteArray), (⟨#[49, 45]⟩ : ByteArray), (⟨#[65]⟩ : ByteArray), (⟨#[32]⟩ : ByteArray), (⟨#[48, 49, 50, 51, 52, 53, 54, 55, 56, 57, 97, 98, 99, 100, 101, 102, 48]⟩ : ByteArray)] : List ByteArray) : List ByteArray)).bind fun y118 => (vesperslaw03_GroupNames.l0 k t104 t105 t106 t107 bt111.2 bt116.2 0 y118 (y118.length : Int) 0)))) = some r := by first | (rw [hy108]; with_reducible exact H) | (have H2_ := (Option.bind_some _ _).symm.trans H; rw [hy108]; with_reducible exact H2_) | (have H2_ := (Option.bind_some _ _).symm.trans H; with_reducible exact H2_) | with_reducible exact H | (rw [hy108]; exact H) | exact H
  have Ny108 := Aside0.mk hy108
  clear hy108
  replace H := Option.bind_eq_some_iff.mp H
  obtain ⟨⟨t111, t112⟩, A30, H⟩ := H
  replace H : ((group_Of.f k (([(-1)] : List Int))).bind fun bt116 => ((some (([(⟨#[52, 49]⟩ : ByteArray), (⟨#[49, 49]⟩ : ByteArray), (⟨#[103]⟩ : ByteArray), (⟨#[]⟩ : ByteArray), (⟨#[45, 45]⟩ : ByteArray), (⟨#[45, 49]⟩ : ByteArray), (⟨#[49, 45]⟩ : ByteArray), (⟨#[65]⟩ : ByteArray), (⟨#[32]⟩ : ByteArray), (⟨#[48, 49, 50, 51, 52, 53, 54, 55, 56, 57, 97, 98, 99, 100, 101, 102, 48]⟩ : ByteArray)] : List ByteArray) : List ByteArray)).bind fun y118 => (vesperslaw03_GroupNames.l0 k t104 t105 t106 t107 t112 bt116.2 0 y118 (y118.length : Int) 0))) = some r := H
  have A3 := Aside0.mk A30
  clear A30
  obtain ⟨y113, hy113⟩ : ∃ y_ : List Int, y_ = (([(-1)] : List Int)) := ⟨_, rfl⟩
  replace H : ((group_Of.f k y113).bind fun bt116 => ((some (([(⟨#[52, 49]⟩ : ByteArray), (⟨#[49, 49]⟩ : ByteArray), (⟨#[103]⟩ : ByteArray), (⟨#[]⟩ : ByteArray), (⟨#[45, 45]⟩ : ByteArray), (⟨#[45, 49]⟩ : ByteArray), (⟨#[49, 45]⟩ : ByteArray), (⟨#[65]⟩ : ByteArray), (⟨#[32]⟩ : ByteArray), (⟨#[48, 49, 50, 51, 52, 53, 54, 55, 56, 57, 97, 98, 99, 100, 101, 102, 48]⟩ : ByteArray)] : List ByteArray) : List ByteArray)).bind fun y118 => (vesperslaw03_GroupNames.l0 k t104 t105 t106 t107 t112 bt116.2 0 y118 (y118.length : Int) 0))) = some r := by first | (rw [hy113]; with_reducible exact H) | (have H2_ := (Option.bind_some _ _).symm.trans H; rw [hy113]; with_reducible exact H2_) | (have H2_ := (Option.bind_some _ _).symm.trans H; with_reducible exact H2_) | with_reducible exact H | (rw [hy113]; exact H) | exact H
  have Ny113 := Aside0.mk hy113
  clear hy113
  replace H := Option.bind_eq_some_iff.mp H
  obtain ⟨⟨t116, t117⟩, A40, H⟩ := H
  replace H : ((some (([(⟨#[52, 49]⟩ : ByteArray), (⟨#[49, 49]⟩ : ByteArray), (⟨#[103]⟩ : ByteArray), (⟨#[]⟩ : ByteArray), (⟨#[45, 45]⟩ : ByteArray), (⟨#[45, 49]⟩ : ByteArray), (⟨#[49, 45]⟩ : ByteArray), (⟨#[65]⟩ : ByteArray), (⟨#[32]⟩ : ByteArray), (⟨#[48, 49, 50, 51, 52, 53, 54, 55, 56, 57, 97, 98, 99, 100, 101, 102, 48]⟩ : ByteArray)] : List ByteArray) : List ByteArray)).bind fun y118 => (vesperslaw03_GroupNames.l0 k t104 t105 t106 t107 t112 t117 0 y118 (y118.length : Int) 0)) = some r := H
  have A4 := Aside0.mk A40
  clear A40
  obtain ⟨y118, hy118⟩ : ∃ y_ : List ByteArray, y_ = (([(⟨#[52, 49]⟩ : ByteArray), (⟨#[49, 49]⟩ : ByteArray), (⟨#[103]⟩ : ByteArray), (⟨#[]⟩ : ByteArray), (⟨#[45, 45]⟩ : ByteArray), (⟨#[45, 49]⟩ : ByteArray), (⟨#[49, 45]⟩ : ByteArray), (⟨#[65]⟩ : ByteArray), (⟨#[32]⟩ : ByteArray), (⟨#[48, 49, 50, 51, 52, 53, 54, 55, 56, 57, 97, 98, 99, 100, 101, 102, 48]⟩ : ByteArray)] : List ByteArray)) := ⟨_, rfl⟩
  replace H : (vesperslaw03_GroupNames.l0 k t104 t105 t106 t107 t112 t117 0 y118 (y118.length : Int) 0) = some r := by first | (rw [hy118]; with_reducible exact H) | (have H2_ := (Option.bind_some _ _).symm.trans H; rw [hy118]; with_reducible exact H2_) | (have H2_ := (Option.bind_some _ _).symm.trans H; with_reducible exact H2_) | with_reducible exact H | (rw [hy118]; exact H) | exact H
  have Ny118 := Aside0.mk hy118
  clear hy118
  have H' := Aside0.mk H
  clear H
  go_enter Try.func10, Try.ntmps10
  go_wp2_with (first | ((with_reducible refine gate_dst (N := 21) rfl ?_); refine Kd.R_lit (Kd.int .i64) _ 3 ?hg (N := 21) ?hd (xs := ([7, 7] : List Int)) (inner := [.int .i64 7, .int .i64 7]) (ok := fun _ => True) (okp := fun _ => True) ?hr ?hp (fun _ hk => hk) trivial (Below.refl _ _) (Nat.le_refl _) (by simp) ?_; (case hd => rfl); (case hg => rfl); (case hr => first | (go_simp; done) | (go_simp; rfl)); (case hp => exact (Reps.one (show Kd.M (Kd.int .i64) _ _ _ 7 [.int .i64 7] from rfl) (Reps.one (show Kd.M (Kd.int .i64) _ _ _ 7 [.int .i64 7] from rfl) (Reps.none _ _)))); intro v102 w5 ho6 hb hg_ hnew_; clear hg_ hnew_; (first | rw [← Ny101.out] at ho6 | (simp only [Int.reduceToNat] at ho6; rw [← Ny101.out] at ho6)); have n0_ := Aside0.mk (Kd.R_lower ho6 (below_size (by repeat (first | (with_reducible first | exact HB.out | apply below_alloc | apply pw_below_drewN | apply below_drew1) | exact HB.out)))); have n1_ := Aside0.mk (below_step (by repeat (first | (with_reducible first | exact HB.out | apply below_alloc | apply pw_below_drewN | apply below_drew1) | exact HB.out)) hb); clear HB; have HO103 := n0_; have HB := n1_; clear n0_ n1_; clear hb ho6; obtain ⟨Ao7, co7, eo7⟩ := Kd.R_slice HO103.out; subst eo7) | ((with_reducible refine gate_callee (f := 33) rfl ?_); refine goesL_ (some 22) rfl rfl Try.func33 (by kernel_rfl) rfl #[.slice Ao7 y101.length co7] rfl (by (try simp only [List.map_toArray, List.map_cons, List.map_nil]); first | done | rfl | (simp only [List.length_drop, List.length_take]; rfl)) ?_; (with_reducible refine (group_Of.calls k _ _ y101 t104 t105 _ ?side1 ?side2 A1.out).mono ?_); (case side1 => repeat (first | exact (Kd.R_reads' HO103.out).2.2 | (with_reducible refine Kd.C_alloc ?_ _) | (with_reducible refine Kd.C_drewN ?_ _) | (with_reducible refine Kd.C_drew ?_))); (case side2 => exact (Kd.R_reads' HO103.out).2.1); rintro e w' ⟨rfl, ⟨nd, rfl⟩⟩; refine ⟨_, rfl, ?_⟩) | ((with_reducible refine gate_callee (f := 33) rfl ?_); refine goesL_ (some 26) rfl rfl Try.func33 (by kernel_rfl) rfl #[.slice none 0 0] rfl (by (try simp only [List.map_toArray, List.map_cons, List.map_nil]); first | done | rfl | (simp only [List.length_drop, List.length_take]; rfl)) ?_; (refine (group_Of.calls k _ _ ([] : List Int) t106 t107 _ ?side1 ?side2 A2.out).mono ?_); (case side1 => exact Kd.C_nil _ _); (case side2 => exact Nat.le_refl _); rintro e w' ⟨rfl, ⟨nd, rfl⟩⟩; refine ⟨_, rfl, ?_⟩) | ((with_reducible refine gate_dst (N := 30) rfl ?_); refine Kd.R_lit (Kd.int .i64) _ 3 ?hg (N := 30) ?hd (xs := ([0, 16] : List Int)) (inner := [.int .i64 0, .int .i64 16]) (ok := fun _ => True) (okp := fun _ => True) ?hr ?hp (fun _ hk => hk) trivial (Below.refl _ _) (Nat.le_refl _) (by simp) ?_; (case hd => rfl); (case hg => rfl); (case hr => first | (go_simp; done) | (go_simp; rfl)); (case hp => exact (Reps.one (show Kd.M (Kd.int .i64) _ _ _ 0 [.int .i64 0] from rfl) (Reps.one (show Kd.M (Kd.int .i64) _ _ _ 16 [.int .i64 16] from rfl) (Reps.none _ _)))); intro v109 w8 ho9 hb hg_ hnew_; clear hg_ hnew_; (first | rw [← Ny108.out] at ho9 | (simp only [Int.reduceToNat] at ho9; rw [← Ny108.out] at ho9)); have n0_ := Aside0.mk (Kd.R_elder' (by (with_reducible repeat (first | apply Kd.R_alloc | apply Kd.R_drewN | apply Kd.R_drew)); exact HO103.out) (Kd.R_base ho9) hb); have n1_ := Aside0.mk (Kd.R_lower (Kd.R_new' ho9 (Kd.R_lt (by (with_reducible repeat (first | apply Kd.R_alloc | apply Kd.R_drewN | apply Kd.R_drew)); exact HO103.out))) (below_size (by repeat (first | (with_reducible first | exact HB.out | apply below_alloc | apply pw_below_drewN | apply below_drew1) | exact HB.out)))); have n2_ := Aside0.mk (below_step (by repeat (first | (with_reducible first | exact HB.out | apply below_alloc | apply pw_below_drewN | apply below_drew1) | exact HB.out)) hb); clear HO103; clear HB; have HO103 := n0_; have HO110 := n1_; have HB := n2_; clear n0_ n1_ n2_; clear hb ho9; obtain ⟨Ao10, co10, eo10⟩ := Kd.R_slice HO110.out; subst eo10) | ((with_reducible refine gate_callee (f := 33) rfl ?_); refine goesL_ (some 31) rfl rfl Try.func33 (by kernel_rfl) rfl #[.slice Ao10 y108.length co10] rfl (by (try simp only [List.map_toArray, List.map_cons, List.map_nil]); first | done | rfl | (simp only [List.length_drop, List.length_take]; rfl)) ?_; (with_reducible refine (group_Of.calls k _ _ y108 t111 t112 _ ?side1 ?side2 A3.out).mono ?_); (case side1 => repeat (first | exact (Kd.R_reads' HO110.out).2.2 | (with_reducible refine Kd.C_alloc ?_ _) | (with_reducible refine Kd.C_drewN ?_ _) | (with_reducible refine Kd.C_drew ?_))); (case side2 => exact (Kd.R_reads' HO110.out).2.1); rintro e w' ⟨rfl, ⟨nd, rfl⟩⟩; refine ⟨_, rfl, ?_⟩) | ((with_reducible refine gate_dst (N := 35) rfl ?_); refine Kd.R_lit (Kd.int .i64) _ 3 ?hg (N := 35) ?hd (xs := ([(-1)] : List Int)) (inner := [.int .i64 (-1)]) (ok := fun _ => True) (okp := fun _ => True) ?hr ?hp (fun _ hk => hk) trivial (Below.refl _ _) (Nat.le_refl _) (by simp) ?_; (case hd => rfl); (case hg => rfl); (case hr => first | (go_simp; done) | (go_simp; rfl)); (case hp => exact (Reps.one (show Kd.M (Kd.int .i64) _ _ _ (-1) [.int .i64 (-1)] from rfl) (Reps.none _ _))); intro v114 w11 ho12 hb hg_ hnew_; clear hg_ hnew_; (first | rw [← Ny113.out] at ho12 | (simp only [Int.reduceToNat] at ho12; rw [← Ny113.out] at ho12)); have n0_ := Aside0.mk (Kd.R_elder' (by (with_reducible repeat (first | apply Kd.R_alloc | apply Kd.R_drewN | apply Kd.R_drew)); exact HO103.out) (Kd.R_base ho12) hb); have n1_ := Aside0.mk (Kd.R_elder' (by (with_reducible repeat (first | apply Kd.R_alloc | apply Kd.R_drewN | apply Kd.R_drew)); exact HO110.out) (Kd.R_base ho12) hb); have n2_ := Aside0.mk (Kd.R_lower (Kd.R_new' (Kd.R_new' ho12 (Kd.R_lt (by (with_reducible repeat (first | apply Kd.R_alloc | apply Kd.R_drewN | apply Kd.R_drew)); exact HO103.out))) (Kd.R_lt (by (with_reducible repeat (first | apply Kd.R_alloc | apply Kd.R_drewN | apply Kd.R_drew)); exact HO110.out))) (below_size (by repeat (first | (with_reducible first | exact HB.out | apply below_alloc | apply pw_below_drewN | apply below_drew1) | exact HB.out)))); have n3_ := Aside0.mk (below_step (by repeat (first | (with_reducible first | exact HB.out | apply below_alloc | apply pw_below_drewN | apply below_drew1) | exact HB.out)) hb); clear HO103; clear HO110; clear HB; have HO103 := n0_; have HO110 := n1_; have HO115 := n2_; have HB := n3_; clear n0_ n1_ n2_ n3_; clear hb ho12; obtain ⟨Ao13, co13, eo13⟩ := Kd.R_slice HO115.out; subst eo13) | ((with_reducible refine gate_callee (f := 33) rfl ?_); refine goesL_ (some 36) rfl rfl Try.func33 (by kernel_rfl) rfl #[.slice Ao13 y113.length co13] rfl (by (try simp only [List.map_toArray, List.map_cons, List.map_nil]); first | done | rfl | (simp only [List.length_drop, List.length_take]; rfl)) ?_; (with_reducible refine (group_Of.calls k _ _ y113 t116 t117 _ ?side1 ?side2 A4.out).mono ?_); (case side1 => repeat (first | exact (Kd.R_reads' HO115.out).2.2 | (with_reducible refine Kd.C_alloc ?_ _) | (with_reducible refine Kd.C_drewN ?_ _) | (with_reducible refine Kd.C_drew ?_))); (case side2 => exact (Kd.R_reads' HO115.out).2.1); rintro e w' ⟨rfl, ⟨nd, rfl⟩⟩; refine ⟨_, rfl, ?_⟩) | ((with_reducible refine gate_dst (N := 39) rfl ?_); refine Kd.R_lit Kd.string _ 9 ?hg (N := 39) ?hd (xs := ([(⟨#[52, 49]⟩ : ByteArray), (⟨#[49, 49]⟩ : ByteArray), (⟨#[103]⟩ : ByteArray), (⟨#[]⟩ : ByteArray), (⟨#[45, 45]⟩ : ByteArray), (⟨#[45, 49]⟩ : ByteArray), (⟨#[49, 45]⟩ : ByteArray), (⟨#[65]⟩ : ByteArray), (⟨#[32]⟩ : ByteArray), (⟨#[48, 49, 50, 51, 52, 53, 54, 55, 56, 57, 97, 98, 99, 100, 101, 102, 48]⟩ : ByteArray)] : List ByteArray)) (inner := [.string (⟨#[52, 49]⟩ : ByteArray), .string (⟨#[49, 49]⟩ : ByteArray), .string (⟨#[103]⟩ : ByteArray), .string (⟨#[]⟩ : ByteArray), .string (⟨#[45, 45]⟩ : ByteArray), .string (⟨#[45, 49]⟩ : ByteArray), .string (⟨#[49, 45]⟩ : ByteArray), .string (⟨#[65]⟩ : ByteArray), .string (⟨#[32]⟩ : ByteArray), .string (⟨#[48, 49, 50, 51, 52, 53, 54, 55, 56, 57, 97, 98, 99, 100, 101, 102, 48]⟩ : ByteArray)]) (ok := fun _ => True) (okp := fun _ => True) ?hr ?hp (fun _ hk => hk) trivial (Below.refl _ _) (Nat.le_refl _) (by simp) ?_; (case hd => rfl); (case hg => rfl); (case hr => first | (go_simp; done) | (go_simp; rfl)); (case hp => exact (Reps.one (show Kd.M Kd.string _ _ _ (⟨#[52, 49]⟩ : ByteArray) [.string (⟨#[52, 49]⟩ : ByteArray)] from rfl) (Reps.one (show Kd.M Kd.string _ _ _ (⟨#[49, 49]⟩ : ByteArray) [.string (⟨#[49, 49]⟩ : ByteArray)] from rfl) (Reps.one (show Kd.M Kd.string _ _ _ (⟨#[103]⟩ : ByteArray) [.string (⟨#[103]⟩ : ByteArray)] from rfl) (Reps.one (show Kd.M Kd.string _ _ _ (⟨#[]⟩ : ByteArray) [.string (⟨#[]⟩ : ByteArray)] from rfl) (Reps.one (show Kd.M Kd.string _ _ _ (⟨#[45, 45]⟩ : ByteArray) [.string (⟨#[45, 45]⟩ : ByteArray)] from rfl) (Reps.one (show Kd.M Kd.string _ _ _ (⟨#[45, 49]⟩ : ByteArray) [.string (⟨#[45, 49]⟩ : ByteArray)] from rfl) (Reps.one (show Kd.M Kd.string _ _ _ (⟨#[49, 45]⟩ : ByteArray) [.string (⟨#[49, 45]⟩ : ByteArray)] from rfl) (Reps.one (show Kd.M Kd.string _ _ _ (⟨#[65]⟩ : ByteArray) [.string (⟨#[65]⟩ : ByteArray)] from rfl) (Reps.one (show Kd.M Kd.string _ _ _ (⟨#[32]⟩ : ByteArray) [.string (⟨#[32]⟩ : ByteArray)] from rfl) (Reps.one (show Kd.M Kd.string _ _ _ (⟨#[48, 49, 50, 51, 52, 53, 54, 55, 56, 57, 97, 98, 99, 100, 101, 102, 48]⟩ : ByteArray) [.string (⟨#[48, 49, 50, 51, 52, 53, 54, 55, 56, 57, 97, 98, 99, 100, 101, 102, 48]⟩ : ByteArray)] from rfl) (Reps.none _ _)))))))))))); intro v119 w14 ho15 hb hg_ hnew_; clear hg_ hnew_; (first | rw [← Ny118.out] at ho15 | (simp only [Int.reduceToNat] at ho15; rw [← Ny118.out] at ho15)); have n0_ := Aside0.mk (Kd.R_below (by (with_reducible repeat (first | apply Kd.R_alloc | apply Kd.R_drewN | apply Kd.R_drew)); exact HO103.out) hb); have n1_ := Aside0.mk (Kd.R_below (by (with_reducible repeat (first | apply Kd.R_alloc | apply Kd.R_drewN | apply Kd.R_drew)); exact HO110.out) hb); have n2_ := Aside0.mk (Kd.R_below (by (with_reducible repeat (first | apply Kd.R_alloc | apply Kd.R_drewN | apply Kd.R_drew)); exact HO115.out) hb); have n3_ := Aside0.mk (Kd.R_lower ho15 (below_size (by repeat (first | (with_reducible first | exact HB.out | apply below_alloc | apply pw_below_drewN | apply below_drew1) | exact HB.out)))); have n4_ := Aside0.mk (below_step (by repeat (first | (with_reducible first | exact HB.out | apply below_alloc | apply pw_below_drewN | apply below_drew1) | exact HB.out)) hb); clear HO103; clear HO110; clear HO115; clear HB; have HO103 := n0_; have HO110 := n1_; have HO115 := n2_; have HO120 := n3_; have HB := n4_; clear n0_ n1_ n2_ n3_ n4_; clear hb ho15; obtain ⟨Ao16, co16, eo16⟩ := Kd.R_slice HO120.out; subst eo16))
  go_loopg [9, 41] k (fun kq v9 v41 w' => ∃ (x9_1 : Int) (x41_1 : Int), v9 = .int .i64 x9_1 ∧ v41 = .int .i64 x41_1 ∧ Aside0 (vesperslaw03_GroupNames.l0 kq t104 t105 t106 t107 t112 t117 x9_1 y118 (y118.length : Int) x41_1 = some r) ∧ Aside0 (kq ≤ k) ∧ Aside0 (Kd.R Kd.string 9 w' w.heap.size (fun _ => True) (.slice Ao16 y118.length co16) y118) ∧ Aside0 (Below w.heap.size w w'))
  case atStart => exact ⟨(0), (0), (by first | rfl | (simp; done) | (simp [*]; done)), (by first | rfl | (simp; done) | (simp [*]; done)), H', ⟨Nat.le_refl _⟩, ⟨by (with_reducible repeat (first | apply Kd.R_alloc | apply Kd.R_drewN | apply Kd.R_drew)); exact HO120.out⟩, ⟨by repeat (first | (with_reducible first | exact HB.out | apply below_alloc | apply pw_below_drewN | apply below_drew1) | exact HB.out)⟩⟩
  case round =>
    clear H'
    try clear c1
    try clear p2
    try clear c3
    try clear c10
    obtain ⟨x9_1, x41_1, rfl, rfl, HA, HK1, HO_39, HB⟩ := hrel
    cases gk with
    | zero => exact absurd HA.out (by simp [vesperslaw03_GroupNames.l0])
    | succ k1 =>
      have H := HA.out
      clear HA
      simp only [vesperslaw03_GroupNames.l0] at H
      by_cases c17 : x41_1 < (y118.length : Int)
      · rw [if_pos c17] at H
        have c17b0 : decide (x41_1 < (y118.length : Int)) = true := decide_eq_true c17
        clear c17
        by_cases c18 : 0 ≤ x41_1
        · rw [if_pos c18] at H
          have c18b0 : decide (0 ≤ x41_1) = true := decide_eq_true c18
          clear c18
          by_cases c19 : x41_1 < (y118.length : Int)
          · rw [if_pos c19] at H
            have c19b0 : decide (x41_1 < (y118.length : Int)) = true := decide_eq_true c19
            clear c19
            replace H := Option.bind_eq_some_iff.mp H
            obtain ⟨⟨t122, t123⟩, A200, H⟩ := H
            replace H : (if t123 = 2 then (if t122 = 0 then (vesperslaw03_GroupNames.l0 k1 t104 t105 t106 t107 t112 t117 (wrap64 (x9_1 + 1)) y118 (y118.length : Int) (wrap64 (x41_1 + 1))) else (vesperslaw03_GroupNames.l0 k1 t104 t105 t106 t107 t112 t117 x9_1 y118 (y118.length : Int) (wrap64 (x41_1 + 1)))) else (none)) = some r := H
            have A20 := Aside0.mk A200
            clear A200
            by_cases c21 : t123 = 2
            · rw [if_pos c21] at H
              have c21b0 : (t123 == 2) = true := beq_iff_eq.mpr c21
              have c21b1 : (t123 != 2) = false := bne_eq_false_iff_eq.mpr c21
              clear c21
              by_cases c22 : t122 = 0
              · rw [if_pos c22] at H
                have c22b0 : (t122 == 0) = true := beq_iff_eq.mpr c22
                have c22b1 : (t122 != 0) = false := bne_eq_false_iff_eq.mpr c22
                clear c22
                have H' := Aside0.mk H
                clear H
                have p121 : 0 ≤ (x41_1 : Int) := of_decide_eq_true (by first | (with_reducible assumption) | assumption)
                have q121 : x41_1 < (y118.length : Int) := of_decide_eq_true (by first | (with_reducible assumption) | assumption)
                obtain ⟨ad121, e121, hx121_0⟩ := Kd.at_string (Kd.R_reads' HO_39.out).2.2 x41_1 p121 q121
                cases e121
                replace p121 := eq_true p121
                replace q121 := eq_true q121
                go_wp2_with (first | ((with_reducible refine gate_callee (f := 36) rfl ?_); refine goesL_ (some 47) rfl rfl Try.func36 (by kernel_rfl) rfl #[.string (rdOf ByteArray.empty y118 x41_1)] rfl (by (try simp only [List.map_toArray, List.map_cons, List.map_nil]); first | done | rfl | (simp only [List.length_drop, List.length_take]; rfl)) ?_; (with_reducible refine (group_Parse.callsAt (rdOf ByteArray.empty y118 x41_1) t122 t123 _ (hm.below (n := 0) (by repeat (first | (with_reducible first | exact HB.out | apply below_alloc | apply pw_below_drewN | apply below_drew1) | exact HB.out))) A20.out).mono ?_); rintro e w23 ⟨rfl, hb⟩; refine ⟨_, rfl, ?_⟩; have n0_ := Aside0.mk (Kd.R_below (by (with_reducible repeat (first | apply Kd.R_alloc | apply Kd.R_drewN | apply Kd.R_drew)); exact HO_39.out) hb); have n1_ := Aside0.mk (below_step (by repeat (first | (with_reducible first | exact HB.out | apply below_alloc | apply pw_below_drewN | apply below_drew1) | exact HB.out)) hb); clear HO_39; clear HB; have HO_39 := n0_; have HB := n1_; clear n0_ n1_; (try clear hb); (try clear hb2); (try clear hk); (try clear hi)))
                go_roundg k1
                case measure => have := HK1.out; omega
                case rel => exact ⟨(wrap64 (x9_1 + 1)), (wrap64 (x41_1 + 1)), (by first | rfl | (simp; done) | (simp [*]; done)), (by first | rfl | (simp; done) | (simp [*]; done)), H', ⟨by have := HK1.out; omega⟩, ⟨by (with_reducible repeat (first | apply Kd.R_alloc | apply Kd.R_drewN | apply Kd.R_drew)); exact HO_39.out⟩, ⟨by repeat (first | (with_reducible first | exact HB.out | apply below_alloc | apply pw_below_drewN | apply below_drew1) | exact HB.out)⟩⟩
              · rw [if_neg c22] at H
                have c22b0 : (t122 == 0) = false := beq_eq_false_iff_ne.mpr c22
                have c22b1 : (t122 != 0) = true := bne_iff_ne.mpr c22
                have H' := Aside0.mk H
                clear H
                have p121 : 0 ≤ (x41_1 : Int) := of_decide_eq_true (by first | (with_reducible assumption) | assumption)
                have q121 : x41_1 < (y118.length : Int) := of_decide_eq_true (by first | (with_reducible assumption) | assumption)
                obtain ⟨ad121, e121, hx121_0⟩ := Kd.at_string (Kd.R_reads' HO_39.out).2.2 x41_1 p121 q121
                cases e121
                replace p121 := eq_true p121
                replace q121 := eq_true q121
                go_wp2_with (first | ((with_reducible refine gate_callee (f := 36) rfl ?_); refine goesL_ (some 47) rfl rfl Try.func36 (by kernel_rfl) rfl #[.string (rdOf ByteArray.empty y118 x41_1)] rfl (by (try simp only [List.map_toArray, List.map_cons, List.map_nil]); first | done | rfl | (simp only [List.length_drop, List.length_take]; rfl)) ?_; (with_reducible refine (group_Parse.callsAt (rdOf ByteArray.empty y118 x41_1) t122 t123 _ (hm.below (n := 0) (by repeat (first | (with_reducible first | exact HB.out | apply below_alloc | apply pw_below_drewN | apply below_drew1) | exact HB.out))) A20.out).mono ?_); rintro e w24 ⟨rfl, hb⟩; refine ⟨_, rfl, ?_⟩; have n0_ := Aside0.mk (Kd.R_below (by (with_reducible repeat (first | apply Kd.R_alloc | apply Kd.R_drewN | apply Kd.R_drew)); exact HO_39.out) hb); have n1_ := Aside0.mk (below_step (by repeat (first | (with_reducible first | exact HB.out | apply below_alloc | apply pw_below_drewN | apply below_drew1) | exact HB.out)) hb); clear HO_39; clear HB; have HO_39 := n0_; have HB := n1_; clear n0_ n1_; (try clear hb); (try clear hb2); (try clear hk); (try clear hi)))
                go_roundg k1
                case measure => have := HK1.out; omega
                case rel => exact ⟨(x9_1), (wrap64 (x41_1 + 1)), (by first | rfl | (simp; done) | (simp [*]; done)), (by first | rfl | (simp; done) | (simp [*]; done)), H', ⟨by have := HK1.out; omega⟩, ⟨by (with_reducible repeat (first | apply Kd.R_alloc | apply Kd.R_drewN | apply Kd.R_drew)); exact HO_39.out⟩, ⟨by repeat (first | (with_reducible first | exact HB.out | apply below_alloc | apply pw_below_drewN | apply below_drew1) | exact HB.out)⟩⟩
            · rw [if_neg c21] at H
              exact absurd H (by simp)
          · rw [if_neg c19] at H
            exact absurd H (by simp)
        · rw [if_neg c18] at H
          exact absurd H (by simp)
      · rw [if_neg c17] at H
        have c17b0 : decide (x41_1 < (y118.length : Int)) = false := decide_eq_false c17
        clear c17
        replace H := Option.bind_eq_some_iff.mp H
        obtain ⟨⟨t124, t125⟩, A250, H⟩ := H
        replace H : ((group_Parse.f (⟨#[45]⟩ : ByteArray)).bind fun bt126 => (if t105 = 0 then ((group_Next.f t104 7).bind fun t128 => (if t128 = 7 then ((group_Count.f t104).bind fun t129 => (if t129 = 1 then (if t107 = 0 then ((group_Next.f t106 7).bind fun t130 => (if t130 = (-1) then ((group_Text.f t106).bind fun t131 => (if t131.toList = ([45] : List UInt8) then (if t112 = 2 then (if t117 = 2 then (if x9_1 = 10 then (if t125 = 0 then (if t124 = 65535 then (if bt126.2 = 0 then ((group_First.f 0).bind fun t132 => (if t132 = 0 then ((group_First.f (-5)).bind fun t133 => (if t133 = 0 then ((group_First.f 3).bind fun t134 => (if t134 = 7 then ((group_First.f 16).bind fun t135 => (if t135 = 65535 then ((group_First.f 99).bind fun t136 => (if t136 = 65535 then ((group_Has.f t124 15).bind fun t137 => (if t137 = true then ((group_Has.f t124 16).bind fun t138 => (if t138 = true then (none) else ((group_Has.f t124 (-1)).bind fun t139 => (if t139 = true then (none) else ((group_With.f 0 16).bind fun t140 => (if t140 = 0 then ((group_Without.f t124 (-1)).bind fun t141 => (if t141 = t124 then ((group_Next.f t124 16).bind fun t142 => (if t142 = (-1) then ((group_Next.f t124 (-1)).bind fun t143 => (if t143 = (-1) then ((group_Next.f t124 15).bind fun t144 => (if t144 = 0 then ((group_Rank.f t124 5).bind fun t145 => (if t145 = 5 then ((group_Rank.f t124 (-3)).bind fun t146 => (if t146 = 0 then ((group_Rank.f t124 99).bind fun t147 => ((vesperslaw03_alive.f k1).bind fun t148 => (if t148 = true then (if bt126.1 = 0 then (if t147 = 16 then ((group_Both.f 12 10).bind fun t149 => (if t149 = 8 then ((group_Less.f 12 10).bind fun t150 => (some (t150 == 4))) else (none))) else (none)) else (none)) else (none)))) else (none))) else (none))) else (none))) else (none))) else (none))) else (none))) else (none))))))) else (none))) else (none))) else (none))) else (none))) else (none))) else (none))) else (none)) else (none)) else (none)) else (none)) else (none)) else (none)) else (none))) else (none))) else (none)) else (none))) else (none))) else (none))) = some r := H
        have A25 := Aside0.mk A250
        clear A250
        replace H := Option.bind_eq_some_iff.mp H
        obtain ⟨⟨t126, t127⟩, A260, H⟩ := H
        replace H : (if t105 = 0 then ((group_Next.f t104 7).bind fun t128 => (if t128 = 7 then ((group_Count.f t104).bind fun t129 => (if t129 = 1 then (if t107 = 0 then ((group_Next.f t106 7).bind fun t130 => (if t130 = (-1) then ((group_Text.f t106).bind fun t131 => (if t131.toList = ([45] : List UInt8) then (if t112 = 2 then (if t117 = 2 then (if x9_1 = 10 then (if t125 = 0 then (if t124 = 65535 then (if t127 = 0 then ((group_First.f 0).bind fun t132 => (if t132 = 0 then ((group_First.f (-5)).bind fun t133 => (if t133 = 0 then ((group_First.f 3).bind fun t134 => (if t134 = 7 then ((group_First.f 16).bind fun t135 => (if t135 = 65535 then ((group_First.f 99).bind fun t136 => (if t136 = 65535 then ((group_Has.f t124 15).bind fun t137 => (if t137 = true then ((group_Has.f t124 16).bind fun t138 => (if t138 = true then (none) else ((group_Has.f t124 (-1)).bind fun t139 => (if t139 = true then (none) else ((group_With.f 0 16).bind fun t140 => (if t140 = 0 then ((group_Without.f t124 (-1)).bind fun t141 => (if t141 = t124 then ((group_Next.f t124 16).bind fun t142 => (if t142 = (-1) then ((group_Next.f t124 (-1)).bind fun t143 => (if t143 = (-1) then ((group_Next.f t124 15).bind fun t144 => (if t144 = 0 then ((group_Rank.f t124 5).bind fun t145 => (if t145 = 5 then ((group_Rank.f t124 (-3)).bind fun t146 => (if t146 = 0 then ((group_Rank.f t124 99).bind fun t147 => ((vesperslaw03_alive.f k1).bind fun t148 => (if t148 = true then (if t126 = 0 then (if t147 = 16 then ((group_Both.f 12 10).bind fun t149 => (if t149 = 8 then ((group_Less.f 12 10).bind fun t150 => (some (t150 == 4))) else (none))) else (none)) else (none)) else (none)))) else (none))) else (none))) else (none))) else (none))) else (none))) else (none))) else (none))))))) else (none))) else (none))) else (none))) else (none))) else (none))) else (none))) else (none)) else (none)) else (none)) else (none)) else (none)) else (none)) else (none))) else (none))) else (none)) else (none))) else (none))) else (none)) = some r := H
        have A26 := Aside0.mk A260
        clear A260
        by_cases c27 : t105 = 0
        · rw [if_pos c27] at H
          have c27b0 : (t105 == 0) = true := beq_iff_eq.mpr c27
          have c27b1 : (t105 != 0) = false := bne_eq_false_iff_eq.mpr c27
          clear c27
          replace H := Option.bind_eq_some_iff.mp H
          obtain ⟨t128, A280, H⟩ := H
          replace H : (if t128 = 7 then ((group_Count.f t104).bind fun t129 => (if t129 = 1 then (if t107 = 0 then ((group_Next.f t106 7).bind fun t130 => (if t130 = (-1) then ((group_Text.f t106).bind fun t131 => (if t131.toList = ([45] : List UInt8) then (if t112 = 2 then (if t117 = 2 then (if x9_1 = 10 then (if t125 = 0 then (if t124 = 65535 then (if t127 = 0 then ((group_First.f 0).bind fun t132 => (if t132 = 0 then ((group_First.f (-5)).bind fun t133 => (if t133 = 0 then ((group_First.f 3).bind fun t134 => (if t134 = 7 then ((group_First.f 16).bind fun t135 => (if t135 = 65535 then ((group_First.f 99).bind fun t136 => (if t136 = 65535 then ((group_Has.f t124 15).bind fun t137 => (if t137 = true then ((group_Has.f t124 16).bind fun t138 => (if t138 = true then (none) else ((group_Has.f t124 (-1)).bind fun t139 => (if t139 = true then (none) else ((group_With.f 0 16).bind fun t140 => (if t140 = 0 then ((group_Without.f t124 (-1)).bind fun t141 => (if t141 = t124 then ((group_Next.f t124 16).bind fun t142 => (if t142 = (-1) then ((group_Next.f t124 (-1)).bind fun t143 => (if t143 = (-1) then ((group_Next.f t124 15).bind fun t144 => (if t144 = 0 then ((group_Rank.f t124 5).bind fun t145 => (if t145 = 5 then ((group_Rank.f t124 (-3)).bind fun t146 => (if t146 = 0 then ((group_Rank.f t124 99).bind fun t147 => ((vesperslaw03_alive.f k1).bind fun t148 => (if t148 = true then (if t126 = 0 then (if t147 = 16 then ((group_Both.f 12 10).bind fun t149 => (if t149 = 8 then ((group_Less.f 12 10).bind fun t150 => (some (t150 == 4))) else (none))) else (none)) else (none)) else (none)))) else (none))) else (none))) else (none))) else (none))) else (none))) else (none))) else (none))))))) else (none))) else (none))) else (none))) else (none))) else (none))) else (none))) else (none)) else (none)) else (none)) else (none)) else (none)) else (none)) else (none))) else (none))) else (none)) else (none))) else (none)) = some r := H
          have A28 := Aside0.mk A280
          clear A280
          by_cases c29 : t128 = 7
          · rw [if_pos c29] at H
            have c29b0 : (t128 == 7) = true := beq_iff_eq.mpr c29
            have c29b1 : (t128 != 7) = false := bne_eq_false_iff_eq.mpr c29
            clear c29
            replace H := Option.bind_eq_some_iff.mp H
            obtain ⟨t129, A300, H⟩ := H
            replace H : (if t129 = 1 then (if t107 = 0 then ((group_Next.f t106 7).bind fun t130 => (if t130 = (-1) then ((group_Text.f t106).bind fun t131 => (if t131.toList = ([45] : List UInt8) then (if t112 = 2 then (if t117 = 2 then (if x9_1 = 10 then (if t125 = 0 then (if t124 = 65535 then (if t127 = 0 then ((group_First.f 0).bind fun t132 => (if t132 = 0 then ((group_First.f (-5)).bind fun t133 => (if t133 = 0 then ((group_First.f 3).bind fun t134 => (if t134 = 7 then ((group_First.f 16).bind fun t135 => (if t135 = 65535 then ((group_First.f 99).bind fun t136 => (if t136 = 65535 then ((group_Has.f t124 15).bind fun t137 => (if t137 = true then ((group_Has.f t124 16).bind fun t138 => (if t138 = true then (none) else ((group_Has.f t124 (-1)).bind fun t139 => (if t139 = true then (none) else ((group_With.f 0 16).bind fun t140 => (if t140 = 0 then ((group_Without.f t124 (-1)).bind fun t141 => (if t141 = t124 then ((group_Next.f t124 16).bind fun t142 => (if t142 = (-1) then ((group_Next.f t124 (-1)).bind fun t143 => (if t143 = (-1) then ((group_Next.f t124 15).bind fun t144 => (if t144 = 0 then ((group_Rank.f t124 5).bind fun t145 => (if t145 = 5 then ((group_Rank.f t124 (-3)).bind fun t146 => (if t146 = 0 then ((group_Rank.f t124 99).bind fun t147 => ((vesperslaw03_alive.f k1).bind fun t148 => (if t148 = true then (if t126 = 0 then (if t147 = 16 then ((group_Both.f 12 10).bind fun t149 => (if t149 = 8 then ((group_Less.f 12 10).bind fun t150 => (some (t150 == 4))) else (none))) else (none)) else (none)) else (none)))) else (none))) else (none))) else (none))) else (none))) else (none))) else (none))) else (none))))))) else (none))) else (none))) else (none))) else (none))) else (none))) else (none))) else (none)) else (none)) else (none)) else (none)) else (none)) else (none)) else (none))) else (none))) else (none)) else (none)) = some r := H
            have A30 := Aside0.mk A300
            clear A300
            by_cases c31 : t129 = 1
            · rw [if_pos c31] at H
              have c31b0 : (t129 == 1) = true := beq_iff_eq.mpr c31
              have c31b1 : (t129 != 1) = false := bne_eq_false_iff_eq.mpr c31
              clear c31
              by_cases c32 : t107 = 0
              · rw [if_pos c32] at H
                have c32b0 : (t107 == 0) = true := beq_iff_eq.mpr c32
                have c32b1 : (t107 != 0) = false := bne_eq_false_iff_eq.mpr c32
                clear c32
                replace H := Option.bind_eq_some_iff.mp H
                obtain ⟨t130, A330, H⟩ := H
                replace H : (if t130 = (-1) then ((group_Text.f t106).bind fun t131 => (if t131.toList = ([45] : List UInt8) then (if t112 = 2 then (if t117 = 2 then (if x9_1 = 10 then (if t125 = 0 then (if t124 = 65535 then (if t127 = 0 then ((group_First.f 0).bind fun t132 => (if t132 = 0 then ((group_First.f (-5)).bind fun t133 => (if t133 = 0 then ((group_First.f 3).bind fun t134 => (if t134 = 7 then ((group_First.f 16).bind fun t135 => (if t135 = 65535 then ((group_First.f 99).bind fun t136 => (if t136 = 65535 then ((group_Has.f t124 15).bind fun t137 => (if t137 = true then ((group_Has.f t124 16).bind fun t138 => (if t138 = true then (none) else ((group_Has.f t124 (-1)).bind fun t139 => (if t139 = true then (none) else ((group_With.f 0 16).bind fun t140 => (if t140 = 0 then ((group_Without.f t124 (-1)).bind fun t141 => (if t141 = t124 then ((group_Next.f t124 16).bind fun t142 => (if t142 = (-1) then ((group_Next.f t124 (-1)).bind fun t143 => (if t143 = (-1) then ((group_Next.f t124 15).bind fun t144 => (if t144 = 0 then ((group_Rank.f t124 5).bind fun t145 => (if t145 = 5 then ((group_Rank.f t124 (-3)).bind fun t146 => (if t146 = 0 then ((group_Rank.f t124 99).bind fun t147 => ((vesperslaw03_alive.f k1).bind fun t148 => (if t148 = true then (if t126 = 0 then (if t147 = 16 then ((group_Both.f 12 10).bind fun t149 => (if t149 = 8 then ((group_Less.f 12 10).bind fun t150 => (some (t150 == 4))) else (none))) else (none)) else (none)) else (none)))) else (none))) else (none))) else (none))) else (none))) else (none))) else (none))) else (none))))))) else (none))) else (none))) else (none))) else (none))) else (none))) else (none))) else (none)) else (none)) else (none)) else (none)) else (none)) else (none)) else (none))) else (none)) = some r := H
                have A33 := Aside0.mk A330
                clear A330
                by_cases c34 : t130 = (-1)
                · rw [if_pos c34] at H
                  have c34b0 : (t130 == (-1)) = true := beq_iff_eq.mpr c34
                  have c34b1 : (t130 != (-1)) = false := bne_eq_false_iff_eq.mpr c34
                  clear c34
                  replace H := Option.bind_eq_some_iff.mp H
                  obtain ⟨t131, A350, H⟩ := H
                  replace H : (if t131.toList = ([45] : List UInt8) then (if t112 = 2 then (if t117 = 2 then (if x9_1 = 10 then (if t125 = 0 then (if t124 = 65535 then (if t127 = 0 then ((group_First.f 0).bind fun t132 => (if t132 = 0 then ((group_First.f (-5)).bind fun t133 => (if t133 = 0 then ((group_First.f 3).bind fun t134 => (if t134 = 7 then ((group_First.f 16).bind fun t135 => (if t135 = 65535 then ((group_First.f 99).bind fun t136 => (if t136 = 65535 then ((group_Has.f t124 15).bind fun t137 => (if t137 = true then ((group_Has.f t124 16).bind fun t138 => (if t138 = true then (none) else ((group_Has.f t124 (-1)).bind fun t139 => (if t139 = true then (none) else ((group_With.f 0 16).bind fun t140 => (if t140 = 0 then ((group_Without.f t124 (-1)).bind fun t141 => (if t141 = t124 then ((group_Next.f t124 16).bind fun t142 => (if t142 = (-1) then ((group_Next.f t124 (-1)).bind fun t143 => (if t143 = (-1) then ((group_Next.f t124 15).bind fun t144 => (if t144 = 0 then ((group_Rank.f t124 5).bind fun t145 => (if t145 = 5 then ((group_Rank.f t124 (-3)).bind fun t146 => (if t146 = 0 then ((group_Rank.f t124 99).bind fun t147 => ((vesperslaw03_alive.f k1).bind fun t148 => (if t148 = true then (if t126 = 0 then (if t147 = 16 then ((group_Both.f 12 10).bind fun t149 => (if t149 = 8 then ((group_Less.f 12 10).bind fun t150 => (some (t150 == 4))) else (none))) else (none)) else (none)) else (none)))) else (none))) else (none))) else (none))) else (none))) else (none))) else (none))) else (none))))))) else (none))) else (none))) else (none))) else (none))) else (none))) else (none))) else (none)) else (none)) else (none)) else (none)) else (none)) else (none)) else (none)) = some r := H
                  have A35 := Aside0.mk A350
                  clear A350
                  by_cases c36 : t131.toList = ([45] : List UInt8)
                  · rw [if_pos c36] at H
                    have c36b0 : (t131.toList == ([45] : List UInt8)) = true := beq_iff_eq.mpr c36
                    have c36b1 : (t131.toList != ([45] : List UInt8)) = false := bne_eq_false_iff_eq.mpr c36
                    clear c36
                    by_cases c37 : t112 = 2
                    · rw [if_pos c37] at H
                      have c37b0 : (t112 == 2) = true := beq_iff_eq.mpr c37
                      have c37b1 : (t112 != 2) = false := bne_eq_false_iff_eq.mpr c37
                      clear c37
                      by_cases c38 : t117 = 2
                      · rw [if_pos c38] at H
                        have c38b0 : (t117 == 2) = true := beq_iff_eq.mpr c38
                        have c38b1 : (t117 != 2) = false := bne_eq_false_iff_eq.mpr c38
                        clear c38
                        by_cases c39 : x9_1 = 10
                        · rw [if_pos c39] at H
                          have c39b0 : (x9_1 == 10) = true := beq_iff_eq.mpr c39
                          have c39b1 : (x9_1 != 10) = false := bne_eq_false_iff_eq.mpr c39
                          clear c39
                          by_cases c40 : t125 = 0
                          · rw [if_pos c40] at H
                            have c40b0 : (t125 == 0) = true := beq_iff_eq.mpr c40
                            have c40b1 : (t125 != 0) = false := bne_eq_false_iff_eq.mpr c40
                            clear c40
                            by_cases c41 : t124 = 65535
                            · rw [if_pos c41] at H
                              have c41b0 : (t124 == 65535) = true := beq_iff_eq.mpr c41
                              have c41b1 : (t124 != 65535) = false := bne_eq_false_iff_eq.mpr c41
                              clear c41
                              by_cases c42 : t127 = 0
                              · rw [if_pos c42] at H
                                have c42b0 : (t127 == 0) = true := beq_iff_eq.mpr c42
                                have c42b1 : (t127 != 0) = false := bne_eq_false_iff_eq.mpr c42
                                clear c42
                                replace H := Option.bind_eq_some_iff.mp H
                                obtain ⟨t132, A430, H⟩ := H
                                replace H : (if t132 = 0 then ((group_First.f (-5)).bind fun t133 => (if t133 = 0 then ((group_First.f 3).bind fun t134 => (if t134 = 7 then ((group_First.f 16).bind fun t135 => (if t135 = 65535 then ((group_First.f 99).bind fun t136 => (if t136 = 65535 then ((group_Has.f t124 15).bind fun t137 => (if t137 = true then ((group_Has.f t124 16).bind fun t138 => (if t138 = true then (none) else ((group_Has.f t124 (-1)).bind fun t139 => (if t139 = true then (none) else ((group_With.f 0 16).bind fun t140 => (if t140 = 0 then ((group_Without.f t124 (-1)).bind fun t141 => (if t141 = t124 then ((group_Next.f t124 16).bind fun t142 => (if t142 = (-1) then ((group_Next.f t124 (-1)).bind fun t143 => (if t143 = (-1) then ((group_Next.f t124 15).bind fun t144 => (if t144 = 0 then ((group_Rank.f t124 5).bind fun t145 => (if t145 = 5 then ((group_Rank.f t124 (-3)).bind fun t146 => (if t146 = 0 then ((group_Rank.f t124 99).bind fun t147 => ((vesperslaw03_alive.f k1).bind fun t148 => (if t148 = true then (if t126 = 0 then (if t147 = 16 then ((group_Both.f 12 10).bind fun t149 => (if t149 = 8 then ((group_Less.f 12 10).bind fun t150 => (some (t150 == 4))) else (none))) else (none)) else (none)) else (none)))) else (none))) else (none))) else (none))) else (none))) else (none))) else (none))) else (none))))))) else (none))) else (none))) else (none))) else (none))) else (none))) else (none)) = some r := H
                                have A43 := Aside0.mk A430
                                clear A430
                                by_cases c44 : t132 = 0
                                · rw [if_pos c44] at H
                                  have c44b0 : (t132 == 0) = true := beq_iff_eq.mpr c44
                                  have c44b1 : (t132 != 0) = false := bne_eq_false_iff_eq.mpr c44
                                  clear c44
                                  replace H := Option.bind_eq_some_iff.mp H
                                  obtain ⟨t133, A450, H⟩ := H
                                  replace H : (if t133 = 0 then ((group_First.f 3).bind fun t134 => (if t134 = 7 then ((group_First.f 16).bind fun t135 => (if t135 = 65535 then ((group_First.f 99).bind fun t136 => (if t136 = 65535 then ((group_Has.f t124 15).bind fun t137 => (if t137 = true then ((group_Has.f t124 16).bind fun t138 => (if t138 = true then (none) else ((group_Has.f t124 (-1)).bind fun t139 => (if t139 = true then (none) else ((group_With.f 0 16).bind fun t140 => (if t140 = 0 then ((group_Without.f t124 (-1)).bind fun t141 => (if t141 = t124 then ((group_Next.f t124 16).bind fun t142 => (if t142 = (-1) then ((group_Next.f t124 (-1)).bind fun t143 => (if t143 = (-1) then ((group_Next.f t124 15).bind fun t144 => (if t144 = 0 then ((group_Rank.f t124 5).bind fun t145 => (if t145 = 5 then ((group_Rank.f t124 (-3)).bind fun t146 => (if t146 = 0 then ((group_Rank.f t124 99).bind fun t147 => ((vesperslaw03_alive.f k1).bind fun t148 => (if t148 = true then (if t126 = 0 then (if t147 = 16 then ((group_Both.f 12 10).bind fun t149 => (if t149 = 8 then ((group_Less.f 12 10).bind fun t150 => (some (t150 == 4))) else (none))) else (none)) else (none)) else (none)))) else (none))) else (none))) else (none))) else (none))) else (none))) else (none))) else (none))))))) else (none))) else (none))) else (none))) else (none))) else (none)) = some r := H
                                  have A45 := Aside0.mk A450
                                  clear A450
                                  by_cases c46 : t133 = 0
                                  · rw [if_pos c46] at H
                                    have c46b0 : (t133 == 0) = true := beq_iff_eq.mpr c46
                                    have c46b1 : (t133 != 0) = false := bne_eq_false_iff_eq.mpr c46
                                    clear c46
                                    replace H := Option.bind_eq_some_iff.mp H
                                    obtain ⟨t134, A470, H⟩ := H
                                    replace H : (if t134 = 7 then ((group_First.f 16).bind fun t135 => (if t135 = 65535 then ((group_First.f 99).bind fun t136 => (if t136 = 65535 then ((group_Has.f t124 15).bind fun t137 => (if t137 = true then ((group_Has.f t124 16).bind fun t138 => (if t138 = true then (none) else ((group_Has.f t124 (-1)).bind fun t139 => (if t139 = true then (none) else ((group_With.f 0 16).bind fun t140 => (if t140 = 0 then ((group_Without.f t124 (-1)).bind fun t141 => (if t141 = t124 then ((group_Next.f t124 16).bind fun t142 => (if t142 = (-1) then ((group_Next.f t124 (-1)).bind fun t143 => (if t143 = (-1) then ((group_Next.f t124 15).bind fun t144 => (if t144 = 0 then ((group_Rank.f t124 5).bind fun t145 => (if t145 = 5 then ((group_Rank.f t124 (-3)).bind fun t146 => (if t146 = 0 then ((group_Rank.f t124 99).bind fun t147 => ((vesperslaw03_alive.f k1).bind fun t148 => (if t148 = true then (if t126 = 0 then (if t147 = 16 then ((group_Both.f 12 10).bind fun t149 => (if t149 = 8 then ((group_Less.f 12 10).bind fun t150 => (some (t150 == 4))) else (none))) else (none)) else (none)) else (none)))) else (none))) else (none))) else (none))) else (none))) else (none))) else (none))) else (none))))))) else (none))) else (none))) else (none))) else (none)) = some r := H
                                    have A47 := Aside0.mk A470
                                    clear A470
                                    by_cases c48 : t134 = 7
                                    · rw [if_pos c48] at H
                                      have c48b0 : (t134 == 7) = true := beq_iff_eq.mpr c48
                                      have c48b1 : (t134 != 7) = false := bne_eq_false_iff_eq.mpr c48
                                      clear c48
                                      replace H := Option.bind_eq_some_iff.mp H
                                      obtain ⟨t135, A490, H⟩ := H
                                      replace H : (if t135 = 65535 then ((group_First.f 99).bind fun t136 => (if t136 = 65535 then ((group_Has.f t124 15).bind fun t137 => (if t137 = true then ((group_Has.f t124 16).bind fun t138 => (if t138 = true then (none) else ((group_Has.f t124 (-1)).bind fun t139 => (if t139 = true then (none) else ((group_With.f 0 16).bind fun t140 => (if t140 = 0 then ((group_Without.f t124 (-1)).bind fun t141 => (if t141 = t124 then ((group_Next.f t124 16).bind fun t142 => (if t142 = (-1) then ((group_Next.f t124 (-1)).bind fun t143 => (if t143 = (-1) then ((group_Next.f t124 15).bind fun t144 => (if t144 = 0 then ((group_Rank.f t124 5).bind fun t145 => (if t145 = 5 then ((group_Rank.f t124 (-3)).bind fun t146 => (if t146 = 0 then ((group_Rank.f t124 99).bind fun t147 => ((vesperslaw03_alive.f k1).bind fun t148 => (if t148 = true then (if t126 = 0 then (if t147 = 16 then ((group_Both.f 12 10).bind fun t149 => (if t149 = 8 then ((group_Less.f 12 10).bind fun t150 => (some (t150 == 4))) else (none))) else (none)) else (none)) else (none)))) else (none))) else (none))) else (none))) else (none))) else (none))) else (none))) else (none))))))) else (none))) else (none))) else (none)) = some r := H
                                      have A49 := Aside0.mk A490
                                      clear A490
                                      by_cases c50 : t135 = 65535
                                      · rw [if_pos c50] at H
                                        have c50b0 : (t135 == 65535) = true := beq_iff_eq.mpr c50
                                        have c50b1 : (t135 != 65535) = false := bne_eq_false_iff_eq.mpr c50
                                        clear c50
                                        replace H := Option.bind_eq_some_iff.mp H
                                        obtain ⟨t136, A510, H⟩ := H
                                        replace H : (if t136 = 65535 then ((group_Has.f t124 15).bind fun t137 => (if t137 = true then ((group_Has.f t124 16).bind fun t138 => (if t138 = true then (none) else ((group_Has.f t124 (-1)).bind fun t139 => (if t139 = true then (none) else ((group_With.f 0 16).bind fun t140 => (if t140 = 0 then ((group_Without.f t124 (-1)).bind fun t141 => (if t141 = t124 then ((group_Next.f t124 16).bind fun t142 => (if t142 = (-1) then ((group_Next.f t124 (-1)).bind fun t143 => (if t143 = (-1) then ((group_Next.f t124 15).bind fun t144 => (if t144 = 0 then ((group_Rank.f t124 5).bind fun t145 => (if t145 = 5 then ((group_Rank.f t124 (-3)).bind fun t146 => (if t146 = 0 then ((group_Rank.f t124 99).bind fun t147 => ((vesperslaw03_alive.f k1).bind fun t148 => (if t148 = true then (if t126 = 0 then (if t147 = 16 then ((group_Both.f 12 10).bind fun t149 => (if t149 = 8 then ((group_Less.f 12 10).bind fun t150 => (some (t150 == 4))) else (none))) else (none)) else (none)) else (none)))) else (none))) else (none))) else (none))) else (none))) else (none))) else (none))) else (none))))))) else (none))) else (none)) = some r := H
                                        have A51 := Aside0.mk A510
                                        clear A510
                                        by_cases c52 : t136 = 65535
                                        · rw [if_pos c52] at H
                                          have c52b0 : (t136 == 65535) = true := beq_iff_eq.mpr c52
                                          have c52b1 : (t136 != 65535) = false := bne_eq_false_iff_eq.mpr c52
                                          clear c52
                                          replace H := Option.bind_eq_some_iff.mp H
                                          obtain ⟨t137, A530, H⟩ := H
                                          replace H : (if t137 = true then ((group_Has.f t124 16).bind fun t138 => (if t138 = true then (none) else ((group_Has.f t124 (-1)).bind fun t139 => (if t139 = true then (none) else ((group_With.f 0 16).bind fun t140 => (if t140 = 0 then ((group_Without.f t124 (-1)).bind fun t141 => (if t141 = t124 then ((group_Next.f t124 16).bind fun t142 => (if t142 = (-1) then ((group_Next.f t124 (-1)).bind fun t143 => (if t143 = (-1) then ((group_Next.f t124 15).bind fun t144 => (if t144 = 0 then ((group_Rank.f t124 5).bind fun t145 => (if t145 = 5 then ((group_Rank.f t124 (-3)).bind fun t146 => (if t146 = 0 then ((group_Rank.f t124 99).bind fun t147 => ((vesperslaw03_alive.f k1).bind fun t148 => (if t148 = true then (if t126 = 0 then (if t147 = 16 then ((group_Both.f 12 10).bind fun t149 => (if t149 = 8 then ((group_Less.f 12 10).bind fun t150 => (some (t150 == 4))) else (none))) else (none)) else (none)) else (none)))) else (none))) else (none))) else (none))) else (none))) else (none))) else (none))) else (none))))))) else (none)) = some r := H
                                          have A53 := Aside0.mk A530
                                          clear A530
                                          by_cases c54 : t137 = true
                                          · subst c54
                                            have H1 : ((group_Has.f t124 16).bind fun t138 => (if t138 = true then (none) else ((group_Has.f t124 (-1)).bind fun t139 => (if t139 = true then (none) else ((group_With.f 0 16).bind fun t140 => (if t140 = 0 then ((group_Without.f t124 (-1)).bind fun t141 => (if t141 = t124 then ((group_Next.f t124 16).bind fun t142 => (if t142 = (-1) then ((group_Next.f t124 (-1)).bind fun t143 => (if t143 = (-1) then ((group_Next.f t124 15).bind fun t144 => (if t144 = 0 then ((group_Rank.f t124 5).bind fun t145 => (if t145 = 5 then ((group_Rank.f t124 (-3)).bind fun t146 => (if t146 = 0 then ((group_Rank.f t124 99).bind fun t147 => ((vesperslaw03_alive.f k1).bind fun t148 => (if t148 = true then (if t126 = 0 then (if t147 = 16 then ((group_Both.f 12 10).bind fun t149 => (if t149 = 8 then ((group_Less.f 12 10).bind fun t150 => (some (t150 == 4))) else (none))) else (none)) else (none)) else (none)))) else (none))) else (none))) else (none))) else (none))) else (none))) else (none))) else (none))))))) = some r := by rw [if_pos rfl] at H; exact H
                                            clear H
                                            have H := H1
                                            clear H1
                                            replace H := Option.bind_eq_some_iff.mp H
                                            obtain ⟨t138, A550, H⟩ := H
                                            replace H : (if t138 = true then (none) else ((group_Has.f t124 (-1)).bind fun t139 => (if t139 = true then (none) else ((group_With.f 0 16).bind fun t140 => (if t140 = 0 then ((group_Without.f t124 (-1)).bind fun t141 => (if t141 = t124 then ((group_Next.f t124 16).bind fun t142 => (if t142 = (-1) then ((group_Next.f t124 (-1)).bind fun t143 => (if t143 = (-1) then ((group_Next.f t124 15).bind fun t144 => (if t144 = 0 then ((group_Rank.f t124 5).bind fun t145 => (if t145 = 5 then ((group_Rank.f t124 (-3)).bind fun t146 => (if t146 = 0 then ((group_Rank.f t124 99).bind fun t147 => ((vesperslaw03_alive.f k1).bind fun t148 => (if t148 = true then (if t126 = 0 then (if t147 = 16 then ((group_Both.f 12 10).bind fun t149 => (if t149 = 8 then ((group_Less.f 12 10).bind fun t150 => (some (t150 == 4))) else (none))) else (none)) else (none)) else (none)))) else (none))) else (none))) else (none))) else (none))) else (none))) else (none))) else (none)))))) = some r := H
                                            have A55 := Aside0.mk A550
                                            clear A550
                                            by_cases c56 : t138 = true
                                            · subst c56
                                              have H1 : (none) = some r := by rw [if_pos rfl] at H; exact H
                                              clear H
                                              have H := H1
                                              clear H1
                                              exact absurd H (by simp)
                                            · replace c56 := Bool.eq_false_iff.mpr c56
                                              subst c56
                                              have H1 : ((group_Has.f t124 (-1)).bind fun t139 => (if t139 = true then (none) else ((group_With.f 0 16).bind fun t140 => (if t140 = 0 then ((group_Without.f t124 (-1)).bind fun t141 => (if t141 = t124 then ((group_Next.f t124 16).bind fun t142 => (if t142 = (-1) then ((group_Next.f t124 (-1)).bind fun t143 => (if t143 = (-1) then ((group_Next.f t124 15).bind fun t144 => (if t144 = 0 then ((group_Rank.f t124 5).bind fun t145 => (if t145 = 5 then ((group_Rank.f t124 (-3)).bind fun t146 => (if t146 = 0 then ((group_Rank.f t124 99).bind fun t147 => ((vesperslaw03_alive.f k1).bind fun t148 => (if t148 = true then (if t126 = 0 then (if t147 = 16 then ((group_Both.f 12 10).bind fun t149 => (if t149 = 8 then ((group_Less.f 12 10).bind fun t150 => (some (t150 == 4))) else (none))) else (none)) else (none)) else (none)))) else (none))) else (none))) else (none))) else (none))) else (none))) else (none))) else (none))))) = some r := by rw [if_neg (show ¬ (false = true) by decide)] at H; exact H
                                              clear H
                                              have H := H1
                                              clear H1
                                              replace H := Option.bind_eq_some_iff.mp H
                                              obtain ⟨t139, A570, H⟩ := H
                                              replace H : (if t139 = true then (none) else ((group_With.f 0 16).bind fun t140 => (if t140 = 0 then ((group_Without.f t124 (-1)).bind fun t141 => (if t141 = t124 then ((group_Next.f t124 16).bind fun t142 => (if t142 = (-1) then ((group_Next.f t124 (-1)).bind fun t143 => (if t143 = (-1) then ((group_Next.f t124 15).bind fun t144 => (if t144 = 0 then ((group_Rank.f t124 5).bind fun t145 => (if t145 = 5 then ((group_Rank.f t124 (-3)).bind fun t146 => (if t146 = 0 then ((group_Rank.f t124 99).bind fun t147 => ((vesperslaw03_alive.f k1).bind fun t148 => (if t148 = true then (if t126 = 0 then (if t147 = 16 then ((group_Both.f 12 10).bind fun t149 => (if t149 = 8 then ((group_Less.f 12 10).bind fun t150 => (some (t150 == 4))) else (none))) else (none)) else (none)) else (none)))) else (none))) else (none))) else (none))) else (none))) else (none))) else (none))) else (none)))) = some r := H
                                              have A57 := Aside0.mk A570
                                              clear A570
                                              by_cases c58 : t139 = true
                                              · subst c58
                                                have H1 : (none) = some r := by rw [if_pos rfl] at H; exact H
                                                clear H
                                                have H := H1
                                                clear H1
                                                exact absurd H (by simp)
                                              · replace c58 := Bool.eq_false_iff.mpr c58
                                                subst c58
                                                have H1 : ((group_With.f 0 16).bind fun t140 => (if t140 = 0 then ((group_Without.f t124 (-1)).bind fun t141 => (if t141 = t124 then ((group_Next.f t124 16).bind fun t142 => (if t142 = (-1) then ((group_Next.f t124 (-1)).bind fun t143 => (if t143 = (-1) then ((group_Next.f t124 15).bind fun t144 => (if t144 = 0 then ((group_Rank.f t124 5).bind fun t145 => (if t145 = 5 then ((group_Rank.f t124 (-3)).bind fun t146 => (if t146 = 0 then ((group_Rank.f t124 99).bind fun t147 => ((vesperslaw03_alive.f k1).bind fun t148 => (if t148 = true then (if t126 = 0 then (if t147 = 16 then ((group_Both.f 12 10).bind fun t149 => (if t149 = 8 then ((group_Less.f 12 10).bind fun t150 => (some (t150 == 4))) else (none))) else (none)) else (none)) else (none)))) else (none))) else (none))) else (none))) else (none))) else (none))) else (none))) else (none))) = some r := by rw [if_neg (show ¬ (false = true) by decide)] at H; exact H
                                                clear H
                                                have H := H1
                                                clear H1
                                                replace H := Option.bind_eq_some_iff.mp H
                                                obtain ⟨t140, A590, H⟩ := H
                                                replace H : (if t140 = 0 then ((group_Without.f t124 (-1)).bind fun t141 => (if t141 = t124 then ((group_Next.f t124 16).bind fun t142 => (if t142 = (-1) then ((group_Next.f t124 (-1)).bind fun t143 => (if t143 = (-1) then ((group_Next.f t124 15).bind fun t144 => (if t144 = 0 then ((group_Rank.f t124 5).bind fun t145 => (if t145 = 5 then ((group_Rank.f t124 (-3)).bind fun t146 => (if t146 = 0 then ((group_Rank.f t124 99).bind fun t147 => ((vesperslaw03_alive.f k1).bind fun t148 => (if t148 = true then (if t126 = 0 then (if t147 = 16 then ((group_Both.f 12 10).bind fun t149 => (if t149 = 8 then ((group_Less.f 12 10).bind fun t150 => (some (t150 == 4))) else (none))) else (none)) else (none)) else (none)))) else (none))) else (none))) else (none))) else (none))) else (none))) else (none))) else (none)) = some r := H
                                                have A59 := Aside0.mk A590
                                                clear A590
                                                by_cases c60 : t140 = 0
                                                · rw [if_pos c60] at H
                                                  have c60b0 : (t140 == 0) = true := beq_iff_eq.mpr c60
                                                  have c60b1 : (t140 != 0) = false := bne_eq_false_iff_eq.mpr c60
                                                  clear c60
                                                  replace H := Option.bind_eq_some_iff.mp H
                                                  obtain ⟨t141, A610, H⟩ := H
                                                  replace H : (if t141 = t124 then ((group_Next.f t124 16).bind fun t142 => (if t142 = (-1) then ((group_Next.f t124 (-1)).bind fun t143 => (if t143 = (-1) then ((group_Next.f t124 15).bind fun t144 => (if t144 = 0 then ((group_Rank.f t124 5).bind fun t145 => (if t145 = 5 then ((group_Rank.f t124 (-3)).bind fun t146 => (if t146 = 0 then ((group_Rank.f t124 99).bind fun t147 => ((vesperslaw03_alive.f k1).bind fun t148 => (if t148 = true then (if t126 = 0 then (if t147 = 16 then ((group_Both.f 12 10).bind fun t149 => (if t149 = 8 then ((group_Less.f 12 10).bind fun t150 => (some (t150 == 4))) else (none))) else (none)) else (none)) else (none)))) else (none))) else (none))) else (none))) else (none))) else (none))) else (none)) = some r := H
                                                  have A61 := Aside0.mk A610
                                                  clear A610
                                                  by_cases c62 : t141 = t124
                                                  · rw [if_pos c62] at H
                                                    have c62b0 : (t141 == t124) = true := beq_iff_eq.mpr c62
                                                    have c62b1 : (t141 != t124) = false := bne_eq_false_iff_eq.mpr c62
                                                    clear c62
                                                    replace H := Option.bind_eq_some_iff.mp H
                                                    obtain ⟨t142, A630, H⟩ := H
                                                    replace H : (if t142 = (-1) then ((group_Next.f t124 (-1)).bind fun t143 => (if t143 = (-1) then ((group_Next.f t124 15).bind fun t144 => (if t144 = 0 then ((group_Rank.f t124 5).bind fun t145 => (if t145 = 5 then ((group_Rank.f t124 (-3)).bind fun t146 => (if t146 = 0 then ((group_Rank.f t124 99).bind fun t147 => ((vesperslaw03_alive.f k1).bind fun t148 => (if t148 = true then (if t126 = 0 then (if t147 = 16 then ((group_Both.f 12 10).bind fun t149 => (if t149 = 8 then ((group_Less.f 12 10).bind fun t150 => (some (t150 == 4))) else (none))) else (none)) else (none)) else (none)))) else (none))) else (none))) else (none))) else (none))) else (none)) = some r := H
                                                    have A63 := Aside0.mk A630
                                                    clear A630
                                                    by_cases c64 : t142 = (-1)
                                                    · rw [if_pos c64] at H
                                                      have c64b0 : (t142 == (-1)) = true := beq_iff_eq.mpr c64
                                                      have c64b1 : (t142 != (-1)) = false := bne_eq_false_iff_eq.mpr c64
                                                      clear c64
                                                      replace H := Option.bind_eq_some_iff.mp H
                                                      obtain ⟨t143, A650, H⟩ := H
                                                      replace H : (if t143 = (-1) then ((group_Next.f t124 15).bind fun t144 => (if t144 = 0 then ((group_Rank.f t124 5).bind fun t145 => (if t145 = 5 then ((group_Rank.f t124 (-3)).bind fun t146 => (if t146 = 0 then ((group_Rank.f t124 99).bind fun t147 => ((vesperslaw03_alive.f k1).bind fun t148 => (if t148 = true then (if t126 = 0 then (if t147 = 16 then ((group_Both.f 12 10).bind fun t149 => (if t149 = 8 then ((group_Less.f 12 10).bind fun t150 => (some (t150 == 4))) else (none))) else (none)) else (none)) else (none)))) else (none))) else (none))) else (none))) else (none)) = some r := H
                                                      have A65 := Aside0.mk A650
                                                      clear A650
                                                      by_cases c66 : t143 = (-1)
                                                      · rw [if_pos c66] at H
                                                        have c66b0 : (t143 == (-1)) = true := beq_iff_eq.mpr c66
                                                        have c66b1 : (t143 != (-1)) = false := bne_eq_false_iff_eq.mpr c66
                                                        clear c66
                                                        replace H := Option.bind_eq_some_iff.mp H
                                                        obtain ⟨t144, A670, H⟩ := H
                                                        replace H : (if t144 = 0 then ((group_Rank.f t124 5).bind fun t145 => (if t145 = 5 then ((group_Rank.f t124 (-3)).bind fun t146 => (if t146 = 0 then ((group_Rank.f t124 99).bind fun t147 => ((vesperslaw03_alive.f k1).bind fun t148 => (if t148 = true then (if t126 = 0 then (if t147 = 16 then ((group_Both.f 12 10).bind fun t149 => (if t149 = 8 then ((group_Less.f 12 10).bind fun t150 => (some (t150 == 4))) else (none))) else (none)) else (none)) else (none)))) else (none))) else (none))) else (none)) = some r := H
                                                        have A67 := Aside0.mk A670
                                                        clear A670
                                                        by_cases c68 : t144 = 0
                                                        · rw [if_pos c68] at H
                                                          have c68b0 : (t144 == 0) = true := beq_iff_eq.mpr c68
                                                          have c68b1 : (t144 != 0) = false := bne_eq_false_iff_eq.mpr c68
                                                          clear c68
                                                          replace H := Option.bind_eq_some_iff.mp H
                                                          obtain ⟨t145, A690, H⟩ := H
                                                          replace H : (if t145 = 5 then ((group_Rank.f t124 (-3)).bind fun t146 => (if t146 = 0 then ((group_Rank.f t124 99).bind fun t147 => ((vesperslaw03_alive.f k1).bind fun t148 => (if t148 = true then (if t126 = 0 then (if t147 = 16 then ((group_Both.f 12 10).bind fun t149 => (if t149 = 8 then ((group_Less.f 12 10).bind fun t150 => (some (t150 == 4))) else (none))) else (none)) else (none)) else (none)))) else (none))) else (none)) = some r := H
                                                          have A69 := Aside0.mk A690
                                                          clear A690
                                                          by_cases c70 : t145 = 5
                                                          · rw [if_pos c70] at H
                                                            have c70b0 : (t145 == 5) = true := beq_iff_eq.mpr c70
                                                            have c70b1 : (t145 != 5) = false := bne_eq_false_iff_eq.mpr c70
                                                            clear c70
                                                            replace H := Option.bind_eq_some_iff.mp H
                                                            obtain ⟨t146, A710, H⟩ := H
                                                            replace H : (if t146 = 0 then ((group_Rank.f t124 99).bind fun t147 => ((vesperslaw03_alive.f k1).bind fun t148 => (if t148 = true then (if t126 = 0 then (if t147 = 16 then ((group_Both.f 12 10).bind fun t149 => (if t149 = 8 then ((group_Less.f 12 10).bind fun t150 => (some (t150 == 4))) else (none))) else (none)) else (none)) else (none)))) else (none)) = some r := H
                                                            have A71 := Aside0.mk A710
                                                            clear A710
                                                            by_cases c72 : t146 = 0
                                                            · rw [if_pos c72] at H
                                                              have c72b0 : (t146 == 0) = true := beq_iff_eq.mpr c72
                                                              have c72b1 : (t146 != 0) = false := bne_eq_false_iff_eq.mpr c72
                                                              clear c72
                                                              replace H := Option.bind_eq_some_iff.mp H
                                                              obtain ⟨t147, A730, H⟩ := H
                                                              replace H : ((vesperslaw03_alive.f k1).bind fun t148 => (if t148 = true then (if t126 = 0 then (if t147 = 16 then ((group_Both.f 12 10).bind fun t149 => (if t149 = 8 then ((group_Less.f 12 10).bind fun t150 => (some (t150 == 4))) else (none))) else (none)) else (none)) else (none))) = some r := H
                                                              have A73 := Aside0.mk A730
                                                              clear A730
                                                              replace H := Option.bind_eq_some_iff.mp H
                                                              obtain ⟨t148, A740, H⟩ := H
                                                              replace H : (if t148 = true then (if t126 = 0 then (if t147 = 16 then ((group_Both.f 12 10).bind fun t149 => (if t149 = 8 then ((group_Less.f 12 10).bind fun t150 => (some (t150 == 4))) else (none))) else (none)) else (none)) else (none)) = some r := H
                                                              have A74 := Aside0.mk A740
                                                              clear A740
                                                              by_cases c75 : t148 = true
                                                              · subst c75
                                                                have H1 : (if t126 = 0 then (if t147 = 16 then ((group_Both.f 12 10).bind fun t149 => (if t149 = 8 then ((group_Less.f 12 10).bind fun t150 => (some (t150 == 4))) else (none))) else (none)) else (none)) = some r := by rw [if_pos rfl] at H; exact H
                                                                clear H
                                                                have H := H1
                                                                clear H1
                                                                by_cases c76 : t126 = 0
                                                                · rw [if_pos c76] at H
                                                                  have c76b0 : (t126 == 0) = true := beq_iff_eq.mpr c76
                                                                  have c76b1 : (t126 != 0) = false := bne_eq_false_iff_eq.mpr c76
                                                                  clear c76
                                                                  by_cases c77 : t147 = 16
                                                                  · rw [if_pos c77] at H
                                                                    have c77b0 : (t147 == 16) = true := beq_iff_eq.mpr c77
                                                                    have c77b1 : (t147 != 16) = false := bne_eq_false_iff_eq.mpr c77
                                                                    clear c77
                                                                    replace H := Option.bind_eq_some_iff.mp H
                                                                    obtain ⟨t149, A780, H⟩ := H
                                                                    replace H : (if t149 = 8 then ((group_Less.f 12 10).bind fun t150 => (some (t150 == 4))) else (none)) = some r := H
                                                                    have A78 := Aside0.mk A780
                                                                    clear A780
                                                                    by_cases c79 : t149 = 8
                                                                    · rw [if_pos c79] at H
                                                                      have c79b0 : (t149 == 8) = true := beq_iff_eq.mpr c79
                                                                      have c79b1 : (t149 != 8) = false := bne_eq_false_iff_eq.mpr c79
                                                                      clear c79
                                                                      replace H := Option.bind_eq_some_iff.mp H
                                                                      obtain ⟨t150, A800, H⟩ := H
                                                                      replace H : (some (t150 == 4)) = some r := H
                                                                      have A80 := Aside0.mk A800
                                                                      clear A800
                                                                      obtain rfl := Option.some.inj H
                                                                      go_wp2_with (first | ((with_reducible refine gate_callee (f := 36) rfl ?_); refine goesL_ (some 60) rfl rfl Try.func36 (by kernel_rfl) rfl #[.string (⟨#[48, 49, 50, 51, 52, 53, 54, 55, 56, 57, 97, 98, 99, 100, 101, 102]⟩ : ByteArray)] rfl (by (try simp only [List.map_toArray, List.map_cons, List.map_nil]); first | done | rfl | (simp only [List.length_drop, List.length_take]; rfl)) ?_; (with_reducible refine (group_Parse.callsAt (⟨#[48, 49, 50, 51, 52, 53, 54, 55, 56, 57, 97, 98, 99, 100, 101, 102]⟩ : ByteArray) t124 t125 _ (hm.below (n := 0) (by repeat (first | (with_reducible first | exact HB.out | apply below_alloc | apply pw_below_drewN | apply below_drew1) | exact HB.out))) A25.out).mono ?_); rintro e w81 ⟨rfl, hb⟩; refine ⟨_, rfl, ?_⟩; have n0_ := Aside0.mk (Kd.R_below (by (with_reducible repeat (first | apply Kd.R_alloc | apply Kd.R_drewN | apply Kd.R_drew)); exact HO_39.out) hb); have n1_ := Aside0.mk (below_step (by repeat (first | (with_reducible first | exact HB.out | apply below_alloc | apply pw_below_drewN | apply below_drew1) | exact HB.out)) hb); clear HO_39; clear HB; have HO_39 := n0_; have HB := n1_; clear n0_ n1_; (try clear hb); (try clear hb2); (try clear hk); (try clear hi)) | ((with_reducible refine gate_callee (f := 36) rfl ?_); refine goesL_ (some 64) rfl rfl Try.func36 (by kernel_rfl) rfl #[.string (⟨#[45]⟩ : ByteArray)] rfl (by (try simp only [List.map_toArray, List.map_cons, List.map_nil]); first | done | rfl | (simp only [List.length_drop, List.length_take]; rfl)) ?_; (with_reducible refine (group_Parse.callsAt (⟨#[45]⟩ : ByteArray) t126 t127 _ (hm.below (n := 0) (by repeat (first | (with_reducible first | exact HB.out | apply below_alloc | apply pw_below_drewN | apply below_drew1) | exact HB.out))) A26.out).mono ?_); rintro e w82 ⟨rfl, hb⟩; refine ⟨_, rfl, ?_⟩; have n0_ := Aside0.mk (Kd.R_below (by (with_reducible repeat (first | apply Kd.R_alloc | apply Kd.R_drewN | apply Kd.R_drew)); exact HO_39.out) hb); have n1_ := Aside0.mk (below_step (by repeat (first | (with_reducible first | exact HB.out | apply below_alloc | apply pw_below_drewN | apply below_drew1) | exact HB.out)) hb); clear HO_39; clear HB; have HO_39 := n0_; have HB := n1_; clear n0_ n1_; (try clear hb); (try clear hb2); (try clear hk); (try clear hi)) | (go_at_call 22; (with_reducible refine (group_Next.calls t104 7 t128 _ A28.out).mono ?_); rintro e w83 ⟨rfl, hb⟩; have n0_ := Aside0.mk (Kd.R_below (by (with_reducible repeat (first | apply Kd.R_alloc | apply Kd.R_drewN | apply Kd.R_drew)); exact HO_39.out) hb); have n1_ := Aside0.mk (below_step (by repeat (first | (with_reducible first | exact HB.out | apply below_alloc | apply pw_below_drewN | apply below_drew1) | exact HB.out)) hb); clear HO_39; clear HB; have HO_39 := n0_; have HB := n1_; clear n0_ n1_; (try clear hb); (try clear hb2); (try clear hk); (try clear hi)) | (go_at_call 20; (with_reducible refine (group_Count.calls t104 t129 _ A30.out).mono ?_); rintro e w' ⟨rfl, ⟨nd, rfl⟩⟩) | (go_at_call 22; (with_reducible refine (group_Next.calls t106 7 t130 _ A33.out).mono ?_); rintro e w84 ⟨rfl, hb⟩; have n0_ := Aside0.mk (Kd.R_below (by (with_reducible repeat (first | apply Kd.R_alloc | apply Kd.R_drewN | apply Kd.R_drew)); exact HO_39.out) hb); have n1_ := Aside0.mk (below_step (by repeat (first | (with_reducible first | exact HB.out | apply below_alloc | apply pw_below_drewN | apply below_drew1) | exact HB.out)) hb); clear HO_39; clear HB; have HO_39 := n0_; have HB := n1_; clear n0_ n1_; (try clear hb); (try clear hb2); (try clear hk); (try clear hi)) | (go_at_call 34; (with_reducible refine (group_Text.calls t106 t131 _ A35.out).mono ?_); rintro e w85 ⟨rfl, hb⟩; have n0_ := Aside0.mk (Kd.R_below (by (with_reducible repeat (first | apply Kd.R_alloc | apply Kd.R_drewN | apply Kd.R_drew)); exact HO_39.out) hb); have n1_ := Aside0.mk (below_step (by repeat (first | (with_reducible first | exact HB.out | apply below_alloc | apply pw_below_drewN | apply below_drew1) | exact HB.out)) hb); clear HO_39; clear HB; have HO_39 := n0_; have HB := n1_; clear n0_ n1_; (try clear hb); (try clear hb2); (try clear hk); (try clear hi)) | (go_at_call 26; (with_reducible refine (group_First.calls 0 t132 _ A43.out).mono ?_); rintro e w86 ⟨rfl, hb⟩; have n0_ := Aside0.mk (Kd.R_below (by (with_reducible repeat (first | apply Kd.R_alloc | apply Kd.R_drewN | apply Kd.R_drew)); exact HO_39.out) hb); have n1_ := Aside0.mk (below_step (by repeat (first | (with_reducible first | exact HB.out | apply below_alloc | apply pw_below_drewN | apply below_drew1) | exact HB.out)) hb); clear HO_39; clear HB; have HO_39 := n0_; have HB := n1_; clear n0_ n1_; (try clear hb); (try clear hb2); (try clear hk); (try clear hi)) | (go_at_call 26; (with_reducible refine (group_First.calls (-5) t133 _ A45.out).mono ?_); rintro e w87 ⟨rfl, hb⟩; have n0_ := Aside0.mk (Kd.R_below (by (with_reducible repeat (first | apply Kd.R_alloc | apply Kd.R_drewN | apply Kd.R_drew)); exact HO_39.out) hb); have n1_ := Aside0.mk (below_step (by repeat (first | (with_reducible first | exact HB.out | apply below_alloc | apply pw_below_drewN | apply below_drew1) | exact HB.out)) hb); clear HO_39; clear HB; have HO_39 := n0_; have HB := n1_; clear n0_ n1_; (try clear hb); (try clear hb2); (try clear hk); (try clear hi)) | (go_at_call 26; (with_reducible refine (group_First.calls 3 t134 _ A47.out).mono ?_); rintro e w88 ⟨rfl, hb⟩; have n0_ := Aside0.mk (Kd.R_below (by (with_reducible repeat (first | apply Kd.R_alloc | apply Kd.R_drewN | apply Kd.R_drew)); exact HO_39.out) hb); have n1_ := Aside0.mk (below_step (by repeat (first | (with_reducible first | exact HB.out | apply below_alloc | apply pw_below_drewN | apply below_drew1) | exact HB.out)) hb); clear HO_39; clear HB; have HO_39 := n0_; have HB := n1_; clear n0_ n1_; (try clear hb); (try clear hb2); (try clear hk); (try clear hi)) | (go_at_call 26; (with_reducible refine (group_First.calls 16 t135 _ A49.out).mono ?_); rintro e w89 ⟨rfl, hb⟩; have n0_ := Aside0.mk (Kd.R_below (by (with_reducible repeat (first | apply Kd.R_alloc | apply Kd.R_drewN | apply Kd.R_drew)); exact HO_39.out) hb); have n1_ := Aside0.mk (below_step (by repeat (first | (with_reducible first | exact HB.out | apply below_alloc | apply pw_below_drewN | apply below_drew1) | exact HB.out)) hb); clear HO_39; clear HB; have HO_39 := n0_; have HB := n1_; clear n0_ n1_; (try clear hb); (try clear hb2); (try clear hk); (try clear hi)) | (go_at_call 26; (with_reducible refine (group_First.calls 99 t136 _ A51.out).mono ?_); rintro e w90 ⟨rfl, hb⟩; have n0_ := Aside0.mk (Kd.R_below (by (with_reducible repeat (first | apply Kd.R_alloc | apply Kd.R_drewN | apply Kd.R_drew)); exact HO_39.out) hb); have n1_ := Aside0.mk (below_step (by repeat (first | (with_reducible first | exact HB.out | apply below_alloc | apply pw_below_drewN | apply below_drew1) | exact HB.out)) hb); clear HO_39; clear HB; have HO_39 := n0_; have HB := n1_; clear n0_ n1_; (try clear hb); (try clear hb2); (try clear hk); (try clear hi)) | (go_at_call 14; (with_reducible refine (group_Has.calls t124 15 true _ A53.out).mono ?_); rintro e w' ⟨rfl, ⟨nd, rfl⟩⟩) | (go_at_call 14; (with_reducible refine (group_Has.calls t124 16 false _ A55.out).mono ?_); rintro e w' ⟨rfl, ⟨nd, rfl⟩⟩) | (go_at_call 14; (with_reducible refine (group_Has.calls t124 (-1) false _ A57.out).mono ?_); rintro e w' ⟨rfl, ⟨nd, rfl⟩⟩) | (go_at_call 16; (with_reducible refine (group_With.calls 0 16 t140 _ A59.out).mono ?_); rintro e w' ⟨rfl, ⟨nd, rfl⟩⟩) | (go_at_call 18; (with_reducible refine (group_Without.calls t124 (-1) t141 _ A61.out).mono ?_); rintro e w' ⟨rfl, ⟨nd, rfl⟩⟩) | (go_at_call 22; (with_reducible refine (group_Next.calls t124 16 t142 _ A63.out).mono ?_); rintro e w91 ⟨rfl, hb⟩; have n0_ := Aside0.mk (Kd.R_below (by (with_reducible repeat (first | apply Kd.R_alloc | apply Kd.R_drewN | apply Kd.R_drew)); exact HO_39.out) hb); have n1_ := Aside0.mk (below_step (by repeat (first | (with_reducible first | exact HB.out | apply below_alloc | apply pw_below_drewN | apply below_drew1) | exact HB.out)) hb); clear HO_39; clear HB; have HO_39 := n0_; have HB := n1_; clear n0_ n1_; (try clear hb); (try clear hb2); (try clear hk); (try clear hi)) | (go_at_call 22; (with_reducible refine (group_Next.calls t124 (-1) t143 _ A65.out).mono ?_); rintro e w92 ⟨rfl, hb⟩; have n0_ := Aside0.mk (Kd.R_below (by (with_reducible repeat (first | apply Kd.R_alloc | apply Kd.R_drewN | apply Kd.R_drew)); exact HO_39.out) hb); have n1_ := Aside0.mk (below_step (by repeat (first | (with_reducible first | exact HB.out | apply below_alloc | apply pw_below_drewN | apply below_drew1) | exact HB.out)) hb); clear HO_39; clear HB; have HO_39 := n0_; have HB := n1_; clear n0_ n1_; (try clear hb); (try clear hb2); (try clear hk); (try clear hi)) | (go_at_call 22; (with_reducible refine (group_Next.calls t124 15 t144 _ A67.out).mono ?_); rintro e w93 ⟨rfl, hb⟩; have n0_ := Aside0.mk (Kd.R_below (by (with_reducible repeat (first | apply Kd.R_alloc | apply Kd.R_drewN | apply Kd.R_drew)); exact HO_39.out) hb); have n1_ := Aside0.mk (below_step (by repeat (first | (with_reducible first | exact HB.out | apply below_alloc | apply pw_below_drewN | apply below_drew1) | exact HB.out)) hb); clear HO_39; clear HB; have HO_39 := n0_; have HB := n1_; clear n0_ n1_; (try clear hb); (try clear hb2); (try clear hk); (try clear hi)) | (go_at_call 24; (with_reducible refine (group_Rank.calls t124 5 t145 _ A69.out).mono ?_); rintro e w94 ⟨rfl, hb⟩; have n0_ := Aside0.mk (Kd.R_below (by (with_reducible repeat (first | apply Kd.R_alloc | apply Kd.R_drewN | apply Kd.R_drew)); exact HO_39.out) hb); have n1_ := Aside0.mk (below_step (by repeat (first | (with_reducible first | exact HB.out | apply below_alloc | apply pw_below_drewN | apply below_drew1) | exact HB.out)) hb); clear HO_39; clear HB; have HO_39 := n0_; have HB := n1_; clear n0_ n1_; (try clear hb); (try clear hb2); (try clear hk); (try clear hi)) | (go_at_call 24; (with_reducible refine (group_Rank.calls t124 (-3) t146 _ A71.out).mono ?_); rintro e w95 ⟨rfl, hb⟩; have n0_ := Aside0.mk (Kd.R_below (by (with_reducible repeat (first | apply Kd.R_alloc | apply Kd.R_drewN | apply Kd.R_drew)); exact HO_39.out) hb); have n1_ := Aside0.mk (below_step (by repeat (first | (with_reducible first | exact HB.out | apply below_alloc | apply pw_below_drewN | apply below_drew1) | exact HB.out)) hb); clear HO_39; clear HB; have HO_39 := n0_; have HB := n1_; clear n0_ n1_; (try clear hb); (try clear hb2); (try clear hk); (try clear hi)) | (go_at_call 24; (with_reducible refine (group_Rank.calls t124 99 t147 _ A73.out).mono ?_); rintro e w96 ⟨rfl, hb⟩; have n0_ := Aside0.mk (Kd.R_below (by (with_reducible repeat (first | apply Kd.R_alloc | apply Kd.R_drewN | apply Kd.R_drew)); exact HO_39.out) hb); have n1_ := Aside0.mk (below_step (by repeat (first | (with_reducible first | exact HB.out | apply below_alloc | apply pw_below_drewN | apply below_drew1) | exact HB.out)) hb); clear HO_39; clear HB; have HO_39 := n0_; have HB := n1_; clear n0_ n1_; (try clear hb); (try clear hb2); (try clear hk); (try clear hi)) | (go_at_call 32; (with_reducible refine (vesperslaw03_alive.calls k1  true _ A74.out).mono ?_); rintro e w97 ⟨rfl, hb⟩; have n0_ := Aside0.mk (Kd.R_below (by (with_reducible repeat (first | apply Kd.R_alloc | apply Kd.R_drewN | apply Kd.R_drew)); exact HO_39.out) hb); have n1_ := Aside0.mk (below_step (by repeat (first | (with_reducible first | exact HB.out | apply below_alloc | apply pw_below_drewN | apply below_drew1) | exact HB.out)) hb); clear HO_39; clear HB; have HO_39 := n0_; have HB := n1_; clear n0_ n1_; (try clear hb); (try clear hb2); (try clear hk); (try clear hi)) | (go_at_call 28; (with_reducible refine (group_Both.calls 12 10 t149 _ A78.out).mono ?_); rintro e w' ⟨rfl, ⟨nd, rfl⟩⟩) | (go_at_call 30; (with_reducible refine (group_Less.calls 12 10 t150 _ A80.out).mono ?_); rintro e w' ⟨rfl, ⟨nd, rfl⟩⟩))
                                                                      go_ret
                                                                      exact ⟨by first | rfl | (simp [errW_none, errW_some] <;> rfl) | (simp [*, errW_none, errW_some] <;> rfl), by repeat (first | (with_reducible first | exact HB.out | apply below_alloc | apply pw_below_drewN | apply below_drew1) | exact HB.out)⟩
                                                                    · rw [if_neg c79] at H
                                                                      exact absurd H (by simp)
                                                                  · rw [if_neg c77] at H
                                                                    exact absurd H (by simp)
                                                                · rw [if_neg c76] at H
                                                                  exact absurd H (by simp)
                                                              · replace c75 := Bool.eq_false_iff.mpr c75
                                                                subst c75
                                                                have H1 : (none) = some r := by rw [if_neg (show ¬ (false = true) by decide)] at H; exact H
                                                                clear H
                                                                have H := H1
                                                                clear H1
                                                                exact absurd H (by simp)
                                                            · rw [if_neg c72] at H
                                                              exact absurd H (by simp)
                                                          · rw [if_neg c70] at H
                                                            exact absurd H (by simp)
                                                        · rw [if_neg c68] at H
                                                          exact absurd H (by simp)
                                                      · rw [if_neg c66] at H
                                                        exact absurd H (by simp)
                                                    · rw [if_neg c64] at H
                                                      exact absurd H (by simp)
                                                  · rw [if_neg c62] at H
                                                    exact absurd H (by simp)
                                                · rw [if_neg c60] at H
                                                  exact absurd H (by simp)
                                          · replace c54 := Bool.eq_false_iff.mpr c54
                                            subst c54
                                            have H1 : (none) = some r := by rw [if_neg (show ¬ (false = true) by decide)] at H; exact H
                                            clear H
                                            have H := H1
                                            clear H1
                                            exact absurd H (by simp)
                                        · rw [if_neg c52] at H
                                          exact absurd H (by simp)
                                      · rw [if_neg c50] at H
                                        exact absurd H (by simp)
                                    · rw [if_neg c48] at H
                                      exact absurd H (by simp)
                                  · rw [if_neg c46] at H
                                    exact absurd H (by simp)
                                · rw [if_neg c44] at H
                                  exact absurd H (by simp)
                              · rw [if_neg c42] at H
                                exact absurd H (by simp)
                            · rw [if_neg c41] at H
                              exact absurd H (by simp)
                          · rw [if_neg c40] at H
                            exact absurd H (by simp)
                        · rw [if_neg c39] at H
                          exact absurd H (by simp)
                      · rw [if_neg c38] at H
                        exact absurd H (by simp)
                    · rw [if_neg c37] at H
                      exact absurd H (by simp)
                  · rw [if_neg c36] at H
                    exact absurd H (by simp)
                · rw [if_neg c34] at H
                  exact absurd H (by simp)
              · rw [if_neg c32] at H
                exact absurd H (by simp)
            · rw [if_neg c31] at H
              exact absurd H (by simp)
          · rw [if_neg c29] at H
            exact absurd H (by simp)
        · rw [if_neg c27] at H
          exact absurd H (by simp)

/-- THE ONE PURE STATEMENT of vesperslaw03_GroupNames: yours. -/
def vesperslaw03_GroupNames.Pure : Prop := ∃ k, vesperslaw03_GroupNames.f k  = some true
theorem vesperslaw03_GroupNames.walk (P : vesperslaw03_GroupNames.Pure)  (w : World) (hm : MaxAt w)  :
    Calls Try.prog 10 #[] w fun e w' => e = .returned (.bool true) ∧ Below w.heap.size w w' := by
  obtain ⟨k, h⟩ := P  
  refine (vesperslaw03_GroupNames.calls k  true w hm h).mono ?_
  rintro e w' ⟨rfl, hd⟩
  exact ⟨rfl, hd⟩

end Go.Proofs.Ytfjjeadoaoedoaa.PD
