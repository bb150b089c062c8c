/- plantext's closures, by hand (printed by wip/gen/mkpt3.py): called with nil they tell the number. -/
import Derived.Test.YtdpdcpbmdmkaeaaDoorHandPt2
set_option linter.unusedVariables false
set_option linter.unusedSimpArgs false
namespace Go.Proofs.YtdpdcpbmdmkaeaaDoor.Hand
set_option maxRecDepth 100000
open Go.RowKit Go.Shelf Go.Proofs.YtdpdcpbmdmkaeaaDoor.PA Go.Proofs.YtdpdcpbmdmkaeaaDoorW.PrintWords Go.Proofs.YtdpdcpbmdmkaeaaDoorW.PrintMore
attribute [local go_sem] Oper.semAt_some

theorem at_0 (g : Nat) (w : World) : Calls Tryd.prog 18 #[.pointer (some ⟨g, 0, none⟩)] w fun e w' => e = .returned (.pointer (some ⟨g, 0, none⟩)) ∧ w' = w := by
  go_enter Tryd.func18, Tryd.ntmps18
  go_wp2
  go_ret
  exact ⟨rfl, rfl⟩
theorem at_1 (g : Nat) (w : World) : Calls Tryd.prog 19 #[.pointer (some ⟨g, 0, none⟩)] w fun e w' => e = .returned (.pointer (some ⟨g, 1, none⟩)) ∧ w' = w := by
  go_enter Tryd.func19, Tryd.ntmps19
  go_wp2
  go_ret
  exact ⟨rfl, rfl⟩
theorem at_2 (g : Nat) (w : World) : Calls Tryd.prog 21 #[.pointer (some ⟨g, 0, none⟩)] w fun e w' => e = .returned (.pointer (some ⟨g, 2, none⟩)) ∧ w' = w := by
  go_enter Tryd.func21, Tryd.ntmps21
  go_wp2
  go_ret
  exact ⟨rfl, rfl⟩
theorem at_3 (g : Nat) (w : World) : Calls Tryd.prog 22 #[.pointer (some ⟨g, 0, none⟩)] w fun e w' => e = .returned (.pointer (some ⟨g, 3, none⟩)) ∧ w' = w := by
  go_enter Tryd.func22, Tryd.ntmps22
  go_wp2
  go_ret
  exact ⟨rfl, rfl⟩
theorem at_4 (g : Nat) (w : World) : Calls Tryd.prog 23 #[.pointer (some ⟨g, 0, none⟩)] w fun e w' => e = .returned (.pointer (some ⟨g, 4, none⟩)) ∧ w' = w := by
  go_enter Tryd.func23, Tryd.ntmps23
  go_wp2
  go_ret
  exact ⟨rfl, rfl⟩
theorem at_5 (g : Nat) (w : World) : Calls Tryd.prog 24 #[.pointer (some ⟨g, 0, none⟩)] w fun e w' => e = .returned (.pointer (some ⟨g, 5, none⟩)) ∧ w' = w := by
  go_enter Tryd.func24, Tryd.ntmps24
  go_wp2
  go_ret
  exact ⟨rfl, rfl⟩
theorem at_6 (g : Nat) (w : World) : Calls Tryd.prog 25 #[.pointer (some ⟨g, 0, none⟩)] w fun e w' => e = .returned (.pointer (some ⟨g, 6, none⟩)) ∧ w' = w := by
  go_enter Tryd.func25, Tryd.ntmps25
  go_wp2
  go_ret
  exact ⟨rfl, rfl⟩
theorem at_7 (g : Nat) (w : World) : Calls Tryd.prog 26 #[.pointer (some ⟨g, 0, none⟩)] w fun e w' => e = .returned (.pointer (some ⟨g, 7, none⟩)) ∧ w' = w := by
  go_enter Tryd.func26, Tryd.ntmps26
  go_wp2
  go_ret
  exact ⟨rfl, rfl⟩
theorem at_8 (g : Nat) (w : World) : Calls Tryd.prog 27 #[.pointer (some ⟨g, 0, none⟩)] w fun e w' => e = .returned (.pointer (some ⟨g, 8, none⟩)) ∧ w' = w := by
  go_enter Tryd.func27, Tryd.ntmps27
  go_wp2
  go_ret
  exact ⟨rfl, rfl⟩
theorem at_9 (g : Nat) (w : World) : Calls Tryd.prog 28 #[.pointer (some ⟨g, 0, none⟩)] w fun e w' => e = .returned (.pointer (some ⟨g, 9, none⟩)) ∧ w' = w := by
  go_enter Tryd.func28, Tryd.ntmps28
  go_wp2
  go_ret
  exact ⟨rfl, rfl⟩
theorem at_10 (g : Nat) (w : World) : Calls Tryd.prog 29 #[.pointer (some ⟨g, 0, none⟩)] w fun e w' => e = .returned (.pointer (some ⟨g, 10, none⟩)) ∧ w' = w := by
  go_enter Tryd.func29, Tryd.ntmps29
  go_wp2
  go_ret
  exact ⟨rfl, rfl⟩
theorem at_11 (g : Nat) (w : World) : Calls Tryd.prog 30 #[.pointer (some ⟨g, 0, none⟩)] w fun e w' => e = .returned (.pointer (some ⟨g, 11, none⟩)) ∧ w' = w := by
  go_enter Tryd.func30, Tryd.ntmps30
  go_wp2
  go_ret
  exact ⟨rfl, rfl⟩
theorem at_12 (g : Nat) (w : World) : Calls Tryd.prog 31 #[.pointer (some ⟨g, 0, none⟩)] w fun e w' => e = .returned (.pointer (some ⟨g, 12, none⟩)) ∧ w' = w := by
  go_enter Tryd.func31, Tryd.ntmps31
  go_wp2
  go_ret
  exact ⟨rfl, rfl⟩
theorem at_13 (g : Nat) (w : World) : Calls Tryd.prog 32 #[.pointer (some ⟨g, 0, none⟩)] w fun e w' => e = .returned (.pointer (some ⟨g, 13, none⟩)) ∧ w' = w := by
  go_enter Tryd.func32, Tryd.ntmps32
  go_wp2
  go_ret
  exact ⟨rfl, rfl⟩
theorem at_14 (g : Nat) (w : World) : Calls Tryd.prog 33 #[.pointer (some ⟨g, 0, none⟩)] w fun e w' => e = .returned (.pointer (some ⟨g, 14, none⟩)) ∧ w' = w := by
  go_enter Tryd.func33, Tryd.ntmps33
  go_wp2
  go_ret
  exact ⟨rfl, rfl⟩
theorem at_15 (g : Nat) (w : World) : Calls Tryd.prog 34 #[.pointer (some ⟨g, 0, none⟩)] w fun e w' => e = .returned (.pointer (some ⟨g, 15, none⟩)) ∧ w' = w := by
  go_enter Tryd.func34, Tryd.ntmps34
  go_wp2
  go_ret
  exact ⟨rfl, rfl⟩
theorem get_0 (g b : Nat) (n : Int) (w : World) (hb : w.cell? ⟨b, 0, none⟩ = some (.func (.func 18) #[] #[])) (hc : w.cell? ⟨g, 0, none⟩ = some (.int .i64 n)) : Calls Tryd.prog 39 #[.pointer (some ⟨g, 0, none⟩), .pointer none, .pointer (some ⟨b, 0, none⟩)] w fun e w' => e = .returned (.int .i64 n) ∧ w' = w := by
  go_enter Tryd.func39, Tryd.ntmps39
  go_wp2_with (go_at_call 18; refine (at_0 _ _).mono ?_; rintro e w' ⟨rfl, rfl⟩)
  go_ret
  exact ⟨rfl, rfl⟩
theorem get_1 (g b : Nat) (n : Int) (w : World) (hb : w.cell? ⟨b, 0, none⟩ = some (.func (.func 19) #[] #[])) (hc : w.cell? ⟨g, 1, none⟩ = some (.int .i64 n)) : Calls Tryd.prog 39 #[.pointer (some ⟨g, 0, none⟩), .pointer none, .pointer (some ⟨b, 0, none⟩)] w fun e w' => e = .returned (.int .i64 n) ∧ w' = w := by
  go_enter Tryd.func39, Tryd.ntmps39
  go_wp2_with (go_at_call 19; refine (at_1 _ _).mono ?_; rintro e w' ⟨rfl, rfl⟩)
  go_ret
  exact ⟨rfl, rfl⟩
theorem get_12 (g b : Nat) (n : Int) (w : World) (hb : w.cell? ⟨b, 0, none⟩ = some (.func (.func 31) #[] #[])) (hc : w.cell? ⟨g, 12, none⟩ = some (.int .i64 n)) : Calls Tryd.prog 39 #[.pointer (some ⟨g, 0, none⟩), .pointer none, .pointer (some ⟨b, 0, none⟩)] w fun e w' => e = .returned (.int .i64 n) ∧ w' = w := by
  go_enter Tryd.func39, Tryd.ntmps39
  go_wp2_with (go_at_call 31; refine (at_12 _ _).mono ?_; rintro e w' ⟨rfl, rfl⟩)
  go_ret
  exact ⟨rfl, rfl⟩
theorem get_13 (g b : Nat) (n : Int) (w : World) (hb : w.cell? ⟨b, 0, none⟩ = some (.func (.func 32) #[] #[])) (hc : w.cell? ⟨g, 13, none⟩ = some (.int .i64 n)) : Calls Tryd.prog 39 #[.pointer (some ⟨g, 0, none⟩), .pointer none, .pointer (some ⟨b, 0, none⟩)] w fun e w' => e = .returned (.int .i64 n) ∧ w' = w := by
  go_enter Tryd.func39, Tryd.ntmps39
  go_wp2_with (go_at_call 32; refine (at_13 _ _).mono ?_; rintro e w' ⟨rfl, rfl⟩)
  go_ret
  exact ⟨rfl, rfl⟩
theorem get_14 (g b : Nat) (n : Int) (w : World) (hb : w.cell? ⟨b, 0, none⟩ = some (.func (.func 33) #[] #[])) (hc : w.cell? ⟨g, 14, none⟩ = some (.int .i64 n)) : Calls Tryd.prog 39 #[.pointer (some ⟨g, 0, none⟩), .pointer none, .pointer (some ⟨b, 0, none⟩)] w fun e w' => e = .returned (.int .i64 n) ∧ w' = w := by
  go_enter Tryd.func39, Tryd.ntmps39
  go_wp2_with (go_at_call 33; refine (at_14 _ _).mono ?_; rintro e w' ⟨rfl, rfl⟩)
  go_ret
  exact ⟨rfl, rfl⟩
theorem get_2 (g b : Nat) (n : Int) (w : World) (hb : w.cell? ⟨b, 0, none⟩ = some (.func (.func 21) #[] #[])) (hc : w.cell? ⟨g, 2, none⟩ = some (.int .i64 n)) : Calls Tryd.prog 40 #[.pointer (some ⟨g, 0, none⟩), .pointer none, .pointer (some ⟨b, 0, none⟩)] w fun e w' => e = .returned (.int .i64 n) ∧ w' = w := by
  go_enter Tryd.func40, Tryd.ntmps40
  go_wp2_with (go_at_call 21; refine (at_2 _ _).mono ?_; rintro e w' ⟨rfl, rfl⟩)
  go_ret
  exact ⟨rfl, rfl⟩
theorem get_3 (g b : Nat) (n : Int) (w : World) (hb : w.cell? ⟨b, 0, none⟩ = some (.func (.func 22) #[] #[])) (hc : w.cell? ⟨g, 3, none⟩ = some (.int .i64 n)) : Calls Tryd.prog 40 #[.pointer (some ⟨g, 0, none⟩), .pointer none, .pointer (some ⟨b, 0, none⟩)] w fun e w' => e = .returned (.int .i64 n) ∧ w' = w := by
  go_enter Tryd.func40, Tryd.ntmps40
  go_wp2_with (go_at_call 22; refine (at_3 _ _).mono ?_; rintro e w' ⟨rfl, rfl⟩)
  go_ret
  exact ⟨rfl, rfl⟩
theorem get_4 (g b : Nat) (n : Int) (w : World) (hb : w.cell? ⟨b, 0, none⟩ = some (.func (.func 23) #[] #[])) (hc : w.cell? ⟨g, 4, none⟩ = some (.int .i64 n)) : Calls Tryd.prog 40 #[.pointer (some ⟨g, 0, none⟩), .pointer none, .pointer (some ⟨b, 0, none⟩)] w fun e w' => e = .returned (.int .i64 n) ∧ w' = w := by
  go_enter Tryd.func40, Tryd.ntmps40
  go_wp2_with (go_at_call 23; refine (at_4 _ _).mono ?_; rintro e w' ⟨rfl, rfl⟩)
  go_ret
  exact ⟨rfl, rfl⟩
theorem get_5 (g b : Nat) (n : Int) (w : World) (hb : w.cell? ⟨b, 0, none⟩ = some (.func (.func 24) #[] #[])) (hc : w.cell? ⟨g, 5, none⟩ = some (.int .i64 n)) : Calls Tryd.prog 40 #[.pointer (some ⟨g, 0, none⟩), .pointer none, .pointer (some ⟨b, 0, none⟩)] w fun e w' => e = .returned (.int .i64 n) ∧ w' = w := by
  go_enter Tryd.func40, Tryd.ntmps40
  go_wp2_with (go_at_call 24; refine (at_5 _ _).mono ?_; rintro e w' ⟨rfl, rfl⟩)
  go_ret
  exact ⟨rfl, rfl⟩
theorem get_6 (g b : Nat) (n : Int) (w : World) (hb : w.cell? ⟨b, 0, none⟩ = some (.func (.func 25) #[] #[])) (hc : w.cell? ⟨g, 6, none⟩ = some (.int .i64 n)) : Calls Tryd.prog 40 #[.pointer (some ⟨g, 0, none⟩), .pointer none, .pointer (some ⟨b, 0, none⟩)] w fun e w' => e = .returned (.int .i64 n) ∧ w' = w := by
  go_enter Tryd.func40, Tryd.ntmps40
  go_wp2_with (go_at_call 25; refine (at_6 _ _).mono ?_; rintro e w' ⟨rfl, rfl⟩)
  go_ret
  exact ⟨rfl, rfl⟩
theorem get_7 (g b : Nat) (n : Int) (w : World) (hb : w.cell? ⟨b, 0, none⟩ = some (.func (.func 26) #[] #[])) (hc : w.cell? ⟨g, 7, none⟩ = some (.int .i64 n)) : Calls Tryd.prog 40 #[.pointer (some ⟨g, 0, none⟩), .pointer none, .pointer (some ⟨b, 0, none⟩)] w fun e w' => e = .returned (.int .i64 n) ∧ w' = w := by
  go_enter Tryd.func40, Tryd.ntmps40
  go_wp2_with (go_at_call 26; refine (at_7 _ _).mono ?_; rintro e w' ⟨rfl, rfl⟩)
  go_ret
  exact ⟨rfl, rfl⟩
theorem get_8 (g b : Nat) (n : Int) (w : World) (hb : w.cell? ⟨b, 0, none⟩ = some (.func (.func 27) #[] #[])) (hc : w.cell? ⟨g, 8, none⟩ = some (.int .i64 n)) : Calls Tryd.prog 40 #[.pointer (some ⟨g, 0, none⟩), .pointer none, .pointer (some ⟨b, 0, none⟩)] w fun e w' => e = .returned (.int .i64 n) ∧ w' = w := by
  go_enter Tryd.func40, Tryd.ntmps40
  go_wp2_with (go_at_call 27; refine (at_8 _ _).mono ?_; rintro e w' ⟨rfl, rfl⟩)
  go_ret
  exact ⟨rfl, rfl⟩
theorem get_9 (g b : Nat) (n : Int) (w : World) (hb : w.cell? ⟨b, 0, none⟩ = some (.func (.func 28) #[] #[])) (hc : w.cell? ⟨g, 9, none⟩ = some (.int .i64 n)) : Calls Tryd.prog 40 #[.pointer (some ⟨g, 0, none⟩), .pointer none, .pointer (some ⟨b, 0, none⟩)] w fun e w' => e = .returned (.int .i64 n) ∧ w' = w := by
  go_enter Tryd.func40, Tryd.ntmps40
  go_wp2_with (go_at_call 28; refine (at_9 _ _).mono ?_; rintro e w' ⟨rfl, rfl⟩)
  go_ret
  exact ⟨rfl, rfl⟩
theorem get_10 (g b : Nat) (n : Int) (w : World) (hb : w.cell? ⟨b, 0, none⟩ = some (.func (.func 29) #[] #[])) (hc : w.cell? ⟨g, 10, none⟩ = some (.int .i64 n)) : Calls Tryd.prog 40 #[.pointer (some ⟨g, 0, none⟩), .pointer none, .pointer (some ⟨b, 0, none⟩)] w fun e w' => e = .returned (.int .i64 n) ∧ w' = w := by
  go_enter Tryd.func40, Tryd.ntmps40
  go_wp2_with (go_at_call 29; refine (at_10 _ _).mono ?_; rintro e w' ⟨rfl, rfl⟩)
  go_ret
  exact ⟨rfl, rfl⟩
theorem get_11 (g b : Nat) (n : Int) (w : World) (hb : w.cell? ⟨b, 0, none⟩ = some (.func (.func 30) #[] #[])) (hc : w.cell? ⟨g, 11, none⟩ = some (.int .i64 n)) : Calls Tryd.prog 40 #[.pointer (some ⟨g, 0, none⟩), .pointer none, .pointer (some ⟨b, 0, none⟩)] w fun e w' => e = .returned (.int .i64 n) ∧ w' = w := by
  go_enter Tryd.func40, Tryd.ntmps40
  go_wp2_with (go_at_call 30; refine (at_11 _ _).mono ?_; rintro e w' ⟨rfl, rfl⟩)
  go_ret
  exact ⟨rfl, rfl⟩
theorem get_15 (g b : Nat) (n : Int) (w : World) (hb : w.cell? ⟨b, 0, none⟩ = some (.func (.func 34) #[] #[])) (hc : w.cell? ⟨g, 15, none⟩ = some (.int .i64 n)) : Calls Tryd.prog 40 #[.pointer (some ⟨g, 0, none⟩), .pointer none, .pointer (some ⟨b, 0, none⟩)] w fun e w' => e = .returned (.int .i64 n) ∧ w' = w := by
  go_enter Tryd.func40, Tryd.ntmps40
  go_wp2_with (go_at_call 34; refine (at_15 _ _).mono ?_; rintro e w' ⟨rfl, rfl⟩)
  go_ret
  exact ⟨rfl, rfl⟩
theorem get_whole (i : Nat) (hi : i < 16) (hf : cloF i = 39) (g b : Nat) (n : Int) (w : World) (hb : w.cell? ⟨b, 0, none⟩ = some (.func (.func (atF i)) #[] #[])) (hc : w.cell? ⟨g, i, none⟩ = some (.int .i64 n)) : Calls Tryd.prog 39 #[.pointer (some ⟨g, 0, none⟩), .pointer none, .pointer (some ⟨b, 0, none⟩)] w fun e w' => e = .returned (.int .i64 n) ∧ w' = w := by
  match i, hi with
  | 0, _ => exact get_0 g b n w hb hc
  | 1, _ => exact get_1 g b n w hb hc
  | 2, _ => exact absurd hf (by decide)
  | 3, _ => exact absurd hf (by decide)
  | 4, _ => exact absurd hf (by decide)
  | 5, _ => exact absurd hf (by decide)
  | 6, _ => exact absurd hf (by decide)
  | 7, _ => exact absurd hf (by decide)
  | 8, _ => exact absurd hf (by decide)
  | 9, _ => exact absurd hf (by decide)
  | 10, _ => exact absurd hf (by decide)
  | 11, _ => exact absurd hf (by decide)
  | 12, _ => exact get_12 g b n w hb hc
  | 13, _ => exact get_13 g b n w hb hc
  | 14, _ => exact get_14 g b n w hb hc
  | 15, _ => exact absurd hf (by decide)
  | i + 16, hi => omega
theorem get_long (i : Nat) (hi : i < 16) (hf : cloF i = 40) (g b : Nat) (n : Int) (w : World) (hb : w.cell? ⟨b, 0, none⟩ = some (.func (.func (atF i)) #[] #[])) (hc : w.cell? ⟨g, i, none⟩ = some (.int .i64 n)) : Calls Tryd.prog 40 #[.pointer (some ⟨g, 0, none⟩), .pointer none, .pointer (some ⟨b, 0, none⟩)] w fun e w' => e = .returned (.int .i64 n) ∧ w' = w := by
  match i, hi with
  | 0, _ => exact absurd hf (by decide)
  | 1, _ => exact absurd hf (by decide)
  | 2, _ => exact get_2 g b n w hb hc
  | 3, _ => exact get_3 g b n w hb hc
  | 4, _ => exact get_4 g b n w hb hc
  | 5, _ => exact get_5 g b n w hb hc
  | 6, _ => exact get_6 g b n w hb hc
  | 7, _ => exact get_7 g b n w hb hc
  | 8, _ => exact get_8 g b n w hb hc
  | 9, _ => exact get_9 g b n w hb hc
  | 10, _ => exact get_10 g b n w hb hc
  | 11, _ => exact get_11 g b n w hb hc
  | 12, _ => exact absurd hf (by decide)
  | 13, _ => exact absurd hf (by decide)
  | 14, _ => exact absurd hf (by decide)
  | 15, _ => exact get_15 g b n w hb hc
  | i + 16, hi => omega
theorem clo_kind (i : Nat) (hi : i < 16) : cloF i = 39 ∨ cloF i = 40 := by
  match i, hi with
  | 0, _ => exact .inl rfl
  | 1, _ => exact .inl rfl
  | 2, _ => exact .inr rfl
  | 3, _ => exact .inr rfl
  | 4, _ => exact .inr rfl
  | 5, _ => exact .inr rfl
  | 6, _ => exact .inr rfl
  | 7, _ => exact .inr rfl
  | 8, _ => exact .inr rfl
  | 9, _ => exact .inr rfl
  | 10, _ => exact .inr rfl
  | 11, _ => exact .inr rfl
  | 12, _ => exact .inl rfl
  | 13, _ => exact .inl rfl
  | 14, _ => exact .inl rfl
  | 15, _ => exact .inr rfl
  | i + 16, hi => omega
end Go.Proofs.YtdpdcpbmdmkaeaaDoor.Hand
