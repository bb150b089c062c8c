/- Where events lead, as numbers; the keys of the map that tells it. -/
import Derived.Test.YtbbiihifhdcniaaDoorProg
import Derived.WalkKit
import Derived.KernelRfl
import Derived.RowKit3
import Derived.Outline
import Derived.Lib.Hide
import Derived.Deep.QuietTactic
import Derived.BigQuiet
import Derived.RegionTactic
import Derived.Maps.Own
import Derived.Maps.OwnSet
import Derived.Maps.OwnOps
import Derived.Maps.Views
import Derived.Maps.RangeWalk
import Derived.DeepKeys4
set_option linter.unusedVariables false
set_option linter.unusedSimpArgs false
namespace Go.Proofs.YtbbiihifhdcniaaDoor.Hand
open Go.RowKit Go.Maps

theorem laidOut_ : laidOutB Tryd.prog = true := by kernel_rfl
theorem rowStep : (45 : TypeId) < Tryd.prog.types.size := of_decide_eq_true (by kernel_rfl)
theorem wideStep : (match Tryd.prog.underlying 45 with | some (.array _ _) | some (.struct _) => true | _ => false) = true := by kernel_rfl
theorem lawStep : Keyed Tryd.prog 45 := Keyed.of_law (deep_law_laid laidOut_ (m := 2) (by omega) rowStep (by kernel_rfl) wideStep)
theorem underMap : Tryd.prog.underlying 42 = some (.map 45 3) := by kernel_rfl
theorem underInt : Tryd.prog.underlying 3 = some (.int .i64) := by kernel_rfl
theorem zeroInt (w : World) : (zeroValue 3).run Tryd.prog w = .ok (.int .i64 0) w := by kernel_rfl
theorem keyTy : Tryd.prog.keyType 45 = true := by kernel_rfl
theorem cellsStep : Tryd.prog.cellsOf 45 = 2 := by kernel_rfl
theorem cellsInt : Tryd.prog.cellsOf 3 = 1 := by kernel_rfl
def stepV (s e : Int) : Value := .agg #[.int .i64 s, .int .i64 e]
def stepK (s e : Int) : Lit := .string (keyBytes [.int .i64 s, .int .i64 e])
theorem litsStep : (Tryd.prog.keyLits (Tryd.prog.types.size + 1) 45 [.int .i64 0, .int .i64 0]) = some [.int .i64 0, .int .i64 0] := by kernel_rfl
def fitI (n : Int) : Prop := (Lit.int .i64 n).wf = true
theorem keyLits_int (d : Nat) {n : Int} (h : fitI n) : Tryd.prog.keyLits (d + 1) 3 [.int .i64 n] = some [.int .i64 n] := by
  unfold fitI at h
  unfold Program.keyLits
  rw [underInt]
  simp [h]
set_option maxRecDepth 100000 in
theorem stepK_of {s e : Int} (hs : fitI s) (he : fitI e) : keyOf Tryd.prog 45 (stepV s e) = some (stepK s e) := by
  obtain ⟨fs, hu⟩ : ∃ fs, Tryd.prog.underlying 45 = some (.struct fs) := ⟨_, rfl⟩
  have hfs : fs.toList.map (fun f => (f.name, f.type, f.offset)) = [("state", 3, 0), ("event", 3, 1)] := by
    have : (match Tryd.prog.underlying 45 with | some (.struct fs) => fs.toList.map (fun f => (f.name, f.type, f.offset)) | _ => []) = [("state", 3, 0), ("event", 3, 1)] := by kernel_rfl
    rw [hu] at this
    exact this
  obtain ⟨l⟩ := fs
  have hfs : l.map (fun f => (f.name, f.type, f.offset)) = [("state", 3, 0), ("event", 3, 1)] := hfs
  match l, hfs with
  | [f0, f1], hfs =>
    simp only [List.map_cons, List.map_nil, List.cons.injEq, Prod.mk.injEq, and_true] at hfs
    obtain ⟨⟨n0, t0, o0⟩, n1, t1, o1⟩ := hfs
    unfold keyOf
    rw [hu]
    have hform : (stepV s e).formed Tryd.prog 45 = true := by
      simp [stepV, Value.formed, hu, cellsStep]
    rw [if_pos (by rw [keyTy, hform]; rfl)]
    have hl : Tryd.prog.keyLits (Tryd.prog.types.size + 1) 45 [.int .i64 s, .int .i64 e] = some [.int .i64 s, .int .i64 e] := by
      obtain ⟨d, hd⟩ : ∃ d, Tryd.prog.types.size = d + 1 := ⟨Tryd.prog.types.size - 1, (Nat.succ_pred_eq_of_pos (Nat.lt_of_le_of_lt (Nat.zero_le _) rowStep)).symm⟩
      unfold Program.keyLits
      rw [hu, hd]
      simp [cellsStep, n0, n1, t0, t1, o0, o1, cellsInt, keyLits_int d hs, keyLits_int d he]
    rw [show (stepV s e).cells.toList = [.int .i64 s, .int .i64 e] from rfl, hl]
    rfl
theorem stepK_key (s e : Int) : WideAt.IsKeyLit (stepK s e) := trivial
theorem stepK_inj {s e s' e' : Int} (hs : fitI s) (he : fitI e) (hs' : fitI s') (he' : fitI e') (h : stepK s e = stepK s' e') : s = s' ∧ e = e' := by
  have := lawStep.inj (stepK_of hs he) (by rw [h]; exact stepK_of hs' he')
  simpa [stepV] using this
/-- Where an event leads. -/
def nextO (s e : Int) : Option Int :=
  if e = 1 ∧ 1 ≤ s ∧ s ≤ 5 then some 0 else if e = 9 ∧ 1 ≤ s ∧ s ≤ 5 then some 6 else
  if s = 0 ∧ e = 0 then some 1 else if s = 1 ∧ e = 2 then some 2 else if s = 2 ∧ e = 3 then some 3 else if s = 2 ∧ e = 4 then some 4 else if s = 2 ∧ e = 5 then some 4 else
  if s = 3 ∧ e = 3 then some 3 else if s = 3 ∧ e = 6 then some 5 else if s = 3 ∧ e = 7 then some 2 else if s = 4 ∧ e = 8 then some 5 else if s = 6 ∧ e = 0 then some 1 else if s = 6 ∧ e = 1 then some 0 else none
end Go.Proofs.YtbbiihifhdcniaaDoor.Hand
