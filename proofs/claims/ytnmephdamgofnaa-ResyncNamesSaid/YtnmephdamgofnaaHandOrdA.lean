/- The law of HandOrd for an iterator that turns cells of its own, and that leans on what the caller's word says of what has come. -/
import Derived.Test.YtnmephdamgofnaaHandOrd
set_option linter.unusedVariables false
namespace Go.Proofs.Ytnmephdamgofnaa.Hand
open Go.RowKit
section
variable {F : Fence} {n : Nat} {P : Program} {α : Type}
/-- It stands whatever turns that has been laid from B on. -/
def AllFrom {β : Type} (B : Nat) (J : β → World → Prop) : Prop := ∀ s W W' row, J s W → W.grownBy W' row → (∀ r, row = some r → B ≤ r) → J s W'
theorem AllFrom.own {β : Type} {B : Nat} {J : β → World → Prop} (h : AllFrom B J) : OwnFrom B J := fun s W W' row hs hg hr => h s W W' row hs hg (fun r e => (hr r e).1)
theorem Books.far {W W' : World} {B : Nat} {r : Loop} {row : Option Nat} (h : Books W B r) (g : W.grownBy W' row) (hr : ∀ k, row = some k → B + 2 ≤ k) : Books W' B r :=
  ⟨(g.block B (by have := h.lt; omega) (fun q => by have := hr B q.symm; omega)).trans h.dl, (g.block (B + 1) h.lt (fun q => by have := hr (B + 1) q.symm; omega)).trans h.lp⟩
/-- The iterator's word: R pre x: behind 'pre' comes x. -/
def SeqOrdA (F : Fence) (n : Nat) (P : Program) (g : Nat) (lb : Array Value) (encs : α → Array Value) (Kp : World → World → Prop) (G S Sp : List α → Prop) (R : List α → α → Prop) (w : World) : Prop :=
  ∀ (l : Nat) (J Jx : List α → World → Prop) (W : World), Below w.heap.size w W → AllFrom W.heap.size J → AllFrom W.heap.size Jx → (∀ pre V, J pre V → G pre) → J [] W →
    (∀ pre x V, R pre x → J pre V → YieldAt F (n - 1) P l (encs x) V fun e V' => (e = .returned (.bool true) ∧ J (pre ++ [x]) V' ∧ Kp V V') ∨ (e = .returned (.bool false) ∧ Jx (pre ++ [x]) V')) →
    CallsIn F n P g (#[.func (.yield l) #[] #[]] ++ lb) W fun e V => (∃ v, e = .returned v) ∧ ((∃ xs, S xs ∧ J xs V) ∨ (∃ pre, Sp pre ∧ Jx pre V))
theorem wpIn_rangeFunc_ordA {g : Operand} {ps : Array Tmp} {assign body : Code} {Q : Exit → Act → World → Prop} {a : Act} {w : World} (hro : F.round = none) (h1 : 1 ≤ n) {gf : Nat} {lb : Array Value} (hg : a.eval g = .func (.func gf) #[] lb) (hFg : F.fn gf)
    (eg : ∀ args w, (callFunc gf args).run P w = .ok (.enter gf args) w) {encs : α → Array Value} {Kp : World → World → Prop} {G S Sp : List α → Prop} {R : List α → α → Prop} {w0 : World} (hseq : SeqOrdA F (n - 1) P gf lb encs Kp G S Sp R w0)
    (hKt : ∀ {A B C : World}, Kp A B → Kp B C → Kp A C) (hKb : ∀ (W : World) (l : Nat) (o o' : Obj), w.heap.size ≤ l → W.heap[l]? = some o → o.isCells = false → o.isWalk = false → Kp W (W.putObj l o')) (hb0 : Below w0.heap.size w0 w) (hps : ∀ x, (encs x).size = ps.size)
    (I : List α → World → Prop) (Ix : Code → List α → World → Prop) (hI : AllFrom w.heap.size I) (hIx : ∀ c, AllFrom w.heap.size (Ix c)) (hG : ∀ pre V, I pre V → G pre) (h0 : I [] w) (Ax : α → Act → World → Prop) (hAx : ∀ x a', OwnFrom w.heap.size (fun (_ : Unit) W => Ax x a' W))
    (hassign : ∀ (l : Nat) (pre : List α) (x : α) (W : World) (K : Act → World → Prop), R pre x → I pre W → (∀ a' W', KeepsFrom w.heap.size W W' → Kp W W' → I pre W' → Ax x a' W' → K a' W') →
      assign.wpIn (F.inRound l) (n - 1 - 1) P (Exit.then K (fun _ _ _ => False)) { tmps := (ps.zip (encs x)).foldl (fun t (p, v) => t.setIfInBounds p v) a.tmps, defers := [] } W)
    (hbody : ∀ (l : Nat) (pre : List α) (x : α) (a' : Act) (W : World), R pre x → I pre W → Ax x a' W → body.wpIn (F.inRound l) (n - 1 - 1) P (ownPostG w.heap.size Kp I Ix (pre ++ [x]) W) a' W)
    (hdone : ∀ (D : Nat) (xs : List α) (W : World), w.heap.size ≤ D → S xs → I xs W → W.heap[D]? = some (.deferred (some [])) → Q .normal { a with defers := { target := .collected D, args := #[] } :: a.defers } W)
    (hstop : ∀ (D : Nat) (c : Code) (pre : List α) (W : World), w.heap.size ≤ D → Sp pre → Ix c pre W → W.heap[D]? = some (.deferred (some [])) → c.wpIn F n P Q { a with defers := { target := .collected D, args := #[] } :: a.defers } W) :
    (Code.rangeFunc g ps assign body).wpIn F n P Q a w := by
  refine wpIn_rangeFunc fun fn hfn => ?_
  rw [hro]
  let B := w.heap.size
  let r0 := recOf fn a.tmps ps assign body B .ready none
  obtain ⟨W1, hW1⟩ : ∃ W1, (w.alloc (.deferred (some []))).alloc (.loop r0) = W1 := ⟨_, rfl⟩
  have bk1 : Books W1 B r0 := by
    rw [← hW1]
    refine ⟨(Below.heap_alloc _ _ _ (by simp [B])).trans (World.alloc_heap_new w _), ?_⟩
    have := World.alloc_heap_new (w.alloc (.deferred (some []))) (.loop r0)
    rwa [World.size_alloc] at this
  have i1 : I [] W1 := by rw [← hW1]; exact hI.own.alloc _ (hI.own.alloc _ h0)
  have s1 : W1.heap.size = B + 2 := by rw [← hW1]; simp [B]
  have b1 : Below w0.heap.size w0 W1 := by
    rw [← hW1]
    exact hb0.trans ((((Below.refl _ w).alloc (Nat.le_refl _) _).alloc (by simp) _).mono hb0.size)
  refine ⟨B + 1, [{ target := .collected B, args := #[] }], W1, { target := .fn (.func gf) lb, args := #[.func (.yield (B + 1)) #[] #[]] }, W1, gf, #[.func (.yield (B + 1)) #[] #[]] ++ lb, W1, ?_, ?_, ?_, ?_, fun _ => h1, ?_⟩
  · rw [← hW1]; exact run_enterLoop_outer _ _ _ _ _
  · simp only [resolve, hg]; simp [go_sem]
  · intro f' hf'; simp [Target.leads] at hf'; subst hf'; exact hFg
  · simp [invoke, go_sem, eg]
  refine (hseq (B + 1) (fun pre W => I pre W ∧ Books W B r0) (fun pre W => ∃ c, Ix c pre W ∧ Books W B (recOf fn a.tmps ps assign body B .done (some c))) W1 b1 ?_ ?_ (fun pre V h => hG pre V h.1) ⟨i1, bk1⟩ ?round).mono ?behind
  · exact fun s X Y row hs hg' hr => ⟨hI s X Y row hs.1 hg' (fun r e => by have := hr r e; rw [s1] at this; show B ≤ r; omega), hs.2.far hg' (fun r e => by have := hr r e; rw [s1] at this; omega)⟩
  · exact fun s X Y row ⟨c, hc, hk⟩ hg' hr => ⟨c, hIx c s X Y row hc hg' (fun r e => by have := hr r e; rw [s1] at this; show B ≤ r; omega), hk.far hg' (fun r e => by have := hr r e; rw [s1] at this; omega)⟩
  case round =>
    rintro pre x V hR ⟨hi, hk⟩
    have hy := run_yield (P := P) (args := encs x) hk.lp (by simpa [r0, recOf] using hps x)
    refine ⟨fn, _, assign, body, hy, roundIn_of_wpIn hfn (hassign _ pre x V _ hR hi fun a' W kf kp hi' hax => ?_)⟩
    have hk' := hk.from kf
    refine ⟨_, run_beginRound hk'.lp rfl, ?_⟩
    have hk2 := hk'.put (recOf fn a.tmps ps assign body B .busy none)
    have hw2 : Kp W (W.putObj (B + 1) (.loop (recOf fn a.tmps ps assign body B .busy none))) := hKb _ _ _ _ (Nat.le_succ _) hk'.lp rfl rfl
    have leave : ∀ (jump : Option Code) (W3 : World), KeepsFrom w.heap.size (W.putObj (B + 1) (.loop (recOf fn a.tmps ps assign body B .busy none))) W3 →
        (Instr.endRound (B + 1) jump).run P W3 = .ok (.bool jump.isNone) (W3.putObj (B + 1) (.loop (recOf fn a.tmps ps assign body B (if jump.isNone then .ready else .done) jump))) ∧ Books W3 B (recOf fn a.tmps ps assign body B .busy none) :=
      fun jump W3 k3 => ⟨run_endRound (P := P) jump (hk2.from k3).lp, hk2.from k3⟩
    refine wpIn_mono (hbody _ pre x a' _ hR (hI.own.putObj _ hi' (Nat.le_succ _) hk'.lp rfl) ((hAx x a').putObj (s := ()) _ hax (Nat.le_succ _) hk'.lp rfl)) fun e a3 W3 hp => ?_
    have gone : ∀ c : Code, KeepsFrom w.heap.size (W.putObj (B + 1) (.loop (recOf fn a.tmps ps assign body B .busy none))) W3 → Ix c (pre ++ [x]) W3 →
        ∃ v W4, (Instr.endRound (B + 1) (some c)).run P W3 = .ok v W4 ∧ ((Ending.returned v = .returned (.bool true) ∧ (I (pre ++ [x]) W4 ∧ Books W4 B r0) ∧ Kp V W4) ∨ (Ending.returned v = .returned (.bool false) ∧ ∃ c, Ix c (pre ++ [x]) W4 ∧ Books W4 B (recOf fn a.tmps ps assign body B .done (some c)))) := by
      intro c k3 i3
      obtain ⟨hr, bk⟩ := leave (some c) W3 k3
      exact ⟨_, _, hr, .inr ⟨rfl, c, (hIx _).own.putObj _ i3 (Nat.le_succ _) bk.lp rfl, bk.put _⟩⟩
    cases e with
    | normal =>
      obtain ⟨k3, kp3, i3⟩ := hp
      obtain ⟨hr, bk⟩ := leave none W3 k3
      exact ⟨_, _, hr, .inl ⟨rfl, ⟨hI.own.putObj _ i3 (Nat.le_succ _) bk.lp rfl, bk.put _⟩, hKt kp (hKt (hKt hw2 kp3) (hKb _ _ _ _ (Nat.le_succ _) bk.lp rfl rfl))⟩⟩
    | ret => exact gone .ret hp.1 hp.2
    | exit id => exact gone (.exit id) hp.1 hp.2
    | goto t => exact gone (.goto t) hp.1 hp.2
    | panic ch => exact hp.elim
    | outgrown => exact hp.elim
  case behind =>
    rintro e W2 ⟨⟨v, rfl⟩, ⟨xs, hS, hi, bk⟩ | ⟨pre, hSp, c, hi, bk⟩⟩
    · exact ⟨none, _, run_endLoop (P := P) bk.lp (by simp [r0, recOf]), hdone _ xs _ (Nat.le_refl _) hS (hI.own.putObj _ hi (Nat.le_succ _) bk.lp rfl) ((World.putObj_heap_other (by omega)).trans bk.dl)⟩
    · exact ⟨some c, _, run_endLoop (P := P) bk.lp (by simp [recOf]), hstop _ c pre _ (Nat.le_refl _) hSp ((hIx c).own.putObj _ hi (Nat.le_succ _) bk.lp rfl) ((World.putObj_heap_other (by omega)).trans bk.dl)⟩
end
end Go.Proofs.Ytnmephdamgofnaa.Hand
