/- A region that draws its order, by an invariant of what has been listed. -/
import Derived.Orders
import Derived.Test.YtbbiihifhdcniaaDoorProg
set_option linter.unusedVariables false
namespace Go.Proofs.YtbbiihifhdcniaaDoor.Hand
/-- Each operation waits for earlier ones alone. -/
def fallsB (ops : Array Oper) : Bool := (List.range ops.size).all fun i => match ops[i]? with | some o => o.after.all fun e => decide (e.on < i) | none => true
theorem falls_spec {ops : Array Oper} (h : fallsB ops = true) {i : Nat} {o : Oper} (hi : ops[i]? = some o) : ∀ e ∈ o.after, e.on < i := by
  intro e he
  have hlt : i < ops.size := (Array.getElem?_eq_some_iff.1 hi).1
  have h1 := List.all_eq_true.1 h i (List.mem_range.2 hlt)
  simp only [hi] at h1
  have h2 := Array.all_eq_true'.1 h1 e he
  simpa using h2
theorem all_listed {md : Region.Mode} {ops : Array Oper} (hf : fallsB ops = true) (listed : Array Bool) (hs : listed.size = ops.size) (hr : Region.ready md ops listed = []) : ∀ i, i < listed.size → listed.getD i false = true := by
  intro i
  induction i using Nat.strongRecOn with
  | _ i ih =>
    intro hi
    cases hb : listed.getD i false with
    | true => rfl
    | false =>
      exfalso
      have hlt : i < ops.size := by omega
      have : i ∈ Region.ready md ops listed := by
        refine mem_ready.2 ⟨?_, ops[i], Array.getElem?_eq_getElem hlt, fun e he _ => ?_⟩
        · simpa [Array.getD, hi] using hb
        · have h1 := falls_spec hf (Array.getElem?_eq_getElem hlt) e he
          exact ih e.on h1 (by omega)
      rw [hr] at this
      cases this
theorem wpAny_inv {P : Program} {md : Region.Mode} {ops : Array Oper} {Q : Exit → Act → World → Prop} (hf : fallsB ops = true) (I : Array Bool → Act → World → Prop)
    (hstep : ∀ listed a w, I listed a w → ∀ i ∈ Region.ready md ops listed, wpOp P ops Q i (I (listed.setIfInBounds i true)) a w)
    (hdone : ∀ listed a w, I listed a w → (∀ i, i < listed.size → listed.getD i false = true) → Q .normal a w) :
    ∀ (fuel : Nat) (listed : Array Bool) (a : Act) (w : World), (listed.toList.filter (fun b => !b)).length ≤ fuel → listed.size = ops.size → I listed a w → wpAny P md ops Q fuel listed a w
  | 0, listed, a, w, hfu, hs, h => by
    have hall : ∀ i, i < listed.size → listed.getD i false = true := by
      intro i hi
      have h0 : listed.toList.filter (fun b => !b) = [] := List.length_eq_zero_iff.1 (by omega)
      have := List.filter_eq_nil_iff.1 h0 listed[i] (by simp)
      simpa [Array.getD, hi] using this
    refine ⟨?_, hdone listed a w h hall⟩
    cases hr : Region.ready md ops listed with
    | nil => rfl
    | cons i t =>
      have hi : i ∈ Region.ready md ops listed := by rw [hr]; simp
      obtain ⟨hun, o, ho, _⟩ := mem_ready.1 hi
      have hlt : i < listed.size := by rw [hs]; exact (Array.getElem?_eq_some_iff.1 ho).1
      have := hall i hlt
      simp [Array.getD, hlt] at this hun
      rw [this] at hun
      cases hun
  | fuel + 1, listed, a, w, hfu, hs, h => by
    refine ⟨fun h0 => hdone listed a w h (all_listed hf listed hs h0), fun i hi => ?_⟩
    have hun := (mem_ready.1 hi).1
    refine wpOp_mono (fun a' w' h' => ?_) (hstep listed a w h i hi)
    refine wpAny_inv hf I hstep hdone fuel _ a' w' ?_ (by simp [hs]) h'
    have hlt : i < listed.size := by
      rcases Nat.lt_or_ge i listed.size with h1 | h1
      · exact h1
      · simp [Array.getD, Nat.not_lt.2 h1] at hun
    have hget : listed[i] = false := by simpa [Array.getD, hlt] using hun
    have key : ∀ (l : List Bool) (j : Nat) (hj : j < l.length), l[j] = false → ((l.set j true).filter (fun b => !b)).length + 1 = (l.filter (fun b => !b)).length := by
      intro l
      induction l with
      | nil => intro j hj; simp at hj
      | cons b t ih =>
        intro j hj hb
        cases j with
        | zero =>
          obtain rfl : b = false := by simpa using hb
          simp
        | succ j =>
          have := ih j (by simpa using hj) (by simpa using hb)
          cases b <;> simp at this ⊢ <;> omega
    have h2 := key listed.toList i (by simpa using hlt) (by simpa using hget)
    rw [Array.toList_setIfInBounds]
    omega
/-- A slot that is laid as soon as its operation is listed. -/
def cb (b : Bool) (v : Value) : Value := if b = true then v else undef
end Go.Proofs.YtbbiihifhdcniaaDoor.Hand
