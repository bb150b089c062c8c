/- The ways from a state, in plain words: a search in breadth. -/
import Derived.Test.YtbbiihifhdcniaaDoorHandNext
set_option linter.unusedVariables false
set_option linter.unusedSimpArgs false
namespace Go.Proofs.YtbbiihifhdcniaaDoor.Hand
set_option maxRecDepth 100000
open Go.RowKit

abbrev St := List (Int × List Int)
def wayOf (st : St) (s : Int) : Option (List Int) := st.lookup s
def stepW (s : Int) (st : St) (e : Int) : St :=
  match nextO s e with
  | none => st
  | some t => if (wayOf st t).isSome then st else st ++ [(t, (wayOf st s).getD [] ++ [e])]
def events10 : List Int := [0, 1, 2, 3, 4, 5, 6, 7, 8, 9]
def expand (s : Int) (st : St) : St := events10.foldl (stepW s) st
def stAt (a : Int) : Nat → St
  | 0 => [(a, [])]
  | i + 1 => expand ((stAt a i).getD i (0, [])).1 (stAt a i)
theorem st_len : ∀ a ∈ [(0 : Int), 1, 2, 3, 4, 5, 6], (∀ i ∈ List.range 7, i < (stAt a i).length ∧ (stAt a i).length ≤ 7) ∧ (stAt a 7).length = 7 := by decide +kernel
def wayTo (a b : Int) : List Int := (wayOf (stAt a 7) b).getD []
theorem way_short : ∀ a ∈ [(0 : Int), 1, 2, 3, 4, 5, 6], ∀ b ∈ [(0 : Int), 1, 2, 3, 4, 5, 6], (wayOf (stAt a 7) b).isSome = true ∧ (wayTo a b).length ≤ 7 ∧ (a = b ↔ wayTo a b = []) := by decide +kernel
/-- By one event the way that is left is shorter by one at most. -/
theorem way_step : ∀ a ∈ [(0 : Int), 1, 2, 3, 4, 5, 6], ∀ e ∈ events10, ∀ b ∈ [(0 : Int), 1, 2, 3, 4, 5, 6], (match nextO a e with | none => true | some t => [(0 : Int), 1, 2, 3, 4, 5, 6].contains t && decide ((wayTo a b).length ≤ (wayTo t b).length + 1)) = true := by decide +kernel
end Go.Proofs.YtbbiihifhdcniaaDoor.Hand
