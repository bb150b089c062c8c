/-
  No cell of these rows narrows 'for every input' (looked for: loops, veiled, ifaces, maps, wideKeys, modest, calm, conditions, laid).
  DERIVED. THE GIVEN ROWS OF THIS SEAT. 5 by the template 'for every input the law returns true; each argument reads behind the call as it read before'; 0 by the template 'total and deterministic' (their statements: YtcfloaplbmpoaaaTotals.lean).
  GIVEN WITH THE SEED: the statements are not yours to turn. If you find one false, say at which input.
  Laid BY PROGRAM, IN A SANDBOX (cutbox-rows.mjs): the forced cells as the released guide's own fill.sh prints them over the translation 38a2c4cb73df2646… (all of the seat's roots in one cut). By AI agents, Wed Nov 11 2026. No macro, syntax, notation, axiom, sorry.
-/
import Derived.Test.YtcfloaplbmpoaaaChecked
import GoSem.Claim
import GoSem.ClaimJoined
import GoSem.ClaimMapViews
import Derived.JoinedTies
import Derived.KernelRfl
namespace Go.Proofs.Ytcfloaplbmpoaaa
/- THE CELL 'sum', in the pinned program and in every row, IS THE sha256 OF THE DUMP (.gsa) THAT YtcfloaplbmpoaaaProg.lean LOADS. Nothing in Lean hashes anything: it is a label: what it is worth is what the hold of that sum in a sandbox is worth. -/
noncomputable def Try.pinned : Pinned := { name := "ytcfloaplbmpoaaa", sum := "38a2c4cb73df2646baba699750a195a4de477fcc460eda2a8dc39b4f0a8eb0fe", checked := Try.checked }
namespace Rows
def none {H : Type} : Left H := { results := [], args := [] }

/-- 'vesperslaw18.VectorSteps': WHATEVER THE INPUT: true; the input reads as it did. -/
def vectorStepsSpec : ChangeSpec := { name := "vectorSteps", fn := fun _ => fun
  | [d1, d2, d3, d4, d5] => { results := [.lit (.bool true)], args := [d1, d2, d3, d4, d5] }
  | _ => none }
def vectorStepsRow : OpenClaim := { program := "ytcfloaplbmpoaaa", sum := "38a2c4cb73df2646baba699750a195a4de477fcc460eda2a8dc39b4f0a8eb0fe", func := "vespers/vesperslaw18.VectorSteps", spec := "vectorSteps", unfollowed := true, recurses := true, apart := false }
def VectorStepsSaid : Prop := vectorStepsRow.holds Try.pinned (OpenSpec.ofChange vectorStepsSpec)

/-- ITS FALSE NEIGHBOUR: 'it returns false'. Refute it at one input. -/
def vectorStepsWrong : ChangeSpec := { name := "vectorSteps", fn := fun _ => fun
  | [d1, d2, d3, d4, d5] => { results := [.lit (.bool false)], args := [d1, d2, d3, d4, d5] }
  | _ => none }
def VectorStepsWrongFalsely : Prop := vectorStepsRow.holds Try.pinned (OpenSpec.ofChange vectorStepsWrong)

/-- 'vesperslaw18.VectorRuns': WHATEVER THE INPUT: true; the input reads as it did. -/
def vectorRunsSpec : ChangeSpec := { name := "vectorRuns", fn := fun _ => fun
  | [d1, d2, d3, d4] => { results := [.lit (.bool true)], args := [d1, d2, d3, d4] }
  | _ => none }
def vectorRunsRow : OpenClaim := { program := "ytcfloaplbmpoaaa", sum := "38a2c4cb73df2646baba699750a195a4de477fcc460eda2a8dc39b4f0a8eb0fe", func := "vespers/vesperslaw18.VectorRuns", spec := "vectorRuns", unfollowed := true, recurses := true, apart := false }
def VectorRunsSaid : Prop := vectorRunsRow.holds Try.pinned (OpenSpec.ofChange vectorRunsSpec)

/-- ITS FALSE NEIGHBOUR: 'it returns false'. Refute it at one input. -/
def vectorRunsWrong : ChangeSpec := { name := "vectorRuns", fn := fun _ => fun
  | [d1, d2, d3, d4] => { results := [.lit (.bool false)], args := [d1, d2, d3, d4] }
  | _ => none }
def VectorRunsWrongFalsely : Prop := vectorRunsRow.holds Try.pinned (OpenSpec.ofChange vectorRunsWrong)

/-- 'vesperslaw18.VectorNames': WHATEVER THE INPUT: true; the input reads as it did. -/
def vectorNamesSpec : ChangeSpec := { name := "vectorNames", fn := fun _ => fun
  | [] => { results := [.lit (.bool true)], args := [] }
  | _ => none }
def vectorNamesRow : OpenClaim := { program := "ytcfloaplbmpoaaa", sum := "38a2c4cb73df2646baba699750a195a4de477fcc460eda2a8dc39b4f0a8eb0fe", func := "vespers/vesperslaw18.VectorNames", spec := "vectorNames", unfollowed := true, recurses := true, apart := false }
def VectorNamesSaid : Prop := vectorNamesRow.holds Try.pinned (OpenSpec.ofChange vectorNamesSpec)

/-- ITS FALSE NEIGHBOUR: 'it returns false'. Refute it at one input. -/
def vectorNamesWrong : ChangeSpec := { name := "vectorNames", fn := fun _ => fun
  | [] => { results := [.lit (.bool false)], args := [] }
  | _ => none }
def VectorNamesWrongFalsely : Prop := vectorNamesRow.holds Try.pinned (OpenSpec.ofChange vectorNamesWrong)

/-- 'vesperslaw18.VectorFaults': WHATEVER THE INPUT: true; the input reads as it did. -/
def vectorFaultsSpec : ChangeSpec := { name := "vectorFaults", fn := fun _ => fun
  | [d1, d2, d3, d4] => { results := [.lit (.bool true)], args := [d1, d2, d3, d4] }
  | _ => none }
def vectorFaultsRow : OpenClaim := { program := "ytcfloaplbmpoaaa", sum := "38a2c4cb73df2646baba699750a195a4de477fcc460eda2a8dc39b4f0a8eb0fe", func := "vespers/vesperslaw18.VectorFaults", spec := "vectorFaults", unfollowed := true, recurses := true, apart := false }
def VectorFaultsSaid : Prop := vectorFaultsRow.holds Try.pinned (OpenSpec.ofChange vectorFaultsSpec)

/-- ITS FALSE NEIGHBOUR: 'it returns false'. Refute it at one input. -/
def vectorFaultsWrong : ChangeSpec := { name := "vectorFaults", fn := fun _ => fun
  | [d1, d2, d3, d4] => { results := [.lit (.bool false)], args := [d1, d2, d3, d4] }
  | _ => none }
def VectorFaultsWrongFalsely : Prop := vectorFaultsRow.holds Try.pinned (OpenSpec.ofChange vectorFaultsWrong)

/-- 'vesperslaw18.VectorCalm': WHATEVER THE INPUT: true; the input reads as it did. -/
def vectorCalmSpec : ChangeSpec := { name := "vectorCalm", fn := fun _ => fun
  | [d1, d2] => { results := [.lit (.bool true)], args := [d1, d2] }
  | _ => none }
def vectorCalmRow : OpenClaim := { program := "ytcfloaplbmpoaaa", sum := "38a2c4cb73df2646baba699750a195a4de477fcc460eda2a8dc39b4f0a8eb0fe", func := "vespers/vesperslaw18.VectorCalm", spec := "vectorCalm", unfollowed := true, recurses := true, apart := false }
def VectorCalmSaid : Prop := vectorCalmRow.holds Try.pinned (OpenSpec.ofChange vectorCalmSpec)

/-- ITS FALSE NEIGHBOUR: 'it returns false'. Refute it at one input. -/
def vectorCalmWrong : ChangeSpec := { name := "vectorCalm", fn := fun _ => fun
  | [d1, d2] => { results := [.lit (.bool false)], args := [d1, d2] }
  | _ => none }
def VectorCalmWrongFalsely : Prop := vectorCalmRow.holds Try.pinned (OpenSpec.ofChange vectorCalmWrong)

/- THE SECOND FORM. 'bulk': how many values and letters a reading holds, each counted each time it is reached (what is shared counts as often as it is met; a slice's spare places count too). A statement '..UptoSaid' is the law's where the arguments, and the package variables that the reading takes, are together of bulk at most 1048576: NARROWER than '..Said'. Prove '..Said' where nothing that the law and all that it calls make is longer than what came in: it says more and counts as full. Else prove '..UptoSaid'. A law counts once. -/
mutual
def uptoBulk {H : Type} : DataW H → Nat
  | .lit (.string bytes) => bytes.length + 1
  | .lit _ => 1
  | .nil => 1
  | .ptr d => uptoBulk d + 1
  | .slice elems spare => uptoBulkAll elems + uptoBulkAll spare + 1
  | .agg parts => uptoBulkAll parts + 1
  | .iface _ d => uptoBulk d + 1
  | .map entries => uptoBulkEntries entries + 1
  | .held _ => 1
def uptoBulkAll {H : Type} : List (DataW H) → Nat
  | [] => 0
  | d :: r => uptoBulk d + uptoBulkAll r
def uptoBulkEntries {H : Type} : List (Lit × DataW H) → Nat
  | [] => 0
  | x :: r => uptoBulkEntry x + uptoBulkEntries r
def uptoBulkEntry {H : Type} : Lit × DataW H → Nat
  | (.string bytes, d) => bytes.length + uptoBulk d + 1
  | (_, d) => uptoBulk d + 1
 end
def uptoSmall : (H : Type) → List (DataW H) → Bool := fun _ ds => decide (uptoBulkAll ds ≤ 1048576)
def OpenSpec.upto (s : _root_.Go.ChangeSpec) : _root_.Go.OpenSpec := { _root_.Go.OpenSpec.ofChange s with cond := some uptoSmall }

/-- 'vesperslaw18.VectorSteps', WHERE WHAT IT READS IS OF BULK AT MOST 1048576: true; the input reads as it did. -/
def vectorStepsUptoRow : OpenClaim := { program := "ytcfloaplbmpoaaa", sum := "38a2c4cb73df2646baba699750a195a4de477fcc460eda2a8dc39b4f0a8eb0fe", func := "vespers/vesperslaw18.VectorSteps", spec := "vectorSteps", unfollowed := true, recurses := true, apart := false, narrowed := true }
def VectorStepsUptoSaid : Prop := vectorStepsUptoRow.holds Try.pinned (OpenSpec.upto vectorStepsSpec)

/-- 'vesperslaw18.VectorRuns', WHERE WHAT IT READS IS OF BULK AT MOST 1048576: true; the input reads as it did. -/
def vectorRunsUptoRow : OpenClaim := { program := "ytcfloaplbmpoaaa", sum := "38a2c4cb73df2646baba699750a195a4de477fcc460eda2a8dc39b4f0a8eb0fe", func := "vespers/vesperslaw18.VectorRuns", spec := "vectorRuns", unfollowed := true, recurses := true, apart := false, narrowed := true }
def VectorRunsUptoSaid : Prop := vectorRunsUptoRow.holds Try.pinned (OpenSpec.upto vectorRunsSpec)

/-- 'vesperslaw18.VectorNames', WHERE WHAT IT READS IS OF BULK AT MOST 1048576: true; the input reads as it did. -/
def vectorNamesUptoRow : OpenClaim := { program := "ytcfloaplbmpoaaa", sum := "38a2c4cb73df2646baba699750a195a4de477fcc460eda2a8dc39b4f0a8eb0fe", func := "vespers/vesperslaw18.VectorNames", spec := "vectorNames", unfollowed := true, recurses := true, apart := false, narrowed := true }
def VectorNamesUptoSaid : Prop := vectorNamesUptoRow.holds Try.pinned (OpenSpec.upto vectorNamesSpec)

/-- 'vesperslaw18.VectorFaults', WHERE WHAT IT READS IS OF BULK AT MOST 1048576: true; the input reads as it did. -/
def vectorFaultsUptoRow : OpenClaim := { program := "ytcfloaplbmpoaaa", sum := "38a2c4cb73df2646baba699750a195a4de477fcc460eda2a8dc39b4f0a8eb0fe", func := "vespers/vesperslaw18.VectorFaults", spec := "vectorFaults", unfollowed := true, recurses := true, apart := false, narrowed := true }
def VectorFaultsUptoSaid : Prop := vectorFaultsUptoRow.holds Try.pinned (OpenSpec.upto vectorFaultsSpec)

/-- 'vesperslaw18.VectorCalm', WHERE WHAT IT READS IS OF BULK AT MOST 1048576: true; the input reads as it did. -/
def vectorCalmUptoRow : OpenClaim := { program := "ytcfloaplbmpoaaa", sum := "38a2c4cb73df2646baba699750a195a4de477fcc460eda2a8dc39b4f0a8eb0fe", func := "vespers/vesperslaw18.VectorCalm", spec := "vectorCalm", unfollowed := true, recurses := true, apart := false, narrowed := true }
def VectorCalmUptoSaid : Prop := vectorCalmUptoRow.holds Try.pinned (OpenSpec.upto vectorCalmSpec)

end Rows
end Go.Proofs.Ytcfloaplbmpoaaa
