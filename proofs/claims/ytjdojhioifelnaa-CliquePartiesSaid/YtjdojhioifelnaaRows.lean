/-
  No cell of these rows narrows 'for every input' (looked for: loops, veiled, ifaces, maps, wideKeys, modest, calm, conditions, laid).
  DERIVED. THE GIVEN ROWS OF THIS SEAT. 5 by the template 'for every input the law returns true; each argument reads behind the call as it read before'; 0 by the template 'total and deterministic' (their statements: YtjdojhioifelnaaTotals.lean).
  GIVEN WITH THE SEED: the statements are not yours to turn. If you find one false, say at which input.
  Laid BY PROGRAM, IN A SANDBOX (cutbox-rows.mjs): the forced cells as the released guide's own fill.sh prints them over the translation bcad18afbf3190a7… (all of the seat's roots in one cut). By AI agents, Wed Nov 11 2026. No macro, syntax, notation, axiom, sorry.
-/
import Derived.Test.YtjdojhioifelnaaChecked
import GoSem.Claim
import GoSem.ClaimJoined
import GoSem.ClaimMapViews
import Derived.JoinedTies
import Derived.KernelRfl
namespace Go.Proofs.Ytjdojhioifelnaa
/- THE CELL 'sum', in the pinned program and in every row, IS THE sha256 OF THE DUMP (.gsa) THAT YtjdojhioifelnaaProg.lean LOADS. Nothing in Lean hashes anything: it is a label: what it is worth is what the hold of that sum in a sandbox is worth. -/
noncomputable def Try.pinned : Pinned := { name := "ytjdojhioifelnaa", sum := "bcad18afbf3190a707c65226734cd4907d0f57f47c9b1e922d5acc64ea23417e", checked := Try.checked }
namespace Rows
def none {H : Type} : Left H := { results := [], args := [] }

/-- 'vesperslaw19.CliqueOrder': WHATEVER THE INPUT: true; the input reads as it did. -/
def cliqueOrderSpec : ChangeSpec := { name := "cliqueOrder", fn := fun _ => fun
  | [d1, d2, d3] => { results := [.lit (.bool true)], args := [d1, d2, d3] }
  | _ => none }
def cliqueOrderRow : OpenClaim := { program := "ytjdojhioifelnaa", sum := "bcad18afbf3190a707c65226734cd4907d0f57f47c9b1e922d5acc64ea23417e", func := "vespers/vesperslaw19.CliqueOrder", spec := "cliqueOrder", unfollowed := true, recurses := true, apart := false }
def CliqueOrderSaid : Prop := cliqueOrderRow.holds Try.pinned (OpenSpec.ofChange cliqueOrderSpec)

/-- ITS FALSE NEIGHBOUR: 'it returns false'. Refute it at one input. -/
def cliqueOrderWrong : ChangeSpec := { name := "cliqueOrder", fn := fun _ => fun
  | [d1, d2, d3] => { results := [.lit (.bool false)], args := [d1, d2, d3] }
  | _ => none }
def CliqueOrderWrongFalsely : Prop := cliqueOrderRow.holds Try.pinned (OpenSpec.ofChange cliqueOrderWrong)

/-- 'vesperslaw19.CliqueCounts': WHATEVER THE INPUT: true; the input reads as it did. -/
def cliqueCountsSpec : ChangeSpec := { name := "cliqueCounts", fn := fun _ => fun
  | [d1, d2, d3, d4, d5] => { results := [.lit (.bool true)], args := [d1, d2, d3, d4, d5] }
  | _ => none }
def cliqueCountsRow : OpenClaim := { program := "ytjdojhioifelnaa", sum := "bcad18afbf3190a707c65226734cd4907d0f57f47c9b1e922d5acc64ea23417e", func := "vespers/vesperslaw19.CliqueCounts", spec := "cliqueCounts", unfollowed := true, recurses := true, apart := false }
def CliqueCountsSaid : Prop := cliqueCountsRow.holds Try.pinned (OpenSpec.ofChange cliqueCountsSpec)

/-- ITS FALSE NEIGHBOUR: 'it returns false'. Refute it at one input. -/
def cliqueCountsWrong : ChangeSpec := { name := "cliqueCounts", fn := fun _ => fun
  | [d1, d2, d3, d4, d5] => { results := [.lit (.bool false)], args := [d1, d2, d3, d4, d5] }
  | _ => none }
def CliqueCountsWrongFalsely : Prop := cliqueCountsRow.holds Try.pinned (OpenSpec.ofChange cliqueCountsWrong)

/-- 'vesperslaw19.CliqueNames': WHATEVER THE INPUT: true; the input reads as it did. -/
def cliqueNamesSpec : ChangeSpec := { name := "cliqueNames", fn := fun _ => fun
  | [] => { results := [.lit (.bool true)], args := [] }
  | _ => none }
def cliqueNamesRow : OpenClaim := { program := "ytjdojhioifelnaa", sum := "bcad18afbf3190a707c65226734cd4907d0f57f47c9b1e922d5acc64ea23417e", func := "vespers/vesperslaw19.CliqueNames", spec := "cliqueNames", unfollowed := true, recurses := true, apart := false }
def CliqueNamesSaid : Prop := cliqueNamesRow.holds Try.pinned (OpenSpec.ofChange cliqueNamesSpec)

/-- ITS FALSE NEIGHBOUR: 'it returns false'. Refute it at one input. -/
def cliqueNamesWrong : ChangeSpec := { name := "cliqueNames", fn := fun _ => fun
  | [] => { results := [.lit (.bool false)], args := [] }
  | _ => none }
def CliqueNamesWrongFalsely : Prop := cliqueNamesRow.holds Try.pinned (OpenSpec.ofChange cliqueNamesWrong)

/-- 'vesperslaw19.CliqueFollows': WHATEVER THE INPUT: true; the input reads as it did. -/
def cliqueFollowsSpec : ChangeSpec := { name := "cliqueFollows", fn := fun _ => fun
  | [d1, d2, d3, d4] => { results := [.lit (.bool true)], args := [d1, d2, d3, d4] }
  | _ => none }
def cliqueFollowsRow : OpenClaim := { program := "ytjdojhioifelnaa", sum := "bcad18afbf3190a707c65226734cd4907d0f57f47c9b1e922d5acc64ea23417e", func := "vespers/vesperslaw19.CliqueFollows", spec := "cliqueFollows", unfollowed := true, recurses := true, apart := false }
def CliqueFollowsSaid : Prop := cliqueFollowsRow.holds Try.pinned (OpenSpec.ofChange cliqueFollowsSpec)

/-- ITS FALSE NEIGHBOUR: 'it returns false'. Refute it at one input. -/
def cliqueFollowsWrong : ChangeSpec := { name := "cliqueFollows", fn := fun _ => fun
  | [d1, d2, d3, d4] => { results := [.lit (.bool false)], args := [d1, d2, d3, d4] }
  | _ => none }
def CliqueFollowsWrongFalsely : Prop := cliqueFollowsRow.holds Try.pinned (OpenSpec.ofChange cliqueFollowsWrong)

/-- 'vesperslaw19.CliqueParties': WHATEVER THE INPUT: true; the input reads as it did. -/
def cliquePartiesSpec : ChangeSpec := { name := "cliqueParties", fn := fun _ => fun
  | [d1, d2, d3] => { results := [.lit (.bool true)], args := [d1, d2, d3] }
  | _ => none }
def cliquePartiesRow : OpenClaim := { program := "ytjdojhioifelnaa", sum := "bcad18afbf3190a707c65226734cd4907d0f57f47c9b1e922d5acc64ea23417e", func := "vespers/vesperslaw19.CliqueParties", spec := "cliqueParties", unfollowed := true, recurses := true, apart := false }
def CliquePartiesSaid : Prop := cliquePartiesRow.holds Try.pinned (OpenSpec.ofChange cliquePartiesSpec)

/-- ITS FALSE NEIGHBOUR: 'it returns false'. Refute it at one input. -/
def cliquePartiesWrong : ChangeSpec := { name := "cliqueParties", fn := fun _ => fun
  | [d1, d2, d3] => { results := [.lit (.bool false)], args := [d1, d2, d3] }
  | _ => none }
def CliquePartiesWrongFalsely : Prop := cliquePartiesRow.holds Try.pinned (OpenSpec.ofChange cliquePartiesWrong)

/- THE SECOND FORM. 'bulk': how many values and letters a reading holds, each counted each time it is reached (what is shared counts as often as it is met; a slice's spare places count too). A statement '..UptoSaid' is the law's where the arguments, and the package variables that the reading takes, are together of bulk at most 1048576: NARROWER than '..Said'. Prove '..Said' where nothing that the law and all that it calls make is longer than what came in: it says more and counts as full. Else prove '..UptoSaid'. A law counts once. -/
mutual
def uptoBulk {H : Type} : DataW H → Nat
  | .lit (.string bytes) => bytes.length + 1
  | .lit _ => 1
  | .nil => 1
  | .ptr d => uptoBulk d + 1
  | .slice elems spare => uptoBulkAll elems + uptoBulkAll spare + 1
  | .agg parts => uptoBulkAll parts + 1
  | .iface _ d => uptoBulk d + 1
  | .map entries => uptoBulkEntries entries + 1
  | .held _ => 1
def uptoBulkAll {H : Type} : List (DataW H) → Nat
  | [] => 0
  | d :: r => uptoBulk d + uptoBulkAll r
def uptoBulkEntries {H : Type} : List (Lit × DataW H) → Nat
  | [] => 0
  | x :: r => uptoBulkEntry x + uptoBulkEntries r
def uptoBulkEntry {H : Type} : Lit × DataW H → Nat
  | (.string bytes, d) => bytes.length + uptoBulk d + 1
  | (_, d) => uptoBulk d + 1
 end
def uptoSmall : (H : Type) → List (DataW H) → Bool := fun _ ds => decide (uptoBulkAll ds ≤ 1048576)
def OpenSpec.upto (s : _root_.Go.ChangeSpec) : _root_.Go.OpenSpec := { _root_.Go.OpenSpec.ofChange s with cond := some uptoSmall }

/-- 'vesperslaw19.CliqueOrder', WHERE WHAT IT READS IS OF BULK AT MOST 1048576: true; the input reads as it did. -/
def cliqueOrderUptoRow : OpenClaim := { program := "ytjdojhioifelnaa", sum := "bcad18afbf3190a707c65226734cd4907d0f57f47c9b1e922d5acc64ea23417e", func := "vespers/vesperslaw19.CliqueOrder", spec := "cliqueOrder", unfollowed := true, recurses := true, apart := false, narrowed := true }
def CliqueOrderUptoSaid : Prop := cliqueOrderUptoRow.holds Try.pinned (OpenSpec.upto cliqueOrderSpec)

/-- 'vesperslaw19.CliqueCounts', WHERE WHAT IT READS IS OF BULK AT MOST 1048576: true; the input reads as it did. -/
def cliqueCountsUptoRow : OpenClaim := { program := "ytjdojhioifelnaa", sum := "bcad18afbf3190a707c65226734cd4907d0f57f47c9b1e922d5acc64ea23417e", func := "vespers/vesperslaw19.CliqueCounts", spec := "cliqueCounts", unfollowed := true, recurses := true, apart := false, narrowed := true }
def CliqueCountsUptoSaid : Prop := cliqueCountsUptoRow.holds Try.pinned (OpenSpec.upto cliqueCountsSpec)

/-- 'vesperslaw19.CliqueNames', WHERE WHAT IT READS IS OF BULK AT MOST 1048576: true; the input reads as it did. -/
def cliqueNamesUptoRow : OpenClaim := { program := "ytjdojhioifelnaa", sum := "bcad18afbf3190a707c65226734cd4907d0f57f47c9b1e922d5acc64ea23417e", func := "vespers/vesperslaw19.CliqueNames", spec := "cliqueNames", unfollowed := true, recurses := true, apart := false, narrowed := true }
def CliqueNamesUptoSaid : Prop := cliqueNamesUptoRow.holds Try.pinned (OpenSpec.upto cliqueNamesSpec)

/-- 'vesperslaw19.CliqueFollows', WHERE WHAT IT READS IS OF BULK AT MOST 1048576: true; the input reads as it did. -/
def cliqueFollowsUptoRow : OpenClaim := { program := "ytjdojhioifelnaa", sum := "bcad18afbf3190a707c65226734cd4907d0f57f47c9b1e922d5acc64ea23417e", func := "vespers/vesperslaw19.CliqueFollows", spec := "cliqueFollows", unfollowed := true, recurses := true, apart := false, narrowed := true }
def CliqueFollowsUptoSaid : Prop := cliqueFollowsUptoRow.holds Try.pinned (OpenSpec.upto cliqueFollowsSpec)

/-- 'vesperslaw19.CliqueParties', WHERE WHAT IT READS IS OF BULK AT MOST 1048576: true; the input reads as it did. -/
def cliquePartiesUptoRow : OpenClaim := { program := "ytjdojhioifelnaa", sum := "bcad18afbf3190a707c65226734cd4907d0f57f47c9b1e922d5acc64ea23417e", func := "vespers/vesperslaw19.CliqueParties", spec := "cliqueParties", unfollowed := true, recurses := true, apart := false, narrowed := true }
def CliquePartiesUptoSaid : Prop := cliquePartiesUptoRow.holds Try.pinned (OpenSpec.upto cliquePartiesSpec)

end Rows
end Go.Proofs.Ytjdojhioifelnaa
