/-
  No cell of these rows narrows 'for every input' (looked for: loops, veiled, ifaces, maps, wideKeys, modest, calm, conditions, laid).
  DERIVED. THE GIVEN ROWS OF THIS SEAT. 3 by the template 'for every input the law returns true; each argument reads behind the call as it read before'; 0 by the template 'total and deterministic' (their statements: YtbbiihifhdcniaaTotals.lean).
  GIVEN WITH THE SEED: the statements are not yours to turn. If you find one false, say at which input.
  Laid BY PROGRAM, IN A SANDBOX (cutbox-rows.mjs): the forced cells as the released guide's own fill.sh prints them over the translation 3af9a3b49f87f51d… (all of the seat's roots in one cut). By AI agents, Wed Nov 11 2026. No macro, syntax, notation, axiom, sorry.
-/
import Derived.Test.YtbbiihifhdcniaaChecked
import GoSem.Claim
import GoSem.ClaimJoined
import GoSem.ClaimMapViews
import Derived.JoinedTies
import Derived.KernelRfl
namespace Go.Proofs.Ytbbiihifhdcniaa
/- THE CELL 'sum', in the pinned program and in every row, IS THE sha256 OF THE DUMP (.gsa) THAT YtbbiihifhdcniaaProg.lean LOADS. Nothing in Lean hashes anything: it is a label: what it is worth is what the hold of that sum in a sandbox is worth. -/
noncomputable def Try.pinned : Pinned := { name := "ytbbiihifhdcniaa", sum := "3af9a3b49f87f51d245bc14c5e700d45809937c0697bdf419d9a438f6ef684ee", checked := Try.checked }
namespace Rows
def none {H : Type} : Left H := { results := [], args := [] }

/-- 'vesperslaw20.ProtocolOrder': WHATEVER THE INPUT: true; the input reads as it did. -/
def protocolOrderSpec : ChangeSpec := { name := "protocolOrder", fn := fun _ => fun
  | [d] => { results := [.lit (.bool true)], args := [d] }
  | _ => none }
def protocolOrderRow : OpenClaim := { program := "ytbbiihifhdcniaa", sum := "3af9a3b49f87f51d245bc14c5e700d45809937c0697bdf419d9a438f6ef684ee", func := "vespers/vesperslaw20.ProtocolOrder", spec := "protocolOrder", unfollowed := true, recurses := true, plainKeys := false, apart := false }
def ProtocolOrderSaid : Prop := protocolOrderRow.holds Try.pinned (OpenSpec.ofChange protocolOrderSpec)

/-- ITS FALSE NEIGHBOUR: 'it returns false'. Refute it at one input. -/
def protocolOrderWrong : ChangeSpec := { name := "protocolOrder", fn := fun _ => fun
  | [d] => { results := [.lit (.bool false)], args := [d] }
  | _ => none }
def ProtocolOrderWrongFalsely : Prop := protocolOrderRow.holds Try.pinned (OpenSpec.ofChange protocolOrderWrong)

/-- 'vesperslaw20.ProtocolWays': WHATEVER THE INPUT: true; the input reads as it did. -/
def protocolWaysSpec : ChangeSpec := { name := "protocolWays", fn := fun _ => fun
  | [d1, d2, d3] => { results := [.lit (.bool true)], args := [d1, d2, d3] }
  | _ => none }
def protocolWaysRow : OpenClaim := { program := "ytbbiihifhdcniaa", sum := "3af9a3b49f87f51d245bc14c5e700d45809937c0697bdf419d9a438f6ef684ee", func := "vespers/vesperslaw20.ProtocolWays", spec := "protocolWays", unfollowed := true, recurses := true, plainKeys := false, apart := false }
def ProtocolWaysSaid : Prop := protocolWaysRow.holds Try.pinned (OpenSpec.ofChange protocolWaysSpec)

/-- ITS FALSE NEIGHBOUR: 'it returns false'. Refute it at one input. -/
def protocolWaysWrong : ChangeSpec := { name := "protocolWays", fn := fun _ => fun
  | [d1, d2, d3] => { results := [.lit (.bool false)], args := [d1, d2, d3] }
  | _ => none }
def ProtocolWaysWrongFalsely : Prop := protocolWaysRow.holds Try.pinned (OpenSpec.ofChange protocolWaysWrong)

/-- 'vesperslaw20.ProtocolParts': WHATEVER THE INPUT: true; the input reads as it did. -/
def protocolPartsSpec : ChangeSpec := { name := "protocolParts", fn := fun _ => fun
  | [d1, d2, d3] => { results := [.lit (.bool true)], args := [d1, d2, d3] }
  | _ => none }
def protocolPartsRow : OpenClaim := { program := "ytbbiihifhdcniaa", sum := "3af9a3b49f87f51d245bc14c5e700d45809937c0697bdf419d9a438f6ef684ee", func := "vespers/vesperslaw20.ProtocolParts", spec := "protocolParts", recurses := true, plainKeys := false, apart := false }
def ProtocolPartsSaid : Prop := protocolPartsRow.holds Try.pinned (OpenSpec.ofChange protocolPartsSpec)

/-- ITS FALSE NEIGHBOUR: 'it returns false'. Refute it at one input. -/
def protocolPartsWrong : ChangeSpec := { name := "protocolParts", fn := fun _ => fun
  | [d1, d2, d3] => { results := [.lit (.bool false)], args := [d1, d2, d3] }
  | _ => none }
def ProtocolPartsWrongFalsely : Prop := protocolPartsRow.holds Try.pinned (OpenSpec.ofChange protocolPartsWrong)

/- THE SECOND FORM. 'bulk': how many values and letters a reading holds, each counted each time it is reached (what is shared counts as often as it is met; a slice's spare places count too). A statement '..UptoSaid' is the law's where the arguments, and the package variables that the reading takes, are together of bulk at most 1048576: NARROWER than '..Said'. Prove '..Said' where nothing that the law and all that it calls make is longer than what came in: it says more and counts as full. Else prove '..UptoSaid'. A law counts once. -/
mutual
def uptoBulk {H : Type} : DataW H → Nat
  | .lit (.string bytes) => bytes.length + 1
  | .lit _ => 1
  | .nil => 1
  | .ptr d => uptoBulk d + 1
  | .slice elems spare => uptoBulkAll elems + uptoBulkAll spare + 1
  | .agg parts => uptoBulkAll parts + 1
  | .iface _ d => uptoBulk d + 1
  | .map entries => uptoBulkEntries entries + 1
  | .held _ => 1
def uptoBulkAll {H : Type} : List (DataW H) → Nat
  | [] => 0
  | d :: r => uptoBulk d + uptoBulkAll r
def uptoBulkEntries {H : Type} : List (Lit × DataW H) → Nat
  | [] => 0
  | x :: r => uptoBulkEntry x + uptoBulkEntries r
def uptoBulkEntry {H : Type} : Lit × DataW H → Nat
  | (.string bytes, d) => bytes.length + uptoBulk d + 1
  | (_, d) => uptoBulk d + 1
 end
def uptoSmall : (H : Type) → List (DataW H) → Bool := fun _ ds => decide (uptoBulkAll ds ≤ 1048576)
def OpenSpec.upto (s : _root_.Go.ChangeSpec) : _root_.Go.OpenSpec := { _root_.Go.OpenSpec.ofChange s with cond := some uptoSmall }

/-- 'vesperslaw20.ProtocolOrder', WHERE WHAT IT READS IS OF BULK AT MOST 1048576: true; the input reads as it did. -/
def protocolOrderUptoRow : OpenClaim := { program := "ytbbiihifhdcniaa", sum := "3af9a3b49f87f51d245bc14c5e700d45809937c0697bdf419d9a438f6ef684ee", func := "vespers/vesperslaw20.ProtocolOrder", spec := "protocolOrder", unfollowed := true, recurses := true, plainKeys := false, apart := false, narrowed := true }
def ProtocolOrderUptoSaid : Prop := protocolOrderUptoRow.holds Try.pinned (OpenSpec.upto protocolOrderSpec)

/-- 'vesperslaw20.ProtocolWays', WHERE WHAT IT READS IS OF BULK AT MOST 1048576: true; the input reads as it did. -/
def protocolWaysUptoRow : OpenClaim := { program := "ytbbiihifhdcniaa", sum := "3af9a3b49f87f51d245bc14c5e700d45809937c0697bdf419d9a438f6ef684ee", func := "vespers/vesperslaw20.ProtocolWays", spec := "protocolWays", unfollowed := true, recurses := true, plainKeys := false, apart := false, narrowed := true }
def ProtocolWaysUptoSaid : Prop := protocolWaysUptoRow.holds Try.pinned (OpenSpec.upto protocolWaysSpec)

/-- 'vesperslaw20.ProtocolParts', WHERE WHAT IT READS IS OF BULK AT MOST 1048576: true; the input reads as it did. -/
def protocolPartsUptoRow : OpenClaim := { program := "ytbbiihifhdcniaa", sum := "3af9a3b49f87f51d245bc14c5e700d45809937c0697bdf419d9a438f6ef684ee", func := "vespers/vesperslaw20.ProtocolParts", spec := "protocolParts", recurses := true, plainKeys := false, apart := false, narrowed := true }
def ProtocolPartsUptoSaid : Prop := protocolPartsUptoRow.holds Try.pinned (OpenSpec.upto protocolPartsSpec)

end Rows
end Go.Proofs.Ytbbiihifhdcniaa
