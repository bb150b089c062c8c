/- Sent, Quiet, Joined: the document's and ours. -/
import Derived.Test.YtcfloaplbmpoaaaPureVec0
set_option linter.unusedVariables false
set_option linter.unusedSimpArgs false
namespace Go.Proofs.Ytcfloaplbmpoaaa.Vec
open Go.RowKit Go.Proofs.Ytcfloaplbmpoaaa.Grp Go.Proofs.Ytcfloaplbmpoaaa.Hand Go.Proofs.Ytcfloaplbmpoaaa.PA Go.Proofs.YtcfloaplbmpoaaaW.PrintWords Go.Proofs.YtcfloaplbmpoaaaW.PrintMore

theorem wf16 {a : Int} (h : (Lit.int .u16 a).wf = true) : G16 a := by
  simp [Lit.wf, IntKind.min, IntKind.max, IntKind.bits, IntKind.signed] at h
  constructor <;> omega
def joinedV (o v : Int) : Int × Int × Int × Int × Int := if nodeB o = true then (o, withoutG v o, 0, 0, 0) else (0, 0, 0, 0, 180)
def sentV (o v a f : Int) : Int × Int × Int × Int × Int := if viewV o v a f = true then (o, withG v o, 1, 0, 0) else (0, 0, 0, 0, 180)
def quietV (o v a f : Int) : Int × Int × Int × Int × Int := if viewV o v a f = true then joinedV o v else (0, 0, 0, 0, 180)
theorem joined_f (o v : Int) : vector_Joined.f o v = some (joinedV o v) := by
  show (if nodeB o = true then some (o, withoutG v o, 0, 0, 0) else some (0, 0, 0, 0, 180)) = some (joinedV o v)
  unfold joinedV
  by_cases h : nodeB o = true
  · rw [if_pos h, if_pos h]
  · rw [if_neg h, if_neg h]
theorem rjoined_eq (o v : Int) : vespersref18_Joined.f o v = some (joinedV o v) := by
  unfold vespersref18_Joined.f joinedV
  by_cases h : nodeB o = true
  · have := (node_iff o).1 h
    rw [if_neg (by omega), if_neg (by omega), without_eq v this.1 this.2, Option.bind_some, if_pos h]
  · rw [if_neg h]
    by_cases h1 : o < 0
    · rw [if_pos h1]
    · rw [if_neg h1, if_pos (by
        have := mt (node_iff o).2 h
        omega)]
theorem sent_f (o v a f : Int) : vector_Sent.f o v a f = some (sentV o v a f) := by
  show (if checkV o v a f = 0 then some (o, withG v o, 1, 0, 0) else some (0, 0, 0, 0, 180)) = some (sentV o v a f)
  unfold sentV
  by_cases h : viewV o v a f = true
  · rw [check_ok h, if_pos rfl, if_pos h]
  · rw [check_bad h, if_neg (by decide), if_neg h]
theorem rsent_eq (o v a f : Int) (k : Nat) (hk : 2 ≤ k) : vespersref18_Sent.f k o v a f = some (sentV o v a f) := by
  unfold vespersref18_Sent.f sentV
  rw [rcheck_eq o v a f k hk, Option.bind_some]
  by_cases h : viewV o v a f = true
  · have := ((view_iff o v a f).1 h).1
    rw [check_ok h, if_pos rfl, if_pos h, with_eq v this.1 this.2, Option.bind_some]
  · rw [check_bad h, if_neg (by decide), if_neg h]
theorem quiet_f (o v a f : Int) : vector_Quiet.f o v a f = some (quietV o v a f) := by
  unfold vector_Quiet.f quietV
  rw [show vector_Check.f o v a f = some (checkV o v a f) from rfl, Option.bind_some, joined_f, Option.bind_some]
  by_cases h : viewV o v a f = true
  · rw [check_ok h, if_pos rfl, if_pos h]
  · rw [check_bad h, if_neg (by decide), if_neg h]
theorem rquiet_eq (o v a f : Int) (k : Nat) (hk : 2 ≤ k) : vespersref18_Quiet.f k o v a f = some (quietV o v a f) := by
  unfold vespersref18_Quiet.f quietV
  rw [rcheck_eq o v a f k hk, Option.bind_some, rjoined_eq, Option.bind_some]
  by_cases h : viewV o v a f = true
  · rw [check_ok h, if_pos rfl, if_pos h]
  · rw [check_bad h, if_neg (by decide), if_neg h]
theorem joined_g16 (o : Int) {v : Int} (hv : G16 v) : G16 (joinedV o v).2.1 := by
  unfold joinedV
  split
  · exact without_g16 hv _
  · exact ⟨by decide, by decide⟩
theorem sent_g16 (o : Int) {v : Int} (a f : Int) (hv : G16 v) : G16 (sentV o v a f).2.1 := by
  unfold sentV
  split
  · exact with_g16 hv _
  · exact ⟨by decide, by decide⟩
theorem quiet_g16 (o : Int) {v : Int} (a f : Int) (hv : G16 v) : G16 (quietV o v a f).2.1 := by
  unfold quietV
  split
  · exact joined_g16 o hv
  · exact ⟨by decide, by decide⟩
end Go.Proofs.Ytcfloaplbmpoaaa.Vec
