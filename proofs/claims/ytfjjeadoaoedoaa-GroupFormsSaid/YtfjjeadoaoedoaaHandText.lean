/- What 'group.Text' computes, by hand: a builder in a loop over a list. -/
import Derived.Test.YtfjjeadoaoedoaaHandBuilder
set_option linter.unusedVariables false
set_option linter.unusedSimpArgs false
namespace Go.Proofs.Ytfjjeadoaoedoaa.Hand
open Go.RowKit Go.Shelf Go.Proofs.Ytfjjeadoaoedoaa.Grp Go.Proofs.YtfjjeadoaoedoaaW.PrintWords Go.Proofs.YtfjjeadoaoedoaaW.PrintMore
attribute [local go_sem] Oper.semAt_some

/-- The sign of a node. -/
def digs : ByteArray := ⟨#[48, 49, 50, 51, 52, 53, 54, 55, 56, 57, 97, 98, 99, 100, 101, 102]⟩
def dig (n : Int) : UInt8 := UInt8.ofNat (bt digs n).toNat
theorem dig_int (n : Int) : ((dig n).toNat : Int) = bt digs n := by
  have := bt_range digs n
  unfold dig
  rw [UInt8.toNat_ofNat']
  omega
def textL (l : List Int) : List UInt8 := l.map dig
def textG (g : Int) : ByteArray := if g = 0 then ⟨#[45]⟩ else ⟨(textL (listG g)).toArray⟩
theorem list_range {g x : Int} (h : x ∈ listG g) : 0 ≤ x ∧ x < 16 := by
  have : ∀ y ∈ aftL 15 16, 0 ≤ y ∧ y < 16 := by decide +kernel
  exact this x (List.mem_filter.1 h).1
theorem byteCells_snoc (l : List UInt8) (b : UInt8) : Lib.byteCells (l ++ [b]) = Lib.byteCells l ++ [.int .u8 (b.toNat : Int)] := by simp [Lib.byteCells]

theorem own_ne {w : World} {base n : Nat} {e : TypeId} {v : Value} {xs : List Value} (h : w.ownsRow base e 1 v n xs) (h0 : n ≠ 0) : ∃ L cap cur, v = .slice (some ⟨L, 0, none⟩) n cap ∧ base ≤ L ∧ w.heap[L]? = some (.cells cur e (0, 0)) ∧ cur.toList.take (n * 1) = xs := by
  rcases h.2 with ⟨_, h1⟩ | ⟨L, cap, cur, hv, hb, hL, _, _, _, ht⟩
  · exact absurd h1 h0
  · exact ⟨L, cap, cur, hv, hb, hL, ht⟩
theorem text_zero (w : World) : Calls Try.prog 34 #[.int .u16 0] w fun e w' => e = .returned (.string ⟨#[45]⟩) ∧ Below w.heap.size w w' := by
  go_enter Try.func34, Try.ntmps34
  go_wp2
  go_ret
  exact ⟨rfl, Below.refl _ _⟩
set_option maxRecDepth 100000 in
set_option maxHeartbeats 4000000 in
theorem text_pos (g : Int) (hg : (g == 0) = false) (hne : listG g ≠ []) (w : World) : Calls Try.prog 34 #[.int .u16 g] w fun e w' => e = .returned (.string ⟨(textL (listG g)).toArray⟩) ∧ Below w.heap.size w w' := by
  go_enter Try.func34, Try.ntmps34
  go_wp2_with (go_at_call 11; refine (callsIn_wide.1 (list_in g _)).mono ?_; rintro e W1 ⟨v, rfl, ho, hb⟩; obtain ⟨L, cap, cur, rfl, hLb, hL, htk⟩ := own_ne ho (fun h0 => hne (List.length_eq_zero_iff.1 h0)))
  have hLw : w.heap.size + 1 ≤ L := by simpa using hLb
  have hsize : w.heap.size + 1 ≤ W1.heap.size := by simpa using hb.size
  have hI0 : Lib.IsBuilderF 57 5 w.heap.size w.heap.size (Lib.byteCells []) W1 := by
    refine .inl ⟨Nat.le_refl _, .slice none 0 0, (hb.block _ (by simp)).trans (World.alloc_heap_new w _), ⟨by simp [Lib.byteCells], .inl ⟨rfl, rfl⟩⟩, by simp [Value.ownBlock]⟩
  have hB1 : Below w.heap.size w W1 := ((Below.refl _ w).alloc (Nat.le_refl _) _).trans (hb.mono (by simp))
  have hcell : ∀ (wr : World) (i : Nat), wr.heap[L]? = some (.cells cur 3 (0, 0)) → i < (listG g).length → wr.cell? ⟨L, i, none⟩ = some (.int .i64 (rd (listG g) (i : Int))) := by
    intro wr i hh hi
    have e1 : cur.toList.take ((listG g).length * 1) = (listG g).map (Value.int .i64) := htk
    have e2 : cur[i]? = some (.int .i64 (rd (listG g) (i : Int))) := by
      have := congrArg (fun l => l[i]?) e1
      simp only [List.getElem?_take, Nat.mul_one, if_pos hi, List.getElem?_map, List.getElem?_eq_getElem hi, Option.map_some, Array.getElem?_toList] at this
      rw [this]
      unfold rd
      rw [Int.toNat_natCast, List.getD_eq_getElem?_getD, List.getElem?_eq_getElem hi, Option.getD_some]
    rw [Lib.cell_of_heap hh]
    exact e2
  clear htk
  go_loopw [5, 11] (fun _ i wr => ∃ k : Nat, k ≤ (listG g).length ∧ i = .int .i64 k ∧ Lib.IsBuilderF 57 5 w.heap.size w.heap.size (Lib.byteCells (textL ((listG g).take k))) wr ∧ wr.heap[L]? = some (.cells cur 3 (0, 0)) ∧ Below w.heap.size w wr) (fun _ i _ => (listG g).length - (intOf i).toNat)
  case atStart => exact ⟨0, Nat.zero_le _, rfl, hI0, hL, hB1⟩
  case round =>
    obtain ⟨k, hk, rfl, hI, hh, hbw⟩ := hrel
    have hl16 : (listG g).length ≤ 16 := by
      have := List.length_filter_le (fun x => hasB g x) (aftL 15 16)
      rw [aftL_len] at this
      exact this
    by_cases hlt : k < (listG g).length
    · have hc := hcell wr k hh hlt
      have hmem : rd (listG g) (k : Int) ∈ listG g := by
        unfold rd
        rw [Int.toNat_natCast, List.getD_eq_getElem?_getD, List.getElem?_eq_getElem hlt, Option.getD_some]
        exact List.getElem_mem hlt
      have hr := list_range hmem
      have htk : (listG g).take (k + 1) = (listG g).take k ++ [rd (listG g) (k : Int)] := by
        rw [List.take_succ_eq_append_getElem hlt]
        unfold rd
        rw [Int.toNat_natCast, List.getD_eq_getElem?_getD, List.getElem?_eq_getElem hlt, Option.getD_some]
      obtain ⟨x, hx⟩ : ∃ x, rd (listG g) (k : Int) = x := ⟨_, rfl⟩
      rw [hx] at hc hr htk
      clear hmem hcell
      have p1 : 0 ≤ x := hr.1
      have p2 : x < 16 := hr.2
      have hbt := bt_at digs x
      unfold digs at hbt
      go_wp2_with (go_at_call 44; refine (wbyte w.heap.size w.heap.size _ _ _ hI (by simp [Lib.byteCells, textL]; omega) hbw.size).mono ?_)
      rintro e W2 ⟨rfl, h1, b1, k1⟩
      have hh2 := k1 L _ hh (by simp; omega) (by intro c fz e; simp at e)
      have e3 : Lib.byteCells (textL ((listG g).take k)) ++ [Value.int .u8 (bt digs x)] = Lib.byteCells (textL ((listG g).take (k + 1))) := by
        rw [htk]
        unfold textL
        rw [List.map_append, List.map_cons, List.map_nil, byteCells_snoc, dig_int]
      have h2 : Lib.IsBuilderF 57 5 w.heap.size w.heap.size (Lib.byteCells (textL ((listG g).take (k + 1)))) W2 := by
        rw [← e3]
        exact .inr h1
      clear h1 e3 hbt
      go_wp2
      go_roundw
      case rel => exact ⟨k + 1, by omega, by go_num, h2, hh2, hbw.trans b1⟩
      case measure => simp [intOf]; omega
    · obtain rfl : k = (listG g).length := by omega
      rw [List.take_length] at hI
      go_wp2_with (go_at_call 45; refine (bstring w.heap.size w.heap.size _ _ hI hbw.size).mono ?_)
      rintro e W3 ⟨rfl, _, b1, _⟩
      go_wp2
      go_ret
      exact ⟨rfl, hbw.trans b1⟩
def group_Text.f (a0 : Int) : Option ByteArray := if (a0 == 0) = true then some ⟨#[45]⟩ else if listG a0 = [] then none else some ⟨(textL (listG a0)).toArray⟩
theorem group_Text.calls (a0 : Int) (r : ByteArray) (w : World) (h : group_Text.f a0 = some r) : Calls Try.prog 34 #[.int .u16 a0] w fun e w' => e = .returned (.string r) ∧ Below w.heap.size w w' := by
  unfold group_Text.f at h
  by_cases h0 : (a0 == 0) = true
  · rw [if_pos h0] at h
    obtain rfl := Option.some.inj h
    obtain rfl : a0 = 0 := by simpa using h0
    exact text_zero w
  · rw [if_neg h0] at h
    by_cases h1 : listG a0 = []
    · rw [if_pos h1] at h
      cases h
    · rw [if_neg h1] at h
      obtain rfl := Option.some.inj h
      exact text_pos a0 (by simpa using h0) h1 w
end Go.Proofs.Ytfjjeadoaoedoaa.Hand
