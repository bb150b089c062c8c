/- A value of several cells, put into a block and taken out of it, at an offset. -/
import Derived.Test.YtdpdcpbmdmkaeaaDoorProg
import Derived.Deep.MidRow
import Derived.OwnWalkIn
import Derived.Test.YtdpdcpbmdmkaeaaDoorWWords
set_option linter.unusedVariables false
namespace Go.Proofs.YtdpdcpbmdmkaeaaDoor.Hand
set_option maxRecDepth 100000
open Go.RowKit Go.Proofs.YtdpdcpbmdmkaeaaDoorW.PrintWords
section
variable {P : Program} {ops : Array Oper} {rest : List Oper} {op : Oper} {a : Act} {w : World} {Q : Exit → Act → World → Prop}
theorem setCells_grown (w : World) (g o : Nat) (vs : List Value) : w.grownBy (w.setCells g o vs) (some g) := by
  obtain ⟨h1, h2, h3, h4⟩ := setCells_same g vs o w
  exact ⟨h1, h2, h3, by omega, fun i _ hi => setCells_far vs o i (fun q => hi (by rw [q]))⟩
/-- The cells behind a store at an offset. -/
def putAt (cur : Array Value) (o : Nat) (ds : Array Value) : Array Value := (cur.toList.take o ++ ds.toList ++ cur.toList.drop (o + ds.size)).toArray
theorem setCells_blk {g : Nat} {e : TypeId} (ds : Array Value) (o : Nat) (w : World) (cur : Array Value) (h : w.heap[g]? = some (.cells cur e (0, 0))) (hl : o + ds.size ≤ cur.size) : (w.setCells g o ds.toList).heap[g]? = some (.cells (putAt cur o ds) e (0, 0)) := by
  obtain ⟨cur', h1, _, h3⟩ := setCells_row ds.toList o w cur h (by simpa using hl)
  rw [h1]
  congr 2
  apply Array.toList_inj.1
  rw [h3]
  simp [putAt]
theorem wpList_store_blk (hgd : op.guard = none) (ty : TypeId) (x y : Operand) (ho : op.op = .store ty x y)
    (g o : Nat) (ds : Array Value) (hx : a.eval x = .pointer (some ⟨g, o, none⟩)) (hy : a.eval y = .agg ds) {cur : Array Value} {e : TypeId} (hb : w.heap[g]? = some (.cells cur e (0, 0))) (hl : o + ds.size ≤ cur.size)
    (hi : (P.info? ty).map (·.size) = some ds.size) (h1 : ds.all (·.oneCell') = true)
    (h : ∀ w', w'.heap[g]? = some (.cells (putAt cur o ds) e (0, 0)) → w.grownBy w' (some g) → wpList P ops Q rest (a.put op.dst undef) w') : wpList P ops Q (op :: rest) a w := by
  refine wpList_store_mid hgd ty x y ho g o ds hx hy (fun j hj => ?_) hi h1 ?_
  · rw [blk_cell hb, blk_frozen hb]
    simp
    omega
  · exact h _ (setCells_blk ds o w cur hb hl) (setCells_grown _ _ _ _)
/-- The cells that a load at an offset takes. -/
def takeAt (cur : Array Value) (o n : Nat) : List Value := (cur.toList.drop o).take n
theorem wpList_load_blk (hgd : op.guard = none) (ty : TypeId) (x : Operand) (ho : op.op = .load ty x)
    (g o : Nat) (n : Nat) (hx : a.eval x = .pointer (some ⟨g, o, none⟩)) {cur : Array Value} {e : TypeId} (hb : w.heap[g]? = some (.cells cur e (0, 0))) (hl : o + n ≤ cur.size)
    (d : TypeDesc) (hu : P.underlying ty = some d) (hd : d.isRow = true) (hi : (P.info? ty).map (·.size) = some n)
    (h : wpList P ops Q rest (a.put op.dst (.agg (takeAt cur o n).toArray)) w) : wpList P ops Q (op :: rest) a w := by
  have hlen : (takeAt cur o n).length = n := by simp [takeAt]; omega
  refine wpList_load_mid hgd ty x ho g o hx (takeAt cur o n) d (fun j v hv => ?_) hu hd (by rw [hlen]; exact hi) h
  rw [blk_cell hb]
  have hj : j < n := by have := (List.getElem?_eq_some_iff.1 hv).1; omega
  simp only [takeAt] at hv
  rw [List.getElem?_take_of_lt hj, List.getElem?_drop] at hv
  rw [← Array.getElem?_toList]
  exact hv
theorem wpListIn_load_blk {F : Fence} {nF : Nat} (hgd : op.guard = none) (ty : TypeId) (x : Operand) (ho : op.op = .load ty x)
    (g o : Nat) (n : Nat) (hx : a.eval x = .pointer (some ⟨g, o, none⟩)) {cur : Array Value} {e : TypeId} (hb : w.heap[g]? = some (.cells cur e (0, 0))) (hl : o + n ≤ cur.size)
    (d : TypeDesc) (hu : P.underlying ty = some d) (hd : d.isRow = true) (hi : (P.info? ty).map (·.size) = some n)
    (h : wpListIn F nF P ops Q rest (a.put op.dst (.agg (takeAt cur o n).toArray)) w) : wpListIn F nF P ops Q (op :: rest) a w := by
  have hlen : (takeAt cur o n).length = n := by simp [takeAt]; omega
  have hrun := run_loadVar_mid (P := P) w g o ty (takeAt cur o n) d (fun j v hv => by
    rw [blk_cell hb]
    have hj : j < n := by have := (List.getElem?_eq_some_iff.1 hv).1; omega
    simp only [takeAt] at hv
    rw [List.getElem?_take_of_lt hj, List.getElem?_drop] at hv
    rw [← Array.getElem?_toList]
    exact hv) hu hd (by rw [hlen]; exact hi)
  refine wpListIn_plain hgd fun K' hK' => ?_
  unfold Oper.wpIn
  refine ⟨by simp [Oper.about, ho], ?_⟩
  rw [Oper.semAt_plain F _ _ (by rw [ho]; intro c hc'; cases hc')]
  simp only [execOp, ho, hx, Instr.loadAt, Instr.sureAddr, Sem.run_bind, Sem.run_pure, Result.andThen_ok, hrun]
  exact hK' _ _ h
end
theorem R_keepB {α : Type} {d : Kd α} {e base : Nat} {ok : Nat → Prop} {w w1 : World} {v : Value} {xs : List α} {g : Nat} (h : d.R e w base ok v xs) (hg : w.grownBy w1 (some g)) (hok : ∀ k, ok k → k ≠ g) : d.R e w1 base ok v xs :=
  Kd.R_grown h hg (fun k hk q => hok k hk (Option.some.inj q))
end Go.Proofs.YtdpdcpbmdmkaeaaDoor.Hand
