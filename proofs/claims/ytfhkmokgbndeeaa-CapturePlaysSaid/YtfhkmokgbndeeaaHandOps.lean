/- A slice of calls that came in: how it reads. -/
import Derived.Test.YtfhkmokgbndeeaaHandCapAlive
import Derived.Test.YtfhkmokgbndeeaaPBx0
import Derived.Deep.Slices
import Derived.ProofKit
set_option linter.unusedVariables false
set_option linter.unusedSimpArgs false
namespace Go.Proofs.Ytfhkmokgbndeeaa.Hand
open Go.RowKit Go.ChangeShapes Go.WideShapes Go.Proofs.Ytfhkmokgbndeeaa.Cap Go.Proofs.Ytfhkmokgbndeeaa.PB Go.Proofs.YtfhkmokgbndeeaaW.PrintWords

instance : Inhabited S32 := ⟨z32⟩
def fitI (n : Int) : Prop := (Lit.int .i64 n).wf = true
def FitOp (x : S32) : Prop := fitI x.f0 ∧ fitI x.f1 ∧ fitI x.f2 ∧ fitI x.f3
theorem under_ops : Try.prog.underlying 22 = some (.slice 32) := by kernel_rfl
theorem cells_op : Try.prog.cellsOf 32 = 4 := by kernel_rfl
theorem cells_int : Try.prog.cellsOf 3 = 1 := by kernel_rfl
theorem cells_i64 : Try.prog.cellsOf 2 = 1 := by kernel_rfl
theorem under_int : Try.prog.underlying 3 = some (.int .i64) := by kernel_rfl
theorem under_i64 : Try.prog.underlying 2 = some (.int .i64) := by kernel_rfl
theorem ops_open {H : Type} {enc : TypeId × Value → H} {W : World} {a : Option Addr} {len cap : Nat} {d : DataW H} {p : List MemPlace} (h : DataW.Trod enc Try.prog W 0 (fun _ => true) true 22 (.slice a len cap) d p) :
    ∃ l : List S32, len = l.length ∧ Kd.C k32 W a l.length l ∧ l.length ≤ cap ∧ ∀ x ∈ l, FitOp x := by
  obtain ⟨fuel, hf⟩ := h
  rcases Deep.open_slice under_ops hf with ⟨hcs, _⟩ | ⟨x, l, c, m, n, D, Pl, hcs, _, hl, hm, hmm, _, hx⟩
  · simp [Value.cells] at hcs
    obtain ⟨rfl, rfl, rfl⟩ := hcs
    exact ⟨[], rfl, Kd.C_nil _ _, Nat.le_refl _, by simp⟩
  · simp [Value.cells] at hcs
    obtain ⟨rfl, rfl, rfl⟩ := hcs
    have hml : len ≤ m := by rw [hmm]; split <;> omega
    obtain ⟨fs, hu⟩ : ∃ fs, Try.prog.underlying 32 = some (.struct fs) := ⟨_, rfl⟩
    have hfs : fs.toList.map (fun f => (f.type, f.offset)) = [(3, 0), (3, 1), (3, 2), (2, 3)] := by
      have : (match Try.prog.underlying 32 with | some (.struct fs) => fs.toList.map (fun f => (f.type, f.offset)) | _ => []) = [(3, 0), (3, 1), (3, 2), (2, 3)] := by kernel_rfl
      rw [hu] at this
      exact this
    have each : ∀ i, i < len → ∃ q : S32, FitOp q ∧ ∀ k u, ([.int .i64 q.f0, .int .i64 q.f1, .int .i64 q.f2, .int .i64 q.f3] : List Value)[k]? = some u → W.cell? (x.add (i * 4 + k)) = some u := by
      intro i hi
      obtain ⟨cs', h1, h2⟩ := hx i (by omega)
      rw [cells_op] at h1
      obtain ⟨_, hlen, hcell⟩ := World.cells?_some h1
      obtain ⟨xs, k, hk, hxy, _, hxl, hfd⟩ := DataW.trod_struct hu h2
      obtain ⟨fl⟩ := fs
      have hfs : fl.map (fun f => (f.type, f.offset)) = [(3, 0), (3, 1), (3, 2), (2, 3)] := hfs
      match fl, hfs with
      | [f0, f1, f2, f3], hfs =>
        simp only [List.map_cons, List.map_nil, List.cons.injEq, Prod.mk.injEq, and_true] at hfs
        obtain ⟨⟨t0, o0⟩, ⟨t1, o1⟩, ⟨t2, o2⟩, t3, o3⟩ := hfs
        match xs, hxl, cs', hlen with
        | [y0, y1, y2, y3], _, [v0, v1, v2, v3], _ =>
          have g0 := hfd 0 f0 rfl
          have g1 := hfd 1 f1 rfl
          have g2 := hfd 2 f2 rfl
          have g3 := hfd 3 f3 rfl
          simp [t0, t1, t2, t3, o0, o1, o2, o3, cells_int, cells_i64] at g0 g1 g2 g3
          obtain ⟨n0, e0, _, w0⟩ := DataW.trod_int under_int g0
          obtain ⟨n1, e1, _, w1⟩ := DataW.trod_int under_int g1
          obtain ⟨n2, e2, _, w2⟩ := DataW.trod_int under_int g2
          obtain ⟨n3, e3, _, w3⟩ := DataW.trod_int under_i64 g3
          simp only [List.cons.injEq, and_true] at e0 e1 e2 e3
          subst e0 e1 e2 e3
          refine ⟨⟨n0, n1, n2, n3⟩, ⟨w0, w1, w2, w3⟩, fun k u hku => ?_⟩
          have hk4 : k < 4 := by have := (List.getElem?_eq_some_iff.1 hku).1; simpa using this
          have := hcell k hk4
          rw [Deep.add_add] at this
          rw [this]
          exact hku
    obtain ⟨q, hq⟩ := Deep.choose_lt each
    have hlen : ((List.range len).map q).length = len := by simp
    refine ⟨(List.range len).map q, hlen.symm, ⟨rfl, by rw [hlen]; unfold maxLen at hm; omega, fun _ => ⟨x, rfl, fun j p hj => ?_⟩⟩, by rw [hlen]; exact hl, fun y hy => ?_⟩
    · obtain ⟨hjl, rfl⟩ := List.getElem?_eq_some_iff.1 hj
      have hjl' : j < len := by simpa using hjl
      rw [List.getElem_map, List.getElem_range]
      exact ⟨_, rfl, k32_mk W (q j), fun i u hiu => (hq j hjl').2 i u hiu⟩
    · obtain ⟨j, hj, rfl⟩ := List.mem_map.1 hy
      exact (hq j (by simpa using hj)).1
/-- What calls leave, but for those of a node. -/
def playN (n : Int) (m : Cp) (l : List S32) : Cp := l.foldl (fun m x => if x.f1 = n then m else noteM m x.f1 x.f2 x.f3) m
def playM (m : Cp) (l : List S32) : Cp := l.foldl (fun m x => noteM m x.f1 x.f2 x.f3) m
theorem fit_playN (n : Int) : ∀ (l : List S32) (m : Cp), FitM m → FitM (playN n m l)
  | [], m, h => h
  | x :: l, m, h => by
    have : FitM (if x.f1 = n then m else noteM m x.f1 x.f2 x.f3) := by split; exact h; exact h.note _ _ _
    exact fit_playN n l _ this
theorem fit_playM : ∀ (l : List S32) (m : Cp), FitM m → FitM (playM m l)
  | [], m, h => h
  | x :: l, m, h => fit_playM l _ (h.note _ _ _)
theorem playN_snoc (n : Int) (m : Cp) (l : List S32) (x : S32) : playN n m (l ++ [x]) = if x.f1 = n then playN n m l else noteM (playN n m l) x.f1 x.f2 x.f3 := by simp [playN, List.foldl_append]
theorem playM_snoc (m : Cp) (l : List S32) (x : S32) : playM m (l ++ [x]) = noteM (playM m l) x.f1 x.f2 x.f3 := by simp [playM, List.foldl_append]
end Go.Proofs.Ytfhkmokgbndeeaa.Hand
