/- '==' of two arrays of two structs. -/
import Derived.Test.YtfhkmokgbndeeaaHandCap1
import Derived.Test.YtfhkmokgbndeeaaWEqStruct
import Derived.Laws.StructEq
set_option linter.unusedVariables false
set_option linter.unusedSimpArgs false
namespace Go.Proofs.Ytfhkmokgbndeeaa.Hand
open Go.RowKit Go.Proofs.Ytfhkmokgbndeeaa.Cap Go.Proofs.YtfhkmokgbndeeaaW.PrintWords Go.Proofs.YtfhkmokgbndeeaaW.PrintMore

theorem eq_arr2 {P : Program} {d : Nat} {t e : TypeId} {n : Nat} {xs ys : Array Value} {a0 b0 a1 b1 : Value} {r0 r1 : Bool} {w : World} (ht : P.underlying t = some (.array 2 e)) (hs : (sizeOf e).run P w = .ok n w)
    (p0 : (part e xs 0).run P w = .ok a0 w) (q0 : (part e ys 0).run P w = .ok b0 w) (p1 : (part e xs n).run P w = .ok a1 w) (q1 : (part e ys n).run P w = .ok b1 w)
    (h0 : (Op.equalIn d e a0 b0).run P w = .ok r0 w) (h1 : (Op.equalIn d e a1 b1).run P w = .ok r1 w) : (Op.equalIn (d + 1) t (.agg xs) (.agg ys)).run P w = .ok (r0 && r1) w := by
  simp only [Op.equalIn, Sem.run_bind, run_underlying ht, Result.andThen_ok, hs, Std.Legacy.Range.forIn_eq_forIn_range']
  have : List.range' 0 (Std.Legacy.Range.size { stop := 2, step_pos := Nat.zero_lt_one }) 1 = [0, 1] := rfl
  simp only [this, List.forIn_cons, List.forIn_nil, Sem.run_bind, Nat.zero_mul, Nat.one_mul, p0, q0, h0, Result.andThen_ok, Sem.run_ite]
  cases r0
  · simp
  · simp only [Bool.not_true, Bool.false_eq_true, if_false, Sem.run_pure, Result.andThen_ok, p1, q1, h1]
    cases r1 <;> simp [p1, q1, h1]
theorem eq_maybe (d : Nat) (i : Bool) (x : Int) (w : World) : (Op.equalIn (d + 2) 25 (.agg #[.bool i, .int .i64 x]) (.agg #[.bool false, .int .i64 0])).run Try.prog w = .ok ((i == false) && (x == 0)) w := by
  have hp : Try.prog.stoodInHeld 25 = false := by kernel_rfl
  obtain ⟨fs, hu⟩ := under_maybe
  have hfs : fs.toList.map (fun f => (f.name, f.type, f.offset)) = [("is", 4, 0), ("x", 2, 1)] := by
    have : (match Try.prog.underlying 25 with | some (.struct fs) => fs.toList.map (fun f => (f.name, f.type, f.offset)) | _ => []) = [("is", 4, 0), ("x", 2, 1)] := by kernel_rfl
    rw [hu] at this
    exact this
  obtain ⟨l⟩ := fs
  have hfs : l.map (fun f => (f.name, f.type, f.offset)) = [("is", 4, 0), ("x", 2, 1)] := hfs
  match l, hfs with
  | [f0, f1], hfs =>
    simp only [List.map_cons, List.map_nil, List.cons.injEq, Prod.mk.injEq, and_true] at hfs
    obtain ⟨⟨n0, t0, o0⟩, n1, t1, o1⟩ := hfs
    refine eqA_of (d := d + 1) hu hp ?_
    refine eqf_cons (a := .bool i) (b := .bool false) (by rw [n0]; rfl) ?_ ?_ ?_ (eqf_last (a := .int .i64 x) (b := .int .i64 0) (by rw [n1]; rfl) ?_ ?_ ?_)
    all_goals simp only [t0, t1, o0, o1]
    · kernel_rfl
    · kernel_rfl
    · exact run_equalIn_bool' w d _ i false (by kernel_rfl)
    · kernel_rfl
    · kernel_rfl
    · exact run_equalIn_int w d _ .i64 .i64 x 0 (by kernel_rfl)
theorem part_maybe0 (i j : Bool) (x y : Int) (w : World) : (part 25 #[.bool i, .int .i64 x, .bool j, .int .i64 y] 0).run Try.prog w = .ok (.agg #[.bool i, .int .i64 x]) w := by kernel_rfl
theorem part_maybe1 (i j : Bool) (x y : Int) (w : World) : (part 25 #[.bool i, .int .i64 x, .bool j, .int .i64 y] 2).run Try.prog w = .ok (.agg #[.bool j, .int .i64 y]) w := by kernel_rfl
theorem eq_both (i j : Bool) (x y : Int) (w : World) : (binOp .eql 27 (.agg #[.bool i, .int .i64 x, .bool j, .int .i64 y]) (.agg #[.bool false, .int .i64 0, .bool false, .int .i64 0])).run Try.prog w = .ok (.bool (((i == false) && (x == 0)) && ((j == false) && (y == 0)))) w := by
  rw [run_eql_struct, show (10000 : Nat) = (9997 + 2) + 1 from rfl, eq_arr2 (n := 2) under_both (by kernel_rfl) (part_maybe0 i j x y w) (part_maybe0 false false 0 0 w) (part_maybe1 i j x y w) (part_maybe1 false false 0 0 w) (eq_maybe 9997 i x w) (eq_maybe 9997 j y w)]
  rfl
end Go.Proofs.Ytfhkmokgbndeeaa.Hand
