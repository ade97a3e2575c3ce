/- '==' of two grades (arrays of three whole numbers) as one Bool. No conditions. -/
import Derived.Test.YtnbdfmdjedakcaaQ0
import Derived.ChangeKeysEq
namespace Go.Proofs.Ytnbdfmdjedakcaa.PP
open Go.RowKit Go.Proofs.YtnbdfmdjedakcaaW.PrintWords Go.Proofs.YtnbdfmdjedakcaaW.PrintLast Go.Proofs.YtnbdfmdjedakcaaW.PrintMore
set_option linter.unusedVariables false
set_option linter.unusedSimpArgs false
theorem part3 (w : World) (xs : Array Value) (o : Nat) (k : IntKind) (x : Int) (h : xs[o]? = some (.int k x)) : (part 3 xs o).run Try.prog w = .ok (.int k x) w := by
  go_simp
theorem eqA36 (d : Nat) (w : World) (x0 y0 : Int) (x1 y1 : Int) (x2 y2 : Int) :
    (Op.equalIn (d + 2) 36 (.agg #[.int .i64 x0, .int .i64 x1, .int .i64 x2]) (.agg #[.int .i64 y0, .int .i64 y1, .int .i64 y2])).run Try.prog w = .ok (x0 == y0 && (x1 == y1 && (x2 == y2))) w := by
  obtain ⟨i, hi⟩ : ∃ i, Try.prog.info? 3 = some i := by
    cases h : Try.prog.info? 3 with
    | some i => exact ⟨i, rfl⟩
    | none =>
      exfalso
      have h2 : (Try.prog.info? 3).isSome = true := by kernel_rfl
      rw [h] at h2
      exact absurd h2 (by decide)
  have hc : Try.prog.cellsOf 3 = 1 := by kernel_rfl
  rw [run_equalIn_array (w := w) (d + 1) _ _ Try.underlying36 hi, hc]
  have e0 : ∀ (a b : Int), (Op.equalIn (d + 1) 3 (.int .i64 a) (.int .i64 b)).run Try.prog w = .ok (a == b) w := fun a b => run_equalIn_int w d 3 .i64 .i64 a b Try.underlying3
  have r3 : List.range 3 = [0, 1, 2] := by decide
  rw [r3]
  simp only [Op.eqItems, Sem.run_bind, Nat.zero_mul, Nat.one_mul, Nat.mul_one]
  rw [part3 w _ 0 .i64 x0 rfl]
  simp only [Result.andThen_ok]
  rw [part3 w _ 0 .i64 y0 rfl]
  simp only [Result.andThen_ok]
  rw [e0]
  simp only [Result.andThen_ok]
  cases h0 : x0 == y0 with
  | false => simp
  | true =>
    simp only [Bool.not_true, Bool.false_eq_true, if_false, Bool.true_and, Sem.run_bind]
    rw [part3 w _ 1 .i64 x1 rfl]
    simp only [Result.andThen_ok]
    rw [part3 w _ 1 .i64 y1 rfl]
    simp only [Result.andThen_ok]
    rw [e0]
    simp only [Result.andThen_ok]
    cases h1 : x1 == y1 with
    | false => simp
    | true =>
      simp only [Bool.not_true, Bool.false_eq_true, if_false, Bool.true_and, Sem.run_bind]
      rw [part3 w _ 2 .i64 x2 rfl]
      simp only [Result.andThen_ok]
      rw [part3 w _ 2 .i64 y2 rfl]
      simp only [Result.andThen_ok]
      rw [e0]
      simp only [Result.andThen_ok]
      cases h2 : x2 == y2 with
      | false => simp
      | true => simp
end Go.Proofs.Ytnbdfmdjedakcaa.PP
