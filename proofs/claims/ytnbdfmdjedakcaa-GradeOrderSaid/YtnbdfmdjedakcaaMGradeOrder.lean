/- The law GradeOrder, as plain Lean: at every input some fuel gives true. No conditions. -/
import Derived.Test.YtnbdfmdjedakcaaJ1
import Derived.Test.YtnbdfmdjedakcaaQ5
namespace Go.Proofs.Ytnbdfmdjedakcaa.PP
open Go.RowKit Go.Proofs.YtnbdfmdjedakcaaW.PrintWords Go.Proofs.YtnbdfmdjedakcaaW.PrintLast Go.Proofs.YtnbdfmdjedakcaaW.PrintMore Go.Proofs.Ytnbdfmdjedakcaa
set_option linter.unusedVariables false
set_option linter.unusedSimpArgs false
theorem refBelow_f (a b c d e f : Int) : kimberliteref02_Below.f a b c d e f = grade_Below.f a b c d e f := rfl
theorem pure_GradeOrder (x y : S36) : ∃ k, kimberlitelaw02_GradeOrder.f k x.f0 x.f1 x.f2 y.f0 y.f1 y.f2 = some true := by
  obtain ⟨k, hk⟩ := alive_ev
  refine ⟨k, ?_⟩
  unfold kimberlitelaw02_GradeOrder.f
  rw [refBelow_f, below_f x y]
  simp only [Option.bind_some, beq_self_eq_true, if_true, grade_Meet.f, kimberliteref02_Meet.f, grade_Join.f, kimberliteref02_Join.f, Bool.and_self]
  have h2 : kimberlitelaw02_alive.f k = some true := hk k (Nat.le_refl _)
  rw [h2]
  rfl
end Go.Proofs.Ytnbdfmdjedakcaa.PP
