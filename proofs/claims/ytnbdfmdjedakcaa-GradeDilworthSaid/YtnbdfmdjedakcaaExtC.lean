/- The contract of Chains, in the words of the printed texts. No conditions. -/
import Derived.Test.YtnbdfmdjedakcaaExt
import Derived.Test.YtnbdfmdjedakcaaDC
namespace Go.Proofs.Ytnbdfmdjedakcaa.PP
set_option linter.unusedVariables false
open Go.RowKit Go.Proofs.YtnbdfmdjedakcaaW.PrintWords Go.Proofs.YtnbdfmdjedakcaaW.PrintLast Go.Proofs.YtnbdfmdjedakcaaW.PrintMore Go.Proofs.Ytnbdfmdjedakcaa
def grade_Chains.f (l0 : List S36) : Option (List Int × Int × Int) := chainF l0
theorem grade_Chains.calls (A0 : Option Addr) (c0 : Nat) (l0 : List S36) (r1 : List Int) (r2 : Int) (r3 : Int) (w : World) (hr0 : Kd.C k36 w A0 l0.length l0) (hc0 : l0.length ≤ c0) (h : grade_Chains.f l0 = some (r1, r2, r3)) :
    Calls Try.prog 43 #[.slice A0 l0.length c0] w fun e w' => ∃ v0_ : Value, e = .returned (.tuple #[v0_, .int .i64 r2, .int .i64 r3]) ∧ Kd.R (Kd.int .i64) 3 w' w.heap.size (fun _ => True) v0_ r1 ∧ Below w.heap.size w w' :=
  chains_any w A0 c0 l0 hr0 r1 r2 r3 h
end Go.Proofs.Ytnbdfmdjedakcaa.PP
namespace Go.Proofs.YtnbdfmdjedakcaaW.PrintWords
open Go.RowKit
theorem Kd.fresh' {u : Value} {W : World} (hlt : ∀ k, u.ownBlock = some k → k < W.heap.size) : ∀ k, W.heap.size ≤ k → some k ≠ u.ownBlock := fun k hk he => by have := hlt k he.symm; omega
end Go.Proofs.YtnbdfmdjedakcaaW.PrintWords
