/- No conditions. -/
import Derived.Test.YtnbdfmdjedakcaaExt2
import Derived.Test.YtnbdfmdjedakcaaH28
namespace Go.Proofs.Ytnbdfmdjedakcaa.PP
open Go.RowKit Go.Proofs.YtnbdfmdjedakcaaW.PrintWords Go.Proofs.YtnbdfmdjedakcaaW.PrintLast Go.Proofs.YtnbdfmdjedakcaaW.PrintMore Go.Proofs.Ytnbdfmdjedakcaa
def kimberliteref02_edge.f (l0 : List Bool) (a1 : Bool) : Option (List S36) := if l0.length = 1728 then some (edgeL (rowU l0) (if a1 = true then 1 else -1)) else none
theorem kimberliteref02_edge.calls (A0 : Option Addr) (c0 : Nat) (l0 : List Bool) (a1 : Bool) (r : List S36) (w : World) (hr0 : Kd.C Kd.bool w A0 l0.length l0) (hc0 : l0.length ≤ c0) (h : kimberliteref02_edge.f l0 a1 = some r) :
  Calls Try.prog 92 #[.slice A0 l0.length c0, .bool a1] w fun e w' => ∃ v0_ : Value, e = .returned (v0_) ∧ Kd.R k36 36 w' w.heap.size (fun _ => True) v0_ r ∧ Below w.heap.size w w' := by
 unfold kimberliteref02_edge.f at h
 by_cases hl : l0.length = 1728
 ·rw [if_pos hl] at h
  obtain rfl := Option.some.inj h
  cases a1 with
  | true => exact refEdge_up w A0 c0 l0 hr0 hl
  | false => exact refEdge_dn w A0 c0 l0 hr0 hl
 ·rw [if_neg hl] at h
  exact absurd h (by simp)
end Go.Proofs.Ytnbdfmdjedakcaa.PP
