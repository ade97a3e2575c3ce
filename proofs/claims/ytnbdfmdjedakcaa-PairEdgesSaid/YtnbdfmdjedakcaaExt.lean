/- The contracts of package grade's functions that were walked by hand, in the words of the printed texts. No conditions. -/
import Derived.Test.YtnbdfmdjedakcaaHC
namespace Go.Proofs.Ytnbdfmdjedakcaa.PP
open Go.RowKit Go.Proofs.YtnbdfmdjedakcaaW.PrintWords Go.Proofs.YtnbdfmdjedakcaaW.PrintLast Go.Proofs.YtnbdfmdjedakcaaW.PrintMore Go.Proofs.Ytnbdfmdjedakcaa
set_option linter.unusedVariables false
set_option linter.unusedSimpArgs false
def grade_valid.f (a b c : Int) : Option Bool := some (gokB a b c)
theorem grade_valid.calls (a0_0 : Int) (a0_1 : Int) (a0_2 : Int) (r : Bool) (w : World) (h : grade_valid.f a0_0 a0_1 a0_2 = some r) :
    Calls Try.prog 88 #[.agg #[.int .i64 a0_0, .int .i64 a0_1, .int .i64 a0_2]] w fun e w' => e = .returned (.bool r) ∧ Below w.heap.size w w' := by
  obtain rfl := Option.some.inj h
  exact valid_any w a0_0 a0_1 a0_2
def kimberliteref02_Good.f (a b c : Int) : Option Bool := some (gokB a b c)
theorem kimberliteref02_Good.calls (a0_0 : Int) (a0_1 : Int) (a0_2 : Int) (r : Bool) (w : World) (h : kimberliteref02_Good.f a0_0 a0_1 a0_2 = some r) :
    Calls Try.prog 52 #[.agg #[.int .i64 a0_0, .int .i64 a0_1, .int .i64 a0_2]] w fun e w' => e = .returned (.bool r) ∧ Below w.heap.size w w' := by
  obtain rfl := Option.some.inj h
  exact good_any w a0_0 a0_1 a0_2
def grade_listed.f (l0 : List S36) (a1 : Int) : Option Int := some (lsF l0 a1)
theorem grade_listed.calls (A0 : Option Addr) (c0 : Nat) (l0 : List S36) (a1 : Int) (r : Int) (w : World) (hr0 : Kd.C k36 w A0 l0.length l0) (hc0 : l0.length ≤ c0) (h : grade_listed.f l0 a1 = some r) :
    Calls Try.prog 70 #[.slice A0 l0.length c0, .int .i64 a1] w fun e w' => e = .returned (.int .i64 r) ∧ Below w.heap.size w w' :=
  listed_any w A0 c0 l0 a1 hr0 r (Option.some.inj h)
def grade_least.f (l0 : List S36) : Option (List S36) := if l0.length < 5000000000000 then some (exF belowG l0) else none
theorem grade_least.calls (A0 : Option Addr) (c0 : Nat) (l0 : List S36) (r : List S36) (w : World) (hr0 : Kd.C k36 w A0 l0.length l0) (hc0 : l0.length ≤ c0) (h : grade_least.f l0 = some r) :
    Calls Try.prog 71 #[.slice A0 l0.length c0] w fun e w' => ∃ v0_ : Value, e = .returned (v0_) ∧ Kd.R k36 36 w' w.heap.size (fun _ => True) v0_ r ∧ Below w.heap.size w w' := by
  unfold grade_least.f at h
  by_cases hl : l0.length < 5000000000000
  · rw [if_pos hl] at h
    obtain rfl := Option.some.inj h
    exact least_any w A0 c0 l0 hr0 hl
  · rw [if_neg hl] at h
    exact absurd h (by simp)
def grade_Most.f (l0 : List S36) : Option (List S36 × Int) := if l0.length < 5000000000000 then some (mostF l0) else none
theorem grade_Most.calls (A0 : Option Addr) (c0 : Nat) (l0 : List S36) (r1 : List S36) (r2 : Int) (w : World) (hr0 : Kd.C k36 w A0 l0.length l0) (hc0 : l0.length ≤ c0) (h : grade_Most.f l0 = some (r1, r2)) :
    Calls Try.prog 39 #[.slice A0 l0.length c0] w fun e w' => ∃ v0_ : Value, e = .returned (.tuple #[v0_, .int .i64 r2]) ∧ Kd.R k36 36 w' w.heap.size (fun _ => True) v0_ r1 ∧ Below w.heap.size w w' := by
  unfold grade_Most.f at h
  by_cases hl : l0.length < 5000000000000
  · rw [if_pos hl] at h
    have h2 := Option.some.inj h
    have h3 := most_any w A0 c0 l0 hr0 hl
    rw [h2] at h3
    exact h3
  · rw [if_neg hl] at h
    exact absurd h (by simp)
def grade_in.f (l0 : List S36) (a b c : Int) : Option Bool := some (l0.any fun o => belowG o ⟨a, b, c⟩)
theorem grade_in.calls (A0 : Option Addr) (c0 : Nat) (l0 : List S36) (a1_0 : Int) (a1_1 : Int) (a1_2 : Int) (r : Bool) (w : World) (hr0 : Kd.C k36 w A0 l0.length l0) (hc0 : l0.length ≤ c0) (h : grade_in.f l0 a1_0 a1_1 a1_2 = some r) :
    Calls Try.prog 83 #[.slice A0 l0.length c0, .agg #[.int .i64 a1_0, .int .i64 a1_1, .int .i64 a1_2]] w fun e w' => e = .returned (.bool r) ∧ Below w.heap.size w w' :=
  in_any w A0 c0 l0 ⟨a1_0, a1_1, a1_2⟩ hr0 r (Option.some.inj h)
def grade_Width.f (l0 : List S36) : Option (Int × List Int × Int) := widthF l0
theorem grade_Width.calls (A0 : Option Addr) (c0 : Nat) (l0 : List S36) (r1 : Int) (r2 : List Int) (r3 : Int) (w : World) (hr0 : Kd.C k36 w A0 l0.length l0) (hc0 : l0.length ≤ c0) (h : grade_Width.f l0 = some (r1, r2, r3)) :
    Calls Try.prog 41 #[.slice A0 l0.length c0] w fun e w' => ∃ v0_ : Value, e = .returned (.tuple #[.int .i64 r1, v0_, .int .i64 r3]) ∧ Kd.R (Kd.int .i64) 3 w' w.heap.size (fun _ => True) v0_ r2 ∧ Below w.heap.size w w' :=
  width_any w A0 c0 l0 hr0 r1 r2 r3 h
end Go.Proofs.Ytnbdfmdjedakcaa.PP
