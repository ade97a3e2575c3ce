/- No conditions. -/
import Derived.Test.YtnbdfmdjedakcaaHD
namespace Go.Proofs.Ytnbdfmdjedakcaa.PP
open Go.RowKit Go.Proofs.YtnbdfmdjedakcaaW.PrintWords Go.Proofs.YtnbdfmdjedakcaaW.PrintLast Go.Proofs.YtnbdfmdjedakcaaW.PrintMore Go.Proofs.Ytnbdfmdjedakcaa
def kimberlitelaw02_class.f (l0 : List S36) : Option (List S36) := some (classF l0)
theorem kimberlitelaw02_class.calls (A0 : Option Addr) (c0 : Nat) (l0 : List S36) (r : List S36) (w : World) (hr0 : Kd.C k36 w A0 l0.length l0) (hc0 : l0.length ≤ c0) (h : kimberlitelaw02_class.f l0 = some r) :
  Calls Try.prog 47 #[.slice A0 l0.length c0] w fun e w' => ∃ v0_ : Value, e = .returned (v0_) ∧ Kd.R k36 36 w' w.heap.size (fun _ => True) v0_ r ∧ Below w.heap.size w w' := by
 obtain rfl := Option.some.inj h
 exact class_any w A0 c0 l0 hr0
def grade_Outside.f (l0 : List S36) : Option (List S36 × Int) := if l0.length ≤ 1000000 then some (outF l0) else none
theorem grade_Outside.calls (A0 : Option Addr) (c0 : Nat) (l0 : List S36) (r1 : List S36) (r2 : Int) (w : World) (hr0 : Kd.C k36 w A0 l0.length l0) (hc0 : l0.length ≤ c0) (h : grade_Outside.f l0 = some (r1, r2)) :
  Calls Try.prog 48 #[.slice A0 l0.length c0] w fun e w' => ∃ v0_ : Value, e = .returned (.tuple #[v0_, .int .i64 r2]) ∧ Kd.R k36 36 w' w.heap.size (fun _ => True) v0_ r1 ∧ Below w.heap.size w w' := by
 unfold grade_Outside.f at h
 by_cases hl : l0.length ≤ 1000000
 ·rw [if_pos hl] at h
  have h3 := outside_any w A0 c0 l0 hr0 hc0 hl
  rw [Option.some.inj h] at h3
  exact h3
 ·rw [if_neg hl] at h
  exact absurd h (by simp)
def grade_Beyond.f (l0 : List S36) : Option (List S36 × Int) := if l0.length ≤ 1000000 then some (beyF l0) else none
theorem grade_Beyond.calls (A0 : Option Addr) (c0 : Nat) (l0 : List S36) (r1 : List S36) (r2 : Int) (w : World) (hr0 : Kd.C k36 w A0 l0.length l0) (hc0 : l0.length ≤ c0) (h : grade_Beyond.f l0 = some (r1, r2)) :
  Calls Try.prog 49 #[.slice A0 l0.length c0] w fun e w' => ∃ v0_ : Value, e = .returned (.tuple #[v0_, .int .i64 r2]) ∧ Kd.R k36 36 w' w.heap.size (fun _ => True) v0_ r1 ∧ Below w.heap.size w w' := by
 unfold grade_Beyond.f at h
 by_cases hl : l0.length ≤ 1000000
 ·rw [if_pos hl] at h
  have h3 := beyond_any w A0 c0 l0 hr0 hc0 hl
  rw [Option.some.inj h] at h3
  exact h3
 ·rw [if_neg hl] at h
  exact absurd h (by simp)
def grade_Either.f (l0 l1 : List S36) : Option (List S36 × Int) := if l0.length ≤ 1000000 ∧ l1.length ≤ 1000000 then some (eitF l0 l1) else none
theorem grade_Either.calls (A0 : Option Addr) (c0 : Nat) (l0 : List S36) (A1 : Option Addr) (c1 : Nat) (l1 : List S36) (r1 : List S36) (r2 : Int) (w : World) (hr0 : Kd.C k36 w A0 l0.length l0) (hc0 : l0.length ≤ c0) (hr1 : Kd.C k36 w A1 l1.length l1) (hc1 : l1.length ≤ c1) (h : grade_Either.f l0 l1 = some (r1, r2)) :
  Calls Try.prog 53 #[.slice A0 l0.length c0, .slice A1 l1.length c1] w fun e w' => ∃ v0_ : Value, e = .returned (.tuple #[v0_, .int .i64 r2]) ∧ Kd.R k36 36 w' w.heap.size (fun _ => True) v0_ r1 ∧ Below w.heap.size w w' := by
 unfold grade_Either.f at h
 by_cases hl : l0.length ≤ 1000000 ∧ l1.length ≤ 1000000
 ·rw [if_pos hl] at h
  have h3 := either_any w A0 A1 c0 c1 l0 l1 hr0 hr1 hc0 hc1 hl.1 hl.2
  rw [Option.some.inj h] at h3
  exact h3
 ·rw [if_neg hl] at h
  exact absurd h (by simp)
def grade_Both.f (l0 l1 : List S36) : Option (List S36 × Int) := if l0.length ≤ 1000000 ∧ l1.length ≤ 1000000 then some (botF l0 l1) else none
theorem grade_Both.calls (A0 : Option Addr) (c0 : Nat) (l0 : List S36) (A1 : Option Addr) (c1 : Nat) (l1 : List S36) (r1 : List S36) (r2 : Int) (w : World) (hr0 : Kd.C k36 w A0 l0.length l0) (hc0 : l0.length ≤ c0) (hr1 : Kd.C k36 w A1 l1.length l1) (hc1 : l1.length ≤ c1) (h : grade_Both.f l0 l1 = some (r1, r2)) :
  Calls Try.prog 54 #[.slice A0 l0.length c0, .slice A1 l1.length c1] w fun e w' => ∃ v0_ : Value, e = .returned (.tuple #[v0_, .int .i64 r2]) ∧ Kd.R k36 36 w' w.heap.size (fun _ => True) v0_ r1 ∧ Below w.heap.size w w' := by
 unfold grade_Both.f at h
 by_cases hl : l0.length ≤ 1000000 ∧ l1.length ≤ 1000000
 ·rw [if_pos hl] at h
  have h3 := both_any w A0 A1 c0 c1 l0 l1 hr0 hr1 hc0 hc1 hl.1 hl.2
  rw [Option.some.inj h] at h3
  exact h3
 ·rw [if_neg hl] at h
  exact absurd h (by simp)
end Go.Proofs.Ytnbdfmdjedakcaa.PP
