/- The law GradeDual, as plain Lean: at every input some fuel gives true. No conditions. -/
import Derived.Test.YtnbdfmdjedakcaaU3
import Derived.Test.YtnbdfmdjedakcaaQ9
namespace Go.Proofs.Ytnbdfmdjedakcaa.PP
open Go.RowKit Go.Proofs.YtnbdfmdjedakcaaW.PrintWords Go.Proofs.YtnbdfmdjedakcaaW.PrintLast Go.Proofs.YtnbdfmdjedakcaaW.PrintMore Go.Proofs.Ytnbdfmdjedakcaa
set_option linter.unusedVariables false
set_option linter.unusedSimpArgs false
theorem dual_l0 (o : List S36) (ho : o.length ≤ 144) (b : Bool) (x : S36) : ∀ m (j : Nat), j + m = o.length → b = !(o.drop j).any (fun y => belowG x y) → Ev (fun k => kimberlitelaw02_GradeDual.l0 k o b (j : Int) x.f0 x.f1 x.f2) true
  | 0, j, hj, hb => by
    rw [List.drop_eq_nil_of_le (by omega)] at hb
    obtain rfl : b = true := hb
    refine Ev.step (Ev.bind (G := fun _ t => some t) alive_ev (Ev.pure true)) (fun k => ?_)
    show kimberlitelaw02_GradeDual.l0 (k + 1) o true (j : Int) x.f0 x.f1 x.f2 = _
    rw [kimberlitelaw02_GradeDual.l0, if_neg (by omega), if_pos rfl]
  | m + 1, j, hj, hb => by
    have h1 : j < o.length := by omega
    rw [List.drop_eq_getElem_cons h1, List.any_cons] at hb
    have e : ∀ k, kimberlitelaw02_GradeDual.l0 (k + 1) o b (j : Int) x.f0 x.f1 x.f2 = if belowG x o[j] = true then (if b = true then some false else ((kimberlitelaw02_alive.f k).bind fun t => some t)) else kimberlitelaw02_GradeDual.l0 k o b ((j + 1 : Nat) : Int) x.f0 x.f1 x.f2 := fun k => by
      rw [kimberlitelaw02_GradeDual.l0, if_pos (by omega), if_pos (by omega), rdG o j h1, sucN (by omega), below_f]
      rfl
    cases hq : belowG x o[j] with
    | true =>
      rw [hq] at hb
      obtain rfl : b = false := hb
      refine Ev.step (Ev.bind (G := fun _ t => some t) alive_ev (Ev.pure true)) (fun k => ?_)
      show kimberlitelaw02_GradeDual.l0 (k + 1) o false (j : Int) x.f0 x.f1 x.f2 = _
      rw [e, hq, if_pos rfl, if_neg (by decide)]
    | false =>
      rw [hq, Bool.false_or] at hb
      refine Ev.step (dual_l0 o ho b x m (j + 1) (by omega) hb) (fun k => ?_)
      show kimberlitelaw02_GradeDual.l0 (k + 1) o b (j : Int) x.f0 x.f1 x.f2 = _
      rw [e, hq, if_neg (by decide)]
theorem dual_ev (l : List S36) (x : S36) : Ev (fun k => kimberlitelaw02_GradeDual.f k l x.f0 x.f1 x.f2) true := by
  unfold kimberlitelaw02_GradeDual.f kimberlitelaw02_class.f
  simp only [Option.bind_some]
  have hc := classF_anti l
  generalize classF l = c at *
  have ho := out_anti c
  have hcs := hc.short
  have hos := ho.short
  have e1 : grade_Outside.f c = some (edgeL (fun g => !upS c g) 1, 0) := by
    unfold grade_Outside.f; rw [if_pos (by omega), out_cl hc]
  have e2 : grade_Beyond.f (edgeL (fun g => !upS c g) 1) = some (c, 0) := by
    unfold grade_Beyond.f; rw [if_pos (by omega), bey_out hc]
  have hin : ∀ g, gok g = true → upS c g = !(edgeL (fun g => !upS c g) 1).any (fun y => belowG g y) := fun g hg => by
    rw [dn_max (dn_not (upS_up _)) hg, Bool.not_not]
  simp only [e1, e2, Option.bind_some, if_true]
  generalize edgeL (fun g => !upS c g) 1 = o at *
  refine Ev.bind (alike_same c (by omega)) ?_
  simp only [if_true]
  refine Ev.bind (alike_same o (by omega)) ?_
  simp only [if_true]
  refine Ev.bind ((refAnti_ev o (by omega)).to (anB_of ho)) ?_
  have e0 : ∀ k, kimberlitelaw02_GradeDual.j0 (k + 1) c o (!true) x.f0 x.f1 x.f2 = ((grade_In.f k c x.f0 x.f1 x.f2).bind fun bt541 => (if bt541.2 = 0 then (kimberlitelaw02_GradeDual.l0 k o bt541.1 0 x.f0 x.f1 x.f2) else (if bt541.2 = 2 then ((kimberliteref02_Good.f x.f0 x.f1 x.f2).bind fun t543 => (if t543 = true then (some false) else ((kimberlitelaw02_alive.f k).bind fun t544 => (some t544)))) else (some false)))) := fun k => by
    rw [kimberlitelaw02_GradeDual.j0, if_neg (by decide)]
  refine Ev.step ?_ e0
  refine Ev.bind (in_ev hc x) ?_
  by_cases hg : gok x = true
  · simp only [hg, if_true]
    exact dual_l0 o (by omega) _ x o.length 0 (by omega) (hin x hg)
  · have hg2 : gok x = false := by simpa using hg
    have e3 : kimberliteref02_Good.f x.f0 x.f1 x.f2 = some false := by
      rw [show kimberliteref02_Good.f x.f0 x.f1 x.f2 = some (gok x) from rfl, hg2]
    simp only [hg2, e3, Option.bind_some, Bool.false_eq_true, if_false, if_true, show ¬ ((2 : Int) = 0) by decide]
    exact Ev.bind alive_ev (Ev.pure _)
theorem pure_GradeDual (l : List S36) (x : S36) : ∃ k, kimberlitelaw02_GradeDual.f k l x.f0 x.f1 x.f2 = some true := by
  obtain ⟨k, hk⟩ := dual_ev l x
  exact ⟨k, hk k (Nat.le_refl _)⟩
end Go.Proofs.Ytnbdfmdjedakcaa.PP
