/- The law GradeMembers, as plain Lean: at every input some fuel gives true. No conditions. -/
import Derived.Test.YtnbdfmdjedakcaaU3
import Derived.Test.YtnbdfmdjedakcaaQ12
namespace Go.Proofs.Ytnbdfmdjedakcaa.PP
open Go.RowKit Go.Proofs.YtnbdfmdjedakcaaW.PrintWords Go.Proofs.YtnbdfmdjedakcaaW.PrintLast Go.Proofs.YtnbdfmdjedakcaaW.PrintMore Go.Proofs.Ytnbdfmdjedakcaa
set_option linter.unusedVariables false
set_option linter.unusedSimpArgs false
theorem members_l0 (a b : List S36) (ha : Anti a) (hb : Anti b) (x : S36) (hg : gok x = true) : ∀ m (j : Nat) (s : Bool), j + m = a.length → (s || (a.drop j).any (fun y => belowG y x)) = upS a x →
    Ev (fun k => kimberlitelaw02_GradeMembers.l0 k a b (upS a x) 0 (upS b x) 0 s (j : Int) x.f0 x.f1 x.f2) true
  | 0, j, s, hj, hs => by
    rw [List.drop_eq_nil_of_le (by omega), List.any_nil, Bool.or_false] at hs
    subst hs
    have ua := upS_up a
    have ub := upS_up b
    have hu : Anti (clU fun g => upS a g || upS b g) := clU_anti (up_or ua ub)
    have hv : Anti (clU fun g => upS a g && upS b g) := clU_anti (up_and ua ub)
    have eu : upS (clU fun g => upS a g || upS b g) x = (upS a x || upS b x) := clU_up (up_or ua ub) hg
    have ev : upS (clU fun g => upS a g && upS b g) x = (upS a x && upS b x) := clU_up (up_and ua ub) hg
    have e0 : ∀ k, kimberlitelaw02_GradeMembers.l0 (k + 1) a b (upS a x) 0 (upS b x) 0 (upS a x) (j : Int) x.f0 x.f1 x.f2 = ((grade_In.f k (clU fun g => upS a g || upS b g) x.f0 x.f1 x.f2).bind fun p => ((grade_In.f k (clU fun g => upS a g && upS b g) x.f0 x.f1 x.f2).bind fun q => (if (0 : Int) = 0 then (if (0 : Int) = 0 then (if (0 : Int) = 0 then (if (0 : Int) = 0 then (if p.2 = 0 then (if q.2 = 0 then (if (upS a x == upS a x) = true then (if upS a x = true then (if (p.1 == true) = true then (if (q.1 == upS b x) = true then ((kimberlitelaw02_alive.f k).bind fun t => (some t)) else (some false)) else (some false)) else (if (p.1 == upS b x) = true then (if (q.1 == false) = true then ((kimberlitelaw02_alive.f k).bind fun t => (some t)) else (some false)) else (some false))) else (some false)) else (some false)) else (some false)) else (some false)) else (some false)) else (some false)) else (some false)))) := fun k => by
      rw [kimberlitelaw02_GradeMembers.l0, if_neg (by omega), eit_f ha hb, bot_f ha hb]
      rfl
    refine Ev.step ?_ e0
    refine Ev.bind ((in_ev hu x).to (show _ = (upS a x || upS b x, (0 : Int)) by rw [if_pos hg, eu])) ?_
    refine Ev.bind ((in_ev hv x).to (show _ = (upS a x && upS b x, (0 : Int)) by rw [if_pos hg, ev])) ?_
    simp only [if_true, beq_self_eq_true]
    cases upS a x <;> cases upS b x <;> exact Ev.bind alive_ev (Ev.pure _)
  | m + 1, j, s, hj, hs => by
    have h1 : j < a.length := by omega
    have h9 := ha.short
    rw [List.drop_eq_getElem_cons h1, List.any_cons] at hs
    cases s with
    | true =>
      refine Ev.step (members_l0 a b ha hb x hg m (j + 1) true (by omega) (by simpa using hs)) (fun k => ?_)
      show kimberlitelaw02_GradeMembers.l0 (k + 1) a b (upS a x) 0 (upS b x) 0 true (j : Int) x.f0 x.f1 x.f2 = _
      rw [kimberlitelaw02_GradeMembers.l0, if_pos (by omega), if_pos rfl, sucN (by omega)]
    | false =>
      rw [Bool.false_or] at hs
      refine Ev.step (members_l0 a b ha hb x hg m (j + 1) (belowG a[j] x) (by omega) hs) (fun k => ?_)
      show kimberlitelaw02_GradeMembers.l0 (k + 1) a b (upS a x) 0 (upS b x) 0 false (j : Int) x.f0 x.f1 x.f2 = _
      rw [kimberlitelaw02_GradeMembers.l0, if_pos (by omega), if_neg (by decide), if_pos (by omega), sucN (by omega), rdG a j h1, below_f]
      rfl
theorem pure_GradeMembers (l m : List S36) (x : S36) : ∃ k, kimberlitelaw02_GradeMembers.f k l m x.f0 x.f1 x.f2 = some true := by
  have main : Ev (fun k => kimberlitelaw02_GradeMembers.f k l m x.f0 x.f1 x.f2) true := by
    unfold kimberlitelaw02_GradeMembers.f kimberlitelaw02_class.f
    simp only [Option.bind_some]
    have ha := classF_anti l
    have hb := classF_anti m
    generalize classF l = a at *
    generalize classF m = b at *
    have e3 : kimberliteref02_Good.f x.f0 x.f1 x.f2 = some (gok x) := rfl
    simp only [e3, Option.bind_some]
    by_cases hg : gok x = true
    · simp only [hg, if_true]
      refine Ev.bind ((in_ev ha x).to (if_pos hg)) ?_
      refine Ev.bind ((in_ev hb x).to (if_pos hg)) ?_
      exact members_l0 a b ha hb x hg a.length 0 false (by omega) (by rw [List.drop_zero, Bool.false_or]; rfl)
    · have hg2 : gok x = false := by simpa using hg
      simp only [hg2, Bool.false_eq_true, if_false]
      exact Ev.bind alive_ev (Ev.pure _)
  obtain ⟨k, hk⟩ := main
  exact ⟨k, hk k (Nat.le_refl _)⟩
end Go.Proofs.Ytnbdfmdjedakcaa.PP
