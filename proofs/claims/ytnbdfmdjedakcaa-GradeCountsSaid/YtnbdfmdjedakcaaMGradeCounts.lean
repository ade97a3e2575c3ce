/- The law GradeCounts, as plain Lean: at every input some fuel gives true. No conditions. -/
import Derived.Test.YtnbdfmdjedakcaaU3
import Derived.Test.YtnbdfmdjedakcaaQ10
namespace Go.Proofs.Ytnbdfmdjedakcaa.PP
open Go.RowKit Go.Proofs.YtnbdfmdjedakcaaW.PrintWords Go.Proofs.YtnbdfmdjedakcaaW.PrintLast Go.Proofs.YtnbdfmdjedakcaaW.PrintMore Go.Proofs.Ytnbdfmdjedakcaa
set_option linter.unusedVariables false
set_option linter.unusedSimpArgs false
theorem filter_all_le (P : S36 → Bool) : (allL.filter P).length ≤ 1728 := by
  have := List.length_filter_le P allL
  rw [allL_len] at this
  exact this
theorem filter_eq {P Q : S36 → Bool} (h : ∀ g, gok g = true → P g = Q g) : allL.filter P = allL.filter Q := List.filter_congr fun g hg => h g (mem_all.1 hg)
theorem counts_ev (l m : List S36) : Ev (fun k => kimberlitelaw02_GradeCounts.f k l m) true := by
  unfold kimberlitelaw02_GradeCounts.f kimberlitelaw02_class.f
  simp only [Option.bind_some]
  have ha := classF_anti l
  have hb := classF_anti m
  generalize classF l = a at *
  generalize classF m = b at *
  have ua := upS_up a
  have ub := upS_up b
  have hu : Anti (clU fun g => upS a g || upS b g) := clU_anti (up_or ua ub)
  have hv : Anti (clU fun g => upS a g && upS b g) := clU_anti (up_and ua ub)
  have eu : ∀ g, gok g = true → upS (clU fun g => upS a g || upS b g) g = (upS a g || upS b g) := fun g hg => clU_up (up_or ua ub) hg
  have ev : ∀ g, gok g = true → upS (clU fun g => upS a g && upS b g) g = (upS a g && upS b g) := fun g hg => clU_up (up_and ua ub) hg
  simp only [eit_f ha hb, bot_f ha hb, Option.bind_some]
  generalize hU : (clU fun g => upS a g || upS b g) = u at *
  generalize hV : (clU fun g => upS a g && upS b g) = v at *
  have b1 := filter_all_le (upS a)
  have b2 := filter_all_le (upS b)
  have b3 := filter_all_le (upS u)
  have b4 := filter_all_le (upS v)
  have ie := incl_excl (upS a) (upS b) allL
  rw [← filter_eq eu, ← filter_eq ev] at ie
  have l1 := filter_le (upS v) (upS a) allL (fun x hx h => by rw [ev x (mem_all.1 hx)] at h; simp only [Bool.and_eq_true] at h; exact h.1)
  have l2 := filter_le (upS v) (upS b) allL (fun x hx h => by rw [ev x (mem_all.1 hx)] at h; simp only [Bool.and_eq_true] at h; exact h.2)
  refine Ev.bind (count_cl ha) (Ev.bind (count_cl hb) (Ev.bind (count_cl hu) (Ev.bind (count_cl hv) ?_)))
  generalize (allL.filter (upS a)).length = p at *
  generalize (allL.filter (upS b)).length = q at *
  generalize (allL.filter (upS u)).length = n at *
  generalize (allL.filter (upS v)).length = k at *
  have w1 : wrap64 ((n : Int) + (k : Int)) = wrap64 ((p : Int) + (q : Int)) := by
    rw [show (n : Int) + (k : Int) = (p : Int) + (q : Int) by omega]
  have w2 : ¬ ((k : Int) > mn (p : Int) (q : Int)) := by unfold mn; split <;> omega
  have w3 : decide ((n : Int) < mx (p : Int) (q : Int)) = false := by
    refine decide_eq_false ?_
    unfold mx; split <;> omega
  simp only [if_true, w1, w2, if_false, w3]
  have e1 : (clU fun g => upS a g || upS v g) = a := by
    rw [← clU_of ha]
    refine clU_congr fun g hg => ?_
    rw [clU_of ha, ev g hg]
    cases upS a g <;> cases upS b g <;> rfl
  have e2 : (clU fun g => upS a g && upS u g) = a := by
    rw [← clU_of ha]
    refine clU_congr fun g hg => ?_
    rw [clU_of ha, eu g hg]
    cases upS a g <;> cases upS b g <;> rfl
  have h9 := ha.short
  refine Ev.step (G := fun k => (kimberlitelaw02_alike.f k a a).bind fun t580 => if t580 = true then ((kimberlitelaw02_alike.f k a a).bind fun t581 => if t581 = true then ((kimberlitelaw02_alive.f k).bind fun t582 => some t582) else some false) else some false) ?_ (fun k => ?_)
  · refine Ev.bind (alike_same a (by omega)) ?_
    simp only [if_true]
    refine Ev.bind (alike_same a (by omega)) ?_
    simp only [if_true]
    exact Ev.bind alive_ev (Ev.pure _)
  · rw [kimberlitelaw02_GradeCounts.j0, if_neg (by decide), eit_f ha hv, bot_f ha hu, e1, e2]
    rfl
theorem pure_GradeCounts (l m : List S36) : ∃ k, kimberlitelaw02_GradeCounts.f k l m = some true := by
  obtain ⟨k, hk⟩ := counts_ev l m
  exact ⟨k, hk k (Nat.le_refl _)⟩
end Go.Proofs.Ytnbdfmdjedakcaa.PP
