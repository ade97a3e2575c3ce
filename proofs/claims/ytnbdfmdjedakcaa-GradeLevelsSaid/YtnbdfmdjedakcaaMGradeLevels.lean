/- The law GradeLevels, as plain Lean: at every input some fuel gives true. No conditions. -/
import Derived.Test.YtnbdfmdjedakcaaJA
import Derived.Test.YtnbdfmdjedakcaaQ3
namespace Go.Proofs.Ytnbdfmdjedakcaa.PP
open Go.RowKit Go.Proofs.YtnbdfmdjedakcaaW.PrintWords Go.Proofs.YtnbdfmdjedakcaaW.PrintLast Go.Proofs.YtnbdfmdjedakcaaW.PrintMore Go.Proofs.Ytnbdfmdjedakcaa
set_option linter.unusedVariables false
set_option linter.unusedSimpArgs false
theorem same_l0 (x : List Int) : ∀ m (j : Nat), j + m = x.length → x.length ≤ 1000000 → Ev (fun k => kimberlitelaw02_same.l0 k x x (j : Int)) true
  | 0, j, hj, hx => by
    refine Ev.step (Ev.pure _) (fun k => ?_)
    show kimberlitelaw02_same.l0 (k + 1) x x (j : Int) = _
    rw [kimberlitelaw02_same.l0, if_neg (by omega)]
  | m + 1, j, hj, hx => by
    refine Ev.step (same_l0 x m (j + 1) (by omega) hx) (fun k => ?_)
    show kimberlitelaw02_same.l0 (k + 1) x x (j : Int) = _
    rw [kimberlitelaw02_same.l0, if_pos (by omega), if_pos (by omega), if_pos (by omega), if_pos rfl, suc64 (n := 0) (by omega)]
theorem same_ev (x : List Int) (hx : x.length ≤ 1000000) : Ev (fun k => kimberlitelaw02_same.f k x x) true := by
  unfold kimberlitelaw02_same.f
  simp only [if_true]
  exact same_l0 x x.length 0 (by omega) hx
theorem pure_GradeLevels (l : List S38) : ∃ k, kimberlitelaw02_GradeLevels.f k l = some true := by
  have main : Ev (fun k => kimberlitelaw02_GradeLevels.f k l) true := by
    unfold kimberlitelaw02_GradeLevels.f kimberlitelaw02_small.f
    simp only [Option.bind_some]
    by_cases hl : (l.length : Int) ≤ 30
    · simp only [hl, decide_true, if_true]
      have hlen : l.length ≤ 1000000 := by omega
      have rest : ∀ f s e, Ev (fun k => grade_Level.f k l) (f, s, e) → f.length ≤ 1000000 → Ev (fun k => kimberlitelaw02_GradeLevels.j0 k l false) true := fun f s e hf hfl => by
        have hr : Ev (fun k => kimberliteref02_Level.f k l) (f, s, e) := hf.same (fun k => refLevel_eq l hlen k)
        have e0 : ∀ k, kimberlitelaw02_GradeLevels.j0 (k + 1) l false = ((grade_Level.f k l).bind fun bt244 => ((kimberliteref02_Level.f k l).bind fun bt249 => ((kimberlitelaw02_same.f k bt244.1 bt249.1).bind fun t254 => (if t254 = true then (if bt244.2.1 = bt249.2.1 then (if bt244.2.2 = bt249.2.2 then ((kimberlitelaw02_alive.f k).bind fun t255 => (some t255)) else (some false)) else (some false)) else (some false))))) := fun k => by
          rw [kimberlitelaw02_GradeLevels.j0, if_neg (by decide)]
        refine Ev.step ?_ e0
        refine Ev.bind hf (Ev.bind hr (Ev.bind (same_ev f hfl) ?_))
        simp only [if_true, eq_self_iff_true]
        exact Ev.bind alive_ev (Ev.pure _)
      by_cases hq : qErrF l = 0
      · obtain ⟨x, y, z, f, h1, h2, h3, h4, _⟩ := level_ev l hq
        have h1r : Ev (fun k => kimberliteref02_Clash.f k l) (x, y, 0) := h1.same (fun k => refClash_eq l hlen k)
        refine Ev.bind h1 (Ev.bind h1r ?_)
        simp only [if_true, bne_self_eq_false]
        exact rest f _ _ h3 (by rw [h4.len]; exact hlen)
      · have h1 := clash_err l hq
        have h1r : Ev (fun k => kimberliteref02_Clash.f k l) (0, 0, qErrF l) := h1.same (fun k => refClash_eq l hlen k)
        refine Ev.bind h1 (Ev.bind h1r ?_)
        simp only [if_true, bne_self_eq_false]
        have hf : Ev (fun k => grade_Level.f k l) ([], 0, qErrF l) := by
          unfold grade_Level.f
          refine Ev.bind h1 ?_
          simp only [hq, if_false]
          exact Ev.pure _
        exact rest [] 0 _ hf (by simp)
    · simp only [hl, decide_false, Bool.false_eq_true, if_false]
      exact Ev.bind alive_ev (Ev.pure _)
  obtain ⟨k, hk⟩ := main
  exact ⟨k, hk k (Nat.le_refl _)⟩
end Go.Proofs.Ytnbdfmdjedakcaa.PP
