/- The law PairOdd, as plain Lean: at every input some fuel gives true. No conditions. -/
import Derived.Test.YthhgdndjnflklaaK3
import Derived.Test.YthhgdndjnflklaaQ38
namespace Go.Proofs.Ythhgdndjnflklaa.PP
open Go.RowKit Go.Proofs.YthhgdndjnflklaaW.PrintWords Go.Proofs.YthhgdndjnflklaaW.PrintLast Go.Proofs.YthhgdndjnflklaaW.PrintMore
set_option linter.unusedVariables false
set_option linter.unusedSimpArgs false

theorem chkS_err_ne_ {n : Int} {es : List (Int × Int)} {x : Int} (h : chkS n es = .error x) : x ≠ 0 := by
  unfold chkS at h
  split at h
  · injection h with h; omega
  · split at h
    · injection h with h; omega
    · cases hc : chkL n.toNat es (fun _ _ => false) with
      | none => rw [hc] at h; injection h with h; omega
      | some ny => rw [hc] at h; injection h
theorem pure_PairOdd (a0 : Int) (l1 : List S41) (l2 : List Int) (w0 : (Lit.int .i64 a0).wf = true) : ∃ k, kimberlitelaw04_PairOdd.f k a0 l1 l2 = some true := by
  by_cases hf : l1.length ≤ 140 ∧ l2.length ≤ 140
  · have hodd : ∃ k0, ∀ k, k0 ≤ k → ∃ x y : Int, pair_Odd.f a0 l1 l2 = some (x, y) ∧ ((errG a0 l1 ≠ 0 ∧ x = 0 ∧ y = errG a0 l1) ∨ (errG a0 l1 = 0 ∧ ∃ z, kimberliteref04_Without.f k a0 l2 = some z ∧ ((z ≠ 0 ∧ x = 0 ∧ y = z) ∨ (z = 0 ∧ y = 0 ∧ kimberliteref04_Odd.f k a0 l1 l2 = some x)))) := by
      unfold pair_Odd.f
      rw [if_pos (show l2.length ≤ 1000000 by omega)]
      unfold oddF errG
      cases hc : chkS a0 (prs l1) with
      | error x => exact ⟨0, fun k _ => ⟨0, x, rfl, Or.inl ⟨chkS_err_ne_ hc, rfl, rfl⟩⟩⟩
      | ok g =>
        obtain ⟨m, nx⟩ := g
        obtain ⟨hm0, hm, _, _⟩ := chkS_ok hc
        dsimp only
        cases hA : oddA m l2 l2.length 0 (fun _ => false) with
        | none =>
          refine ⟨200, fun k hk => ⟨0, 2, rfl, Or.inr ⟨rfl, 2, ?_, Or.inl ⟨by decide, rfl, rfl⟩⟩⟩⟩
          rw [hm0, without_eq m l2 k (by omega) (by omega), hA]
          rfl
        | some g =>
          obtain ⟨r, hr⟩ := oddB_ok (nx := nx) hm m 0 0 g (by omega)
          obtain ⟨k0, hk0⟩ := refOdd_eq hc l2 (by omega) hA hr
          refine ⟨k0 + 200, fun k hk => ⟨(r : Int), 0, ?_, Or.inr ⟨rfl, 0, ?_, Or.inr ⟨rfl, rfl, hk0 k (by omega)⟩⟩⟩⟩
          · dsimp only
            rw [hr]
            rfl
          · rw [hm0, without_eq m l2 k (by omega) (by omega), hA]
            rfl
    obtain ⟨k0, hk0⟩ := hodd
    refine ⟨k0 + 400 + 1, ?_⟩
    unfold kimberlitelaw04_PairOdd.f
    rw [few_eq]
    simp only [Option.bind_some]
    rw [decide_eq_true hf, if_pos rfl, graph_eq _ _ _ (by omega)]
    simp only [Option.bind_some]
    obtain ⟨x, y, he, hr⟩ := hk0 (k0 + 400) (by omega)
    rw [he]
    simp only [Option.bind_some]
    rcases hr with ⟨h1, h2, h3⟩ | ⟨h1, z, h2, h3⟩
    · rw [if_neg h1]
      simp only [kimberlitelaw04_PairOdd.j0]
      rw [if_neg h1, if_pos h3, if_pos h2, alive_eq _ (by omega)]
      rfl
    · rw [if_pos h1, odd_le (fun k => kimberliteref04_Without.mono _ _ k) (show k0 + 400 ≤ k0 + 400 + 1 by omega) h2]
      simp only [Option.bind_some, kimberlitelaw04_PairOdd.j0]
      rcases h3 with ⟨h4, h5, h6⟩ | ⟨h4, h5, h6⟩
      · rw [if_neg h4, if_pos h6, if_pos h5, alive_eq _ (by omega)]
        rfl
      · rw [if_pos h4, if_pos h5, h6]
        simp only [Option.bind_some]
        rw [if_pos trivial, alive_eq _ (by omega)]
        rfl
  · refine ⟨400, ?_⟩
    unfold kimberlitelaw04_PairOdd.f
    rw [few_eq]
    simp only [Option.bind_some]
    rw [alive_eq 400 (by omega), decide_eq_false hf]
    rfl
end Go.Proofs.Ythhgdndjnflklaa.PP
