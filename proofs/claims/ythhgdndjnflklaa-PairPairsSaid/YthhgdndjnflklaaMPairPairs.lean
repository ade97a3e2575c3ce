/- The law PairPairs, as plain Lean: at every input some fuel gives true. No conditions. -/
import Derived.Test.YthhgdndjnflklaaK2
import Derived.Test.YthhgdndjnflklaaQ32
namespace Go.Proofs.Ythhgdndjnflklaa.PP
open Go.RowKit Go.Proofs.YthhgdndjnflklaaW.PrintWords Go.Proofs.YthhgdndjnflklaaW.PrintLast Go.Proofs.YthhgdndjnflklaaW.PrintMore
set_option linter.unusedVariables false
set_option linter.unusedSimpArgs false

theorem chkS_err_ne {n : Int} {es : List (Int × Int)} {x : Int} (h : chkS n es = .error x) : x ≠ 0 := by
  unfold chkS at h
  split at h
  · injection h with h; omega
  · split at h
    · injection h with h; omega
    · cases hc : chkL n.toNat es (fun _ _ => false) with
      | none => rw [hc] at h; injection h with h; omega
      | some ny => rw [hc] at h; injection h
theorem pure_PairPairs (a0 : Int) (l1 : List S41) (l2 : List Int) (w0 : (Lit.int .i64 a0).wf = true) : ∃ k, kimberlitelaw04_PairPairs.f k a0 l1 l2 = some true := by
  refine ⟨400, ?_⟩
  unfold kimberlitelaw04_PairPairs.f
  rw [few_eq]
  simp only [Option.bind_some]
  rw [alive_eq 400 (by omega)]
  simp only [Option.bind_some]
  by_cases hf : l1.length ≤ 140 ∧ l2.length ≤ 140
  · rw [decide_eq_true hf, if_pos rfl, copied_eq l2 400 (by omega) (by omega)]
    simp only [Option.bind_some]
    rw [graph_eq _ _ _ (by omega), same_refl l2 400 (by omega) (by omega)]
    simp only [Option.bind_some]
    unfold pair_Pairs.f
    rw [if_pos (show l2.length ≤ 1000000 by omega)]
    unfold pairsF errG
    cases hc : chkS a0 (prs l1) with
    | error x =>
      simp only [Option.bind_some]
      rw [if_pos trivial, if_neg (chkS_err_ne hc), if_pos trivial, if_pos trivial]
    | ok g =>
      obtain ⟨m, nx⟩ := g
      rw [refPairs_eq hc l2 400 (by omega)]
      dsimp only
      cases hF : fitsS m nx l2 with
      | true =>
        simp only [Option.bind_some, ansP, if_true]
      | false =>
        simp [ansP]
  · rw [decide_eq_false hf]
    rfl
end Go.Proofs.Ythhgdndjnflklaa.PP
