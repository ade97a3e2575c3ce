/- The law PairMatches, as plain Lean: at every input some fuel gives true. No conditions. -/
import Derived.Test.YthhgdndjnflklaaK8
import Derived.Test.YthhgdndjnflklaaK2
import Derived.Test.YthhgdndjnflklaaK4
import Derived.Test.YthhgdndjnflklaaQ29
namespace Go.Proofs.Ythhgdndjnflklaa.PP
open Go.RowKit Go.Proofs.YthhgdndjnflklaaW.PrintWords Go.Proofs.YthhgdndjnflklaaW.PrintLast Go.Proofs.YthhgdndjnflklaaW.PrintMore
set_option linter.unusedVariables false
set_option linter.unusedSimpArgs false
theorem alike_loop (a : List S41) (hl : a.length < 1000000000) : ∀ (d k i : Nat), a.length = i + d → d < k → kimberlitelaw04_alike.l0 k a a (i : Int) = some true
  | d, 0, i, _, hk => by omega
  | 0, k + 1, i, h, _ => by
    simp only [kimberlitelaw04_alike.l0]
    rw [if_neg (by omega)]
  | d + 1, k + 1, i, h, hk => by
    simp only [kimberlitelaw04_alike.l0]
    rw [if_pos (by omega), if_pos (by omega), if_pos (by omega), if_neg (by simp), w64s (by omega)]
    exact alike_loop a hl d k (i + 1) (by omega) (by omega)
theorem alike_refl (a : List S41) (k : Nat) (hl : a.length < 1000000000) (hk : a.length < k) : kimberlitelaw04_alike.f k a a = some true := by
  unfold kimberlitelaw04_alike.f
  rw [if_pos rfl]
  exact alike_loop a hl a.length k 0 (by omega) hk
theorem errMa {n : Int} {es : List (Int × Int)} {x : Int} (h : chkS n es = .error x) : x ≠ 0 := chk_err_ne h
theorem mzMa {m : Nat} {nx : Nat → Nat → Bool} {M : Nat → Nat} (hG : Gr m nx) (hM : Mat m nx M) : pairsS m (MZ (ilist m M)) = pairsS m M := by
  have he : ∀ v, v < m → MZ (ilist m M) v = M v := fun v hv => MZ_ilist m M v hv
  have h1 := hM.congr he
  have p1 := cov_pairs hG h1
  have p2 := cov_pairs hG hM
  have := cov_congr he
  omega
theorem pure_PairMatches (a0 : Int) (l1 : List S41) (w0 : (Lit.int .i64 a0).wf = true) : ∃ k, kimberlitelaw04_PairMatches.f k a0 l1 = some true := by
  by_cases hfew : l1.length ≤ 140
  · have hfl := decide_eq_true (show l1.length ≤ 140 ∧ ([] : List Int).length ≤ 140 from ⟨hfew, by simp⟩)
    obtain ⟨j, hj⟩ : ∃ j : Nat, 400 ≤ j := ⟨400, Nat.le_refl _⟩
    cases hc : chkS a0 (prs l1) with
    | error x =>
      have he : errG a0 l1 = x := by unfold errG; rw [hc]
      refine ⟨j + 1, ?_⟩
      unfold kimberlitelaw04_PairMatches.f
      rw [few_eq]
      simp only [Option.bind_some]
      rw [hfl, if_pos rfl, own_eq l1 _ (by omega) (by omega), Option.bind_some]
      unfold pair_Match.f pair_Short.f
      rw [match_err hc, short_err hc, Option.bind_some, Option.bind_some, graph_eq _ _ _ (by omega), Option.bind_some, he]
      dsimp only
      rw [if_pos rfl, if_pos rfl, alike_refl _ _ (by omega) (by omega), Option.bind_some]
      simp only [kimberlitelaw04_PairMatches.j0]
      rw [if_neg (by decide), if_neg (errMa hc), if_pos (by simp), if_pos trivial, if_pos trivial, alive_eq j (by omega)]
      rfl
    | ok g =>
      obtain ⟨m, nx⟩ := g
      obtain ⟨hG, hm, hm0⟩ := chkS_gr' hc
      have he : errG a0 l1 = 0 := by unfold errG; rw [hc]
      obtain ⟨out, k, h1, hk, hMo, hpo, hlex⟩ := match_lex hc
      have hk24 := hk.le24
      -- up to the last test
      have start : ∀ K, 300 ≤ K → kimberlitelaw04_PairMatches.f (K + 1 + 1) a0 l1 = (if a0 > 14 then ((kimberlitelaw04_alive.f K).bind fun t383 => (some t383)) else ((kimberliteref04_Match.f K a0 l1).bind fun bt384 => ((kimberlitelaw04_same.f K (ilist m out) bt384.1).bind fun t388 => (if t388 = true then (if (k : Int) = bt384.2 then ((kimberlitelaw04_alive.f K).bind fun t389 => (some t389)) else (some false)) else (some false))))) := fun K hK => by
        unfold kimberlitelaw04_PairMatches.f
        rw [few_eq]
        simp only [Option.bind_some]
        rw [hfl, if_pos rfl, own_eq l1 _ (by omega) (by omega), Option.bind_some]
        unfold pair_Match.f pair_Short.f
        rw [h1, short_tot hc hk, Option.bind_some, Option.bind_some, graph_eq _ _ _ (by omega), Option.bind_some, he]
        dsimp only
        rw [if_pos rfl, if_pos rfl, alike_refl _ _ (by omega) (by omega), Option.bind_some]
        simp only [kimberlitelaw04_PairMatches.j0]
        have hrp : kimberliteref04_Pairs.f (K + 1) a0 l1 (ilist m out) = some ((k : Int), true) := by
          rw [refPairs_eq hc _ _ (by omega), fits_ilist hMo]
          show some ((pairsS m (MZ (ilist m out)) : Int), true) = _
          rw [mzMa hG hMo, hpo]
        rw [if_neg (by decide), if_pos trivial, hrp, Option.bind_some]
        dsimp only
        rw [if_pos rfl, if_pos rfl, w64 (x := 2 * (k : Int)) (by omega) (by omega), w64 (by omega) (by omega), hm0, bne_self_eq_false]
        simp only [kimberlitelaw04_PairMatches.j1]
        rw [if_neg (by decide)]
      by_cases hf : m ≤ 14
      · obtain ⟨k0, hk0⟩ := refMatch_eq hc hf hMo hk hpo hlex
        refine ⟨j + k0 + 1 + 1, ?_⟩
        rw [start _ (by omega), if_neg (by omega), hk0 _ (by omega), Option.bind_some]
        dsimp only
        rw [same_refl _ _ (by rw [ilist_len_]; omega) (by rw [ilist_len_]; omega), Option.bind_some, if_pos rfl, if_pos rfl, alive_eq _ (by omega)]
        rfl
      · refine ⟨j + 1 + 1, ?_⟩
        rw [start _ (by omega), if_pos (by omega), alive_eq _ (by omega)]
        rfl
  · refine ⟨400, ?_⟩
    unfold kimberlitelaw04_PairMatches.f
    rw [few_eq]
    simp only [Option.bind_some]
    rw [alive_eq 400 (by omega), decide_eq_false (fun h => hfew h.1)]
    rfl
end Go.Proofs.Ythhgdndjnflklaa.PP
