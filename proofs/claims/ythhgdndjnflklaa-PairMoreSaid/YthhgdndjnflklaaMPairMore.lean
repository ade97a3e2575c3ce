/- The law PairMore, as plain Lean: at every input some fuel gives true. No conditions. -/
import Derived.Test.YthhgdndjnflklaaK4
import Derived.Test.YthhgdndjnflklaaQ24
namespace Go.Proofs.Ythhgdndjnflklaa.PP
open Go.RowKit Go.Proofs.YthhgdndjnflklaaW.PrintWords Go.Proofs.YthhgdndjnflklaaW.PrintLast Go.Proofs.YthhgdndjnflklaaW.PrintMore
set_option linter.unusedVariables false
set_option linter.unusedSimpArgs false

/-- One edge more. -/
theorem more_edge {a0 : Int} {l1 : List S41} {m k : Nat} {nx : Nat → Nat → Bool} (hc : chkS a0 (prs l1) = .ok (m, nx)) (hk : Nu m nx k) (e : S41) :
    ∃ (r : List Int) (p x : Int), pair_Match.f a0 (l1 ++ [e]) = some (r, p, x) ∧ (x = 0 → p = (k : Int) ∨ p = ((k + 1 : Nat) : Int)) := by
  unfold pair_Match.f
  rw [prs_app]
  cases hc2 : chkS a0 (prs l1 ++ prs [e]) with
  | error x => exact ⟨[], 0, x, match_err hc2, fun h => absurd h (chk_err_ne hc2)⟩
  | ok g =>
    obtain ⟨m', nx'⟩ := g
    obtain ⟨out, k', h1, h2, _⟩ := match_tot hc2
    refine ⟨_, _, 0, h1, fun _ => ?_⟩
    obtain ⟨e1, _, _, h3⟩ := chkS_ok hc
    obtain ⟨e2, _, _, h4⟩ := chkS_ok hc2
    obtain rfl : m' = m := by omega
    rw [chkL_append, h3, Option.bind_some] at h4
    obtain ⟨h5, h6, h7⟩ := chkL_fact _ _ _ h4
    have h8 := nu_stone e.f0.toNat (chkS_gr' hc).1 (chkS_gr' hc2).1 (fun x y _ _ h => h5 x y h) (fun x y _ _ hx hy h => by
      rcases h6 x y h with h9 | ⟨g, hg, h9⟩
      · exact h9
      · have hg2 : g = (e.f0, e.f1) := by simpa [prs] using hg
        subst hg2
        rcases h9 with h9 | h9
        · exact absurd h9.1 hx
        · exact absurd h9.2 hy) hk h2
    omega
/-- One stone more. -/
theorem more_stone {a0 : Int} {l1 : List S41} {m k : Nat} {nx : Nat → Nat → Bool} (hc : chkS a0 (prs l1) = .ok (m, nx)) (hk : Nu m nx k) (W : List S41) (hW : ∀ e, e ∈ W → e.f0 = (m : Int)) :
    ∃ (r : List Int) (p x : Int), pair_Match.f ((m + 1 : Nat) : Int) (l1 ++ W) = some (r, p, x) ∧ (x = 0 → p = (k : Int) ∨ p = ((k + 1 : Nat) : Int)) := by
  unfold pair_Match.f
  rw [prs_app]
  cases hc2 : chkS ((m + 1 : Nat) : Int) (prs l1 ++ prs W) with
  | error x => exact ⟨[], 0, x, match_err hc2, fun h => absurd h (chk_err_ne hc2)⟩
  | ok g =>
    obtain ⟨m', ny⟩ := g
    obtain ⟨out, k', h1, h2, _⟩ := match_tot hc2
    refine ⟨_, _, 0, h1, fun _ => ?_⟩
    obtain ⟨e1, _, _, h3⟩ := chkS_ok hc
    obtain ⟨e2, _, _, h4⟩ := chkS_ok hc2
    obtain rfl : m' = m + 1 := by omega
    rw [chkL_append, chkL_mono (by omega) _ _ _ h3, Option.bind_some] at h4
    obtain ⟨h5, h6, h7⟩ := chkL_fact _ _ _ h4
    obtain ⟨_, h8, h9⟩ := chkL_fact _ _ _ h3
    have hG := (chkS_gr' hc).1
    have hG1 : Gr (m + 1) nx := ⟨hG.sym, hG.irr⟩
    have hnone : ∀ x, nx x m = false := fun x => by
      cases hx : nx x m with
      | false => rfl
      | true =>
        rcases h8 x m hx with h | ⟨g, hg, h⟩
        · exact absurd h (by decide)
        · obtain ⟨h10, h11, h12, h13, _⟩ := h9 g hg
          omega
    have hup := nu_up hG hG1 (fun _ _ _ _ => rfl) hnone hk
    have h10 := nu_stone m hG1 (chkS_gr' hc2).1 (fun x y _ _ h => h5 x y h) (fun x y _ _ hx hy h => by
      rcases h6 x y h with h9 | ⟨g, hg, h9⟩
      · exact h9
      · obtain ⟨f, hf, rfl⟩ := List.mem_map.mp hg
        have h11 := hW f hf
        rcases h9 with h9 | h9
        · exact absurd (by rw [h9.1]; show f.f0.toNat = m; omega) hx
        · exact absurd (by rw [h9.2]; show f.f0.toNat = m; omega) hy) hup h2
    omega
theorem more_loop {a0 : Int} {l1 : List S41} {m k : Nat} {nx : Nat → Nat → Bool} (hc : chkS a0 (prs l1) = .ok (m, nx)) (hk : Nu m nx k) (hk24 : k ≤ 24) (hm : m ≤ 24) (hl : l1.length ≤ 140) (tl : List Bool) :
    ∀ (d i : Nat) (W : List S41), i ≤ m → m < i + d → W.length ≤ i → (∀ e, e ∈ W → e.f0 = (m : Int)) → ∃ K, kimberlitelaw04_PairMore.l0 K (m : Int) tl (k : Int) (l1 ++ W) (i : Int) = some true := by
  intro d
  induction d with
  | zero => intro i W hi hd; omega
  | succ d ih =>
    intro i W hi hd hlen hW
    -- the way out
    have hout : ∃ K, kimberlitelaw04_PairMore.j2 K (m : Int) tl (k : Int) (l1 ++ W) (i : Int) false = some true := by
      obtain ⟨r, p, x, h1, h2⟩ := more_stone hc hk W hW
      refine ⟨401, ?_⟩
      simp only [kimberlitelaw04_PairMore.j2]
      rw [if_neg (by decide), w64s (by omega), h1, Option.bind_some]
      dsimp only
      rw [alive_eq 400 (by omega)]
      simp only [Option.bind_some]
      by_cases hx : x = 0
      · rw [if_pos hx]
        rcases h2 hx with h3 | h3
        · rw [if_pos h3]
        · rw [if_neg (by omega), w64s (by omega), if_pos h3]
      · rw [if_neg hx]
    by_cases him : i < m
    · by_cases hit : i < tl.length
      · cases hb : tl.getD i false with
        | true =>
          obtain ⟨K, hK⟩ := ih (i + 1) (W ++ [⟨(m : Int), (i : Int)⟩]) (by omega) (by omega) (by rw [List.length_append, List.length_singleton]; omega) (fun e he => by
            rcases List.mem_append.mp he with he | he
            · exact hW e he
            · rw [List.mem_singleton.mp he])
          refine ⟨K + 2, ?_⟩
          simp only [kimberlitelaw04_PairMore.l0, kimberlitelaw04_PairMore.j2]
          rw [if_pos (by omega), decide_eq_true (by omega), if_pos rfl, if_pos (by omega), if_pos (by omega)]
          rw [show rdOf false tl (i : Int) = true from by unfold rdOf; rw [Int.toNat_natCast]; exact hb, if_pos rfl, Option.bind_some, if_pos (by rw [List.length_append, List.length_singleton]; omega), w64s (by omega), List.append_assoc]
          exact hK
        | false =>
          obtain ⟨K, hK⟩ := ih (i + 1) W (by omega) (by omega) (by omega) hW
          refine ⟨K + 2, ?_⟩
          simp only [kimberlitelaw04_PairMore.l0, kimberlitelaw04_PairMore.j2]
          rw [if_pos (by omega), decide_eq_true (by omega), if_pos rfl, if_pos (by omega), if_pos (by omega)]
          rw [show rdOf false tl (i : Int) = false from by unfold rdOf; rw [Int.toNat_natCast]; exact hb, if_neg (by decide), w64s (by omega)]
          exact hK
      · obtain ⟨K, hK⟩ := hout
        refine ⟨K + 1, ?_⟩
        simp only [kimberlitelaw04_PairMore.l0]
        rw [if_pos (by omega), decide_eq_false (by omega)]
        exact hK
    · obtain ⟨K, hK⟩ := hout
      refine ⟨K + 1, ?_⟩
      simp only [kimberlitelaw04_PairMore.l0]
      rw [if_neg (by omega)]
      exact hK
theorem leO_le {α : Type} {f : Nat → Option α} (h : ∀ k, LeO (f k) (f (k + 1))) {k k' : Nat} (hk : k ≤ k') {r : α} (hr : f k = some r) : f k' = some r := by
  induction hk with
  | refl => exact hr
  | step _ ih => exact h _ _ ih
theorem pure_PairMore (a0 : Int) (l1 : List S41) (e0 e1 : Int) (l3 : List Bool) (w0 : (Lit.int .i64 a0).wf = true) (w1 : (Lit.int .i64 e0).wf = true) (w2 : (Lit.int .i64 e1).wf = true) : ∃ k, kimberlitelaw04_PairMore.f k a0 l1 e0 e1 l3 = some true := by
  by_cases hf : l1.length ≤ 140
  · cases hc : chkS a0 (prs l1) with
    | error x =>
      refine ⟨400, ?_⟩
      unfold kimberlitelaw04_PairMore.f
      rw [few_eq]
      simp only [Option.bind_some]
      rw [decide_eq_true (show l1.length ≤ 140 ∧ ([] : List Int).length ≤ 140 from ⟨hf, by simp⟩), if_pos rfl]
      unfold pair_Match.f
      rw [match_err hc, Option.bind_some]
      dsimp only
      rw [if_neg (chk_err_ne hc), alive_eq 400 (by omega)]
      rfl
    | ok g =>
      obtain ⟨m, nx⟩ := g
      obtain ⟨hG, hm, hm0⟩ := chkS_gr' hc
      obtain ⟨out, k, h1, h2, _⟩ := match_tot hc
      have hk24 : k ≤ 24 := by
        obtain ⟨⟨M, h3, h4⟩, _⟩ := h2
        have := pairsC_le m M m
        unfold pairsS at h4
        omega
      obtain ⟨K, hK⟩ := more_loop hc h2 hk24 hm hf l3 (m + 1) 0 [] (by omega) (by omega) (by simp) (fun e he => absurd he (by simp))
      rw [List.append_nil] at hK
      have hj : ∀ b, b = false → kimberlitelaw04_PairMore.j0 (K + 200 + 1) a0 l1 l3 (k : Int) b = some true := fun b hb => by
        subst hb
        simp only [kimberlitelaw04_PairMore.j0]
        rw [if_neg (by decide), own_eq l1 _ (by omega) (by omega), Option.bind_some, hm0]
        exact leO_le (fun k => (kimberlitelaw04_PairMore.mono_l k).2.1 _ _ _ _ _) (show K ≤ K + 200 by omega) hK
      obtain ⟨r, p, x, h3, h4⟩ := more_edge hc h2 ⟨e0, e1⟩
      refine ⟨K + 200 + 1, ?_⟩
      unfold kimberlitelaw04_PairMore.f
      rw [few_eq]
      simp only [Option.bind_some]
      rw [decide_eq_true (show l1.length ≤ 140 ∧ ([] : List Int).length ≤ 140 from ⟨hf, by simp⟩), if_pos rfl]
      rw [show pair_Match.f a0 l1 = some (ilist m out, (k : Int), 0) from h1, Option.bind_some]
      dsimp only
      rw [if_pos rfl, own_eq l1 _ (by omega) (by omega), Option.bind_some, if_pos (by rw [List.length_singleton]; omega), h3, Option.bind_some]
      dsimp only
      by_cases hx : x = 0
      · rw [if_pos hx]
        rcases h4 hx with h5 | h5
        · rw [if_pos h5]
          exact hj _ rfl
        · rw [if_neg (by omega), w64s (by omega)]
          exact hj _ (by rw [h5]; exact bne_self_eq_false _)
      · rw [if_neg hx]
        exact hj _ rfl
  · refine ⟨400, ?_⟩
    unfold kimberlitelaw04_PairMore.f
    rw [few_eq]
    simp only [Option.bind_some]
    rw [alive_eq 400 (by omega), decide_eq_false (fun h => hf h.1)]
    rfl
end Go.Proofs.Ythhgdndjnflklaa.PP
