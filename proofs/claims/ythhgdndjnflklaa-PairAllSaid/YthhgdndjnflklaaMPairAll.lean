/- The law PairAll, as plain Lean: at every input some fuel gives true. No conditions. -/
import Derived.Test.YthhgdndjnflklaaK2
import Derived.Test.YthhgdndjnflklaaF1
import Derived.Test.YthhgdndjnflklaaQ34
namespace Go.Proofs.Ythhgdndjnflklaa.PP
open Go.RowKit Go.Proofs.YthhgdndjnflklaaW.PrintWords Go.Proofs.YthhgdndjnflklaaW.PrintLast Go.Proofs.YthhgdndjnflklaaW.PrintMore
set_option linter.unusedVariables false
set_option linter.unusedSimpArgs false
theorem leAll {α : Type} {f : Nat → Option α} (h : ∀ k, LeO (f k) (f (k + 1))) {k k' : Nat} (hk : k ≤ k') {r : α} (hr : f k = some r) : f k' = some r := by
  induction hk with
  | refl => exact hr
  | step _ ih => exact h _ _ ih
theorem errNe {n : Int} {es : List (Int × Int)} {x : Int} (h : chkS n es = .error x) : x ≠ 0 := by
  unfold chkS at h
  split at h
  · injection h with h; omega
  · split at h
    · injection h with h; omega
    · cases hc : chkL n.toNat es (fun _ _ => false) with
      | none => rw [hc] at h; injection h with h; omega
      | some ny => rw [hc] at h; injection h
theorem pairsF_mz {m : Nat} {nx : Nat → Nat → Bool} {M : Nat → Nat} (hG : Gr m nx) (hM : Mat m nx M) : Mat m nx (MZ (ilist m M)) ∧ pairsS m (MZ (ilist m M)) = pairsS m M := by
  have he : ∀ v, v < m → MZ (ilist m M) v = M v := fun v hv => MZ_ilist m M v hv
  have h1 := hM.congr he
  have p1 := cov_pairs hG h1
  have p2 := cov_pairs hG hM
  have := cov_congr he
  exact ⟨h1, by omega⟩
theorem refPairs_yes {a0 : Int} {l : List S41} {m : Nat} {nx : Nat → Nat → Bool} (h : chkS a0 (prs l) = .ok (m, nx)) (zs : List Int) (k : Nat) (hk : 200 ≤ k) (hf : fitsS m nx zs = true) : kimberliteref04_Pairs.f k a0 l zs = some ((pairsS m (MZ zs) : Int), true) := by
  rw [refPairs_eq h zs k hk, hf]
  rfl
theorem refPairs_no {a0 : Int} {l : List S41} {m : Nat} {nx : Nat → Nat → Bool} (h : chkS a0 (prs l) = .ok (m, nx)) (zs : List Int) (k : Nat) (hk : 200 ≤ k) (hf : fitsS m nx zs = false) : kimberliteref04_Pairs.f k a0 l zs = some (0, false) := by
  rw [refPairs_eq h zs k hk, hf]
  rfl
theorem all_grow {a0 : Int} {l1 : List S41} {m k : Nat} {nx : Nat → Nat → Bool} (hc : chkS a0 (prs l1) = .ok (m, nx)) (hk : Nu m nx k) : ∀ (d : Nat) (zs : List Int), fitsS m nx zs = true → pairsS m (MZ zs) + d = k →
    ∃ K, kimberlitelaw04_PairAll.l1 K a0 l1 (k : Int) (pairsS m (MZ zs) : Int) zs = some true := by
  obtain ⟨hG, hm, _⟩ := chkS_gr' hc
  have hk24 : k ≤ 24 := by
    obtain ⟨⟨M, h3, h4⟩, _⟩ := hk
    have := pairsC_le m M m
    unfold pairsS at h4
    omega
  intro d
  induction d with
  | zero =>
    intro zs hf hp
    have hzl := (fits_spec hf).1
    obtain ⟨l, h1, h2⟩ := grows_tot hc hf hk (fits_mat hf)
    have hl : l = [] := by
      rcases h2 with ⟨h3, _⟩ | ⟨M', _, _, h3, h4, _⟩
      · exact h3
      · have := hk.2 _ h3; omega
    obtain ⟨j, hj⟩ : ∃ j : Nat, 400 ≤ j := ⟨400, Nat.le_refl _⟩
    refine ⟨j + 1, ?_⟩
    simp only [kimberlitelaw04_PairAll.l1]
    rw [if_neg (by omega), show pair_Grows.f a0 l1 zs = some (l, 0) from by unfold pair_Grows.f; rw [if_pos (by omega)]; exact h1, Option.bind_some]
    dsimp only
    rw [if_pos (by omega), if_pos (by first | rfl | trivial), hl, if_pos (by simp), alive_eq j (by omega)]
    rfl
  | succ d ih =>
    intro zs hf hp
    have hzl := (fits_spec hf).1
    obtain ⟨l, h1, h2⟩ := grows_tot hc hf hk (fits_mat hf)
    rcases h2 with ⟨_, h3⟩ | ⟨M', h3, h4, h5, h6, _⟩
    · omega
    · obtain ⟨h7, h8⟩ := pairsF_mz hG h5
      have hf2 := fits_ilist h5
      obtain ⟨K, hK⟩ := ih (ilist m M') hf2 (by omega)
      obtain ⟨j, hj⟩ : ∃ j : Nat, K + 200 ≤ j := ⟨K + 200, Nat.le_refl _⟩
      refine ⟨j + 1, ?_⟩
      simp only [kimberlitelaw04_PairAll.l1]
      rw [if_pos (by omega), show pair_Grows.f a0 l1 zs = some (l, 0) from by unfold pair_Grows.f; rw [if_pos (by omega)]; exact h1, Option.bind_some]
      dsimp only
      rw [h3, refPairs_yes hc _ _ (by omega) hf2, Option.bind_some]
      dsimp only
      rw [if_pos (by first | rfl | trivial), if_pos (by first | rfl | trivial), w64s (by omega), if_pos (by omega)]
      exact leAll (fun k => (kimberlitelaw04_PairAll.mono_l k).2.2.1 _ _ _ _ _) (show K ≤ j by omega) hK
theorem all_lex {a0 : Int} {l1 : List S41} {m k : Nat} {nx : Nat → Nat → Bool} (hm : m ≤ 24) (hm0 : a0 = m) (out : Nat → Nat) (l2 : List Int) (hf : fitsS m nx l2 = true) (p : Int) (hlex : p = (k : Int) → LexLe m out (MZ l2) m)
    (hj3 : ∃ K, kimberlitelaw04_PairAll.j3 K a0 l1 l2 (k : Int) p = some true) : ∀ (d i : Nat), i + d = m → (p = (k : Int) → ∀ v, v < i → MZ l2 v = out v) → ∃ K, kimberlitelaw04_PairAll.l0 K a0 l1 l2 (ilist m out) (k : Int) p (i : Int) = some true
  | 0, i, hd, hag => by
    obtain ⟨K, hK⟩ := hj3
    refine ⟨K + 2, ?_⟩
    simp only [kimberlitelaw04_PairAll.l0, kimberlitelaw04_PairAll.j2]
    rw [if_neg (by omega), if_neg (by decide)]
    exact hK
  | d + 1, i, hd, hag => by
    by_cases hp : p = (k : Int)
    · obtain ⟨hz, hspec⟩ := fits_spec hf
      have hi : i < m := by omega
      have h1 : l2.getD i 0 = (MZ l2 i : Int) := by
        have := (hspec i hi).1
        unfold MZ
        omega
      by_cases he : MZ l2 i = out i
      · obtain ⟨K, hK⟩ := all_lex hm hm0 out l2 hf p hlex hj3 d (i + 1) (by omega) (fun _ v hv => by
          by_cases hvi : v = i
          · rw [hvi]; exact he
          · exact hag hp v (by omega))
        refine ⟨K + 2, ?_⟩
        simp only [kimberlitelaw04_PairAll.l0, kimberlitelaw04_PairAll.j2]
        rw [if_pos (by omega), beq_iff_eq.mpr hp, if_pos rfl, if_pos (by omega), if_pos (by rw [ilist_len_]; omega), if_pos (by omega), rdN, rdN, ilist_get_ _ _ _ hi, h1, if_pos (by omega), w64s (by omega)]
        exact hK
      · have hlt : out i < MZ l2 i := by
          rcases hlex hp with ⟨j, h2, h3, h4⟩ | h2
          · rcases Nat.lt_trichotomy j i with h5 | h5 | h5
            · have := hag hp j h5; omega
            · rw [← h5]; exact h4
            · exact absurd (h3 i h5) he
          · exact absurd (h2 i hi) he
        obtain ⟨K, hK⟩ := hj3
        refine ⟨K + 2, ?_⟩
        simp only [kimberlitelaw04_PairAll.l0, kimberlitelaw04_PairAll.j2]
        rw [if_pos (by omega), beq_iff_eq.mpr hp, if_pos rfl, if_pos (by omega), if_pos (by rw [ilist_len_]; omega), if_pos (by omega), rdN, rdN, ilist_get_ _ _ _ hi, h1, if_neg (by omega), if_neg (by omega)]
        exact hK
    · obtain ⟨K, hK⟩ := hj3
      refine ⟨K + 2, ?_⟩
      simp only [kimberlitelaw04_PairAll.l0, kimberlitelaw04_PairAll.j2]
      rw [if_pos (by omega), beq_eq_false_iff_ne.mpr hp, if_neg (by decide)]
      exact hK
theorem pure_PairAll (a0 : Int) (l1 : List S41) (l2 : List Int) (w0 : (Lit.int .i64 a0).wf = true) : ∃ k, kimberlitelaw04_PairAll.f k a0 l1 l2 = some true := by
  by_cases hfew : l1.length ≤ 140 ∧ l2.length ≤ 140
  · cases hc : chkS a0 (prs l1) with
    | error x =>
      refine ⟨400, ?_⟩
      unfold kimberlitelaw04_PairAll.f
      rw [few_eq]
      simp only [Option.bind_some]
      rw [decide_eq_true hfew, if_pos rfl]
      unfold pair_Match.f
      rw [match_err hc, Option.bind_some]
      dsimp only
      rw [if_neg (errNe hc), if_pos (by simp), if_pos (by first | rfl | trivial), alive_eq 400 (by omega)]
      rfl
    | ok g =>
      obtain ⟨m, nx⟩ := g
      obtain ⟨hG, hm, hm0⟩ := chkS_gr' hc
      obtain ⟨out, k, h1, hk, hMo, hpo, hlex⟩ := match_lex hc
      have hfo := fits_ilist hMo
      obtain ⟨h2, h3⟩ := pairsF_mz hG hMo
      obtain ⟨l, h4, h5⟩ := grows_tot hc hfo hk h2
      have hl : l = [] := by
        rcases h5 with ⟨h6, _⟩ | ⟨M', _, _, h6, h7, _⟩
        · exact h6
        · have := hk.2 _ h6; omega
      subst hl
      have hgo : pair_Grows.f a0 l1 (ilist m out) = some ([], 0) := by
        unfold pair_Grows.f
        rw [if_pos (by rw [ilist_len_]; omega)]
        exact h4
      have start : ∀ K, kimberlitelaw04_PairAll.f K a0 l1 l2 = kimberlitelaw04_PairAll.j0 K a0 l1 l2 (ilist m out) (k : Int) false := fun K => by
        unfold kimberlitelaw04_PairAll.f
        rw [few_eq]
        simp only [Option.bind_some]
        rw [decide_eq_true hfew, if_pos rfl, show pair_Match.f a0 l1 = some (ilist m out, (k : Int), 0) from h1, Option.bind_some]
        dsimp only
        rw [if_pos (by first | rfl | trivial), hgo, Option.bind_some]
        dsimp only
        rw [if_pos (by first | rfl | trivial)]
        rfl
      cases hf : fitsS m nx l2 with
      | false =>
        obtain ⟨j, hj⟩ : ∃ j : Nat, 400 ≤ j := ⟨400, Nat.le_refl _⟩
        refine ⟨j + 1, ?_⟩
        rw [start]
        simp only [kimberlitelaw04_PairAll.j0]
        rw [if_neg (by decide), refPairs_no hc l2 j (by omega) hf, Option.bind_some]
        dsimp only
        rw [if_neg (by decide), alive_eq j (by omega)]
        rfl
      | true =>
        have hM2 := fits_mat hf
        have hle := hk.2 _ hM2
        obtain ⟨K1, hK1⟩ := all_grow hc hk (k - pairsS m (MZ l2)) l2 hf (by omega)
        have hj3 : ∃ K, kimberlitelaw04_PairAll.j3 K a0 l1 l2 (k : Int) (pairsS m (MZ l2) : Int) = some true := by
          obtain ⟨j, hj⟩ : ∃ j : Nat, K1 + 200 ≤ j := ⟨K1 + 200, Nat.le_refl _⟩
          refine ⟨j + 1, ?_⟩
          simp only [kimberlitelaw04_PairAll.j3]
          rw [copied_eq l2 _ (by omega) (by omega), Option.bind_some]
          exact leAll (fun k => (kimberlitelaw04_PairAll.mono_l k).2.2.1 _ _ _ _ _) (show K1 ≤ j by omega) hK1
        obtain ⟨K2, hK2⟩ := all_lex (k := k) hm hm0 out l2 hf (pairsS m (MZ l2) : Int) (fun hp => hlex _ hM2 (by omega)) hj3 m 0 (by omega) (fun _ v hv => absurd hv (by omega))
        obtain ⟨j, hj⟩ : ∃ j : Nat, K2 + 200 ≤ j := ⟨K2 + 200, Nat.le_refl _⟩
        refine ⟨j + 1, ?_⟩
        rw [start]
        simp only [kimberlitelaw04_PairAll.j0]
        rw [if_neg (by decide), refPairs_yes hc l2 _ (by omega) hf, Option.bind_some]
        dsimp only
        rw [if_pos (by first | rfl | trivial)]
        exact leAll (fun k => (kimberlitelaw04_PairAll.mono_l k).2.2.2.1 _ _ _ _ _ _ _) (show K2 ≤ j by omega) hK2
  · refine ⟨400, ?_⟩
    unfold kimberlitelaw04_PairAll.f
    rw [few_eq]
    simp only [Option.bind_some]
    rw [alive_eq 400 (by omega), decide_eq_false hfew]
    rfl
end Go.Proofs.Ythhgdndjnflklaa.PP
