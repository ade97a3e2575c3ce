/- The law PairGrows, as plain Lean: at every input some fuel gives true. No conditions. -/
import Derived.Test.YthhgdndjnflklaaK2
import Derived.Test.YthhgdndjnflklaaK6
import Derived.Test.YthhgdndjnflklaaF1
import Derived.Test.YthhgdndjnflklaaQ33
namespace Go.Proofs.Ythhgdndjnflklaa.PP
open Go.RowKit Go.Proofs.YthhgdndjnflklaaW.PrintWords Go.Proofs.YthhgdndjnflklaaW.PrintLast Go.Proofs.YthhgdndjnflklaaW.PrintMore
set_option linter.unusedVariables false
set_option linter.unusedSimpArgs false
theorem errGr {n : Int} {es : List (Int × Int)} {x : Int} (h : chkS n es = .error x) : x ≠ 0 := by
  unfold chkS at h
  split at h
  · injection h with h; omega
  · split at h
    · injection h with h; omega
    · cases hc : chkL n.toNat es (fun _ _ => false) with
      | none => rw [hc] at h; injection h with h; omega
      | some ny => rw [hc] at h; injection h
theorem tokGr {n : Nat} {nx : Nat → Nat → Bool} {t : List Int} (hT : ∀ x, x < 2 ^ n → Tok n nx t x) : ∃ k : Nat, t.getD (2 ^ n - 1) 0 = (k : Int) ∧ Nu n nx k := by
  have hp := Nat.two_pow_pos n
  obtain ⟨k, h1, h2⟩ := hT (2 ^ n - 1) (by omega)
  refine ⟨k, h1, h2.same (fun x y hx hy => eqB ?_)⟩
  rw [gS_iff, Nat.testBit_two_pow_sub_one, Nat.testBit_two_pow_sub_one, decide_eq_true hx, decide_eq_true hy]
  exact ⟨fun h => h.1, fun h => ⟨h, rfl, rfl⟩⟩
theorem refYes {a0 : Int} {l : List S41} {m : Nat} {nx : Nat → Nat → Bool} (h : chkS a0 (prs l) = .ok (m, nx)) (zs : List Int) (k : Nat) (hk : 200 ≤ k) (hf : fitsS m nx zs = true) : kimberliteref04_Pairs.f k a0 l zs = some ((pairsS m (MZ zs) : Int), true) := by
  rw [refPairs_eq h zs k hk, hf]
  rfl
theorem refNo {a0 : Int} {l : List S41} {m : Nat} {nx : Nat → Nat → Bool} (h : chkS a0 (prs l) = .ok (m, nx)) (zs : List Int) (k : Nat) (hk : 200 ≤ k) (hf : fitsS m nx zs = false) : kimberliteref04_Pairs.f k a0 l zs = some (0, false) := by
  rw [refPairs_eq h zs k hk, hf]
  rfl
theorem mzPairs {m : Nat} {nx : Nat → Nat → Bool} {M : Nat → Nat} (hG : Gr m nx) (hM : Mat m nx M) : pairsS m (MZ (ilist m M)) = pairsS m M := by
  have he : ∀ v, v < m → MZ (ilist m M) v = M v := fun v hv => MZ_ilist m M v hv
  have h1 := hM.congr he
  have p1 := cov_pairs hG h1
  have p2 := cov_pairs hG hM
  have := cov_congr he
  omega
theorem grows_l0 {m : Nat} {nx : Nat → Nat → Bool} (hm : m ≤ 24) {zs : List Int} (hf : fitsS m nx zs = true) {M' : Nat → Nat} (hk : ∀ v, v < m → MZ zs v < m → M' v < m) : ∀ (d i : Nat), i + d = m → ∃ K, kimberlitelaw04_PairGrows.l0 K (m : Int) zs (ilist m M') (i : Int) = some true
  | 0, i, hd => by
    obtain ⟨j, hj⟩ : ∃ j : Nat, 400 ≤ j := ⟨400, Nat.le_refl _⟩
    refine ⟨j + 1, ?_⟩
    simp only [kimberlitelaw04_PairGrows.l0]
    rw [if_neg (by omega), alive_eq j (by omega)]
    rfl
  | d + 1, i, hd => by
    obtain ⟨hz, hspec⟩ := fits_spec hf
    have hi : i < m := by omega
    obtain ⟨K, hK⟩ := grows_l0 hm hf hk d (i + 1) (by omega)
    have h1 : zs.getD i 0 = (MZ zs i : Int) := by
      have := (hspec i hi).1
      unfold MZ
      omega
    have h2 := (fits_mat hf).le i hi
    refine ⟨K + 1, ?_⟩
    simp only [kimberlitelaw04_PairGrows.l0]
    rw [if_pos (by omega), if_pos (by omega), if_pos (by omega), rdM, h1, w64s (by omega)]
    by_cases hlt : MZ zs i < m
    · have h3 := hk i hi hlt
      rw [if_neg (by omega), if_pos (by rw [ilist_len_]; omega), rdM, ilist_get_ _ _ _ hi, if_neg (by omega)]
      exact hK
    · rw [if_pos (by omega)]
      exact hK
theorem pure_PairGrows (a0 : Int) (l1 : List S41) (l2 : List Int) (w0 : (Lit.int .i64 a0).wf = true) : ∃ k, kimberlitelaw04_PairGrows.f k a0 l1 l2 = some true := by
  by_cases hfew : l1.length ≤ 140 ∧ l2.length ≤ 140
  · obtain ⟨j, hj⟩ : ∃ j : Nat, 400 ≤ j := ⟨400, Nat.le_refl _⟩
    -- up to the graph's error
    have start : ∀ (K : Nat) (r : List Int) (e : Int), 400 ≤ K → pair_Grows.f a0 l1 l2 = some (r, e) → ∀ z, (if errG a0 l1 = 0 then ((kimberliteref04_Pairs.f K a0 l1 l2).bind fun bt421 => (if bt421.2 = true then (if e = 0 then (if (r.length : Int) = 0 then (if a0 > 14 then ((kimberlitelaw04_alive.f K).bind fun t424 => (some t424)) else ((kimberliteref04_Most.f K a0 l1).bind fun t425 => (if 0 ≤ a0 then (if 0 ≤ (wrap64 ((shl .i64 1 a0) - 1)) then (if (wrap64 ((shl .i64 1 a0) - 1)) < (t425.length : Int) then (if (rd t425 (wrap64 ((shl .i64 1 a0) - 1))) = bt421.1 then ((kimberlitelaw04_alive.f K).bind fun t429 => (some t429)) else (some false)) else (none)) else (none)) else (none)))) else ((kimberliteref04_Pairs.f K a0 l1 r).bind fun bt430 => (if bt430.2 = true then (kimberlitelaw04_PairGrows.j0 K a0 l2 r (bt430.1 != (wrap64 (bt421.1 + 1)))) else (kimberlitelaw04_PairGrows.j0 K a0 l2 r true)))) else (some false)) else (if e = 2 then (if (r.length : Int) = 0 then ((kimberlitelaw04_alive.f K).bind fun t423 => (some t423)) else (some false)) else (some false)))) else (if e = errG a0 l1 then (if (r.length : Int) = 0 then ((kimberlitelaw04_alive.f K).bind fun t420 => (some t420)) else (some false)) else (some false))) = z → kimberlitelaw04_PairGrows.f K a0 l1 l2 = z := fun K r e hK he z hz => by
      unfold kimberlitelaw04_PairGrows.f
      rw [few_eq]
      simp only [Option.bind_some]
      rw [decide_eq_true hfew, if_pos rfl, copied_eq l2 _ (by omega) (by omega), Option.bind_some, he, Option.bind_some, graph_eq _ _ _ (by omega), Option.bind_some, same_refl _ _ (by omega) (by omega), Option.bind_some, if_pos rfl]
      exact hz
    cases hc : chkS a0 (prs l1) with
    | error x =>
      have hg : pair_Grows.f a0 l1 l2 = some ([], x) := by
        unfold pair_Grows.f growsF
        rw [if_pos (by omega), hc]
      have he : errG a0 l1 = x := by unfold errG; rw [hc]
      refine ⟨j, start j _ _ (by omega) hg _ ?_⟩
      rw [he, if_neg (errGr hc), if_pos rfl, if_pos (by simp), alive_eq j (by omega)]
      rfl
    | ok g =>
      obtain ⟨m, nx⟩ := g
      obtain ⟨hG, hm, hm0⟩ := chkS_gr' hc
      have he : errG a0 l1 = 0 := by unfold errG; rw [hc]
      cases hf : fitsS m nx l2 with
      | false =>
        have hg : pair_Grows.f a0 l1 l2 = some ([], 2) := by
          unfold pair_Grows.f growsF
          rw [if_pos (by omega), hc]
          show (if fitsS m nx l2 = true then _ else some ([], 2)) = _
          rw [hf, if_neg (by decide)]
        refine ⟨j, start j _ _ (by omega) hg _ ?_⟩
        rw [he, if_pos rfl, refNo hc _ _ (by omega) hf, Option.bind_some]
        dsimp only
        rw [if_neg (by decide), if_pos rfl, if_pos (by simp), alive_eq j (by omega)]
        rfl
      | true =>
        obtain ⟨M, _, hk⟩ := most_nu hm hG
        obtain ⟨l, h1, h2⟩ := grows_tot hc hf hk (fits_mat hf)
        have hg : pair_Grows.f a0 l1 l2 = some (l, 0) := by
          unfold pair_Grows.f
          rw [if_pos (by omega)]
          exact h1
        rcases h2 with ⟨h3, h4⟩ | ⟨M', h3, h4, h5, h6, h7⟩
        · subst h3
          by_cases hf14 : m ≤ 14
          · obtain ⟨t, ⟨k0, hk0⟩, htl, hT⟩ := refMost_eq hc hf14
            obtain ⟨k2, h8, h9⟩ := tokGr hT
            have h10 := hk.uniq h9
            have hp := pow14 hf14
            have hpp := Nat.two_pow_pos m
            refine ⟨j + k0, start _ _ _ (by omega) hg _ ?_⟩
            rw [he, if_pos rfl, refYes hc _ _ (by omega) hf, Option.bind_some]
            dsimp only
            rw [if_pos rfl, if_pos rfl, if_pos (by simp), if_neg (by omega), hk0 _ (by omega), Option.bind_some, if_pos (by omega), hm0, shl1 hf14, show wrap64 (((2 ^ m : Nat) : Int) - 1) = ((2 ^ m - 1 : Nat) : Int) from by rw [w64 (by omega) (by omega)]; omega, if_pos (by omega), if_pos (by omega), rdM, h8, if_pos (by omega), alive_eq _ (by omega)]
            rfl
          · refine ⟨j, start _ _ _ (by omega) hg _ ?_⟩
            rw [he, if_pos rfl, refYes hc _ _ (by omega) hf, Option.bind_some]
            dsimp only
            rw [if_pos rfl, if_pos rfl, if_pos (by simp), if_pos (by omega), alive_eq _ (by omega)]
            rfl
        · subst h3
          obtain ⟨K, hK⟩ := grows_l0 hm hf h7 m 0 (by omega)
          have h8 := mzPairs hG h5
          have h9 := fits_ilist h5
          have h10 : pairsS m (MZ l2) ≤ 24 := by
            have := pairsC_le m (MZ l2) m
            unfold pairsS
            omega
          obtain ⟨i, hi⟩ : ∃ i : Nat, K + 400 ≤ i := ⟨K + 400, Nat.le_refl _⟩
          refine ⟨i + 1, start _ _ _ (by omega) hg _ ?_⟩
          rw [he, if_pos rfl, refYes hc _ _ (by omega) hf, Option.bind_some]
          dsimp only
          rw [if_pos rfl, if_pos rfl, if_neg (by rw [ilist_len_]; omega), refYes hc _ _ (by omega) h9, Option.bind_some]
          dsimp only
          rw [if_pos rfl, h8, h6, w64s (by omega), bne_self_eq_false]
          simp only [kimberlitelaw04_PairGrows.j0]
          rw [if_neg (by decide), hm0]
          exact leM (fun k => (kimberlitelaw04_PairGrows.mono_l k).2 _ _ _ _) (show K ≤ i by omega) hK
  · refine ⟨400, ?_⟩
    unfold kimberlitelaw04_PairGrows.f
    rw [few_eq]
    simp only [Option.bind_some]
    rw [alive_eq 400 (by omega), decide_eq_false hfew]
    rfl
end Go.Proofs.Ythhgdndjnflklaa.PP
