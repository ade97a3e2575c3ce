/- The law PairBerge, as plain Lean: at every input some fuel gives true. No conditions. -/
import Derived.Test.YthhgdndjnflklaaF7
import Derived.Test.YthhgdndjnflklaaK3
import Derived.Test.YthhgdndjnflklaaQ39
namespace Go.Proofs.Ythhgdndjnflklaa.PP
open Go.RowKit Go.Proofs.YthhgdndjnflklaaW.PrintWords Go.Proofs.YthhgdndjnflklaaW.PrintLast Go.Proofs.YthhgdndjnflklaaW.PrintMore
set_option linter.unusedVariables false
set_option linter.unusedSimpArgs false
theorem errB {n : Int} {es : List (Int × Int)} {x : Int} (h : chkS n es = .error x) : x ≠ 0 := by
  unfold chkS at h
  split at h
  · injection h with h; omega
  · split at h
    · injection h with h; omega
    · cases hc : chkL n.toNat es (fun _ _ => false) with
      | none => rw [hc] at h; injection h with h; omega
      | some ny => rw [hc] at h; injection h
/-- One stone more in an ascending list. -/
theorem oddA_snoc {n : Nat} {bar : List Int} {x : Int} (h0 : 0 ≤ x) (h1 : x < n) (hlast : ∀ j, j < bar.length → bar.getD j 0 < x) : ∀ (d i : Nat) (g g' : Nat → Bool), i + d = bar.length → oddA n bar d i g = some g' → oddA n (bar ++ [x]) (d + 1) i g = some (upd g' x.toNat true)
  | 0, i, g, g', hd, h => by
    simp only [oddA, Option.some.injEq] at h
    subst h
    obtain rfl : i = bar.length := by omega
    simp only [oddA]
    rw [getD_end, if_neg (by omega), if_neg (by omega), if_neg]
    rintro ⟨h2, h3⟩
    rw [getD_app _ _ _ (by omega)] at h3
    have := hlast (bar.length - 1) (by omega)
    omega
  | d + 1, i, g, g', hd, h => by
    rw [oddA] at h ⊢
    rw [getD_app _ _ _ (by omega)]
    split at h
    · exact absurd h (by simp)
    split at h
    · exact absurd h (by simp)
    split at h
    · exact absurd h (by simp)
    rename_i c1 c2 c3
    rw [if_neg c1, if_neg c2, if_neg (fun hh => c3 ⟨hh.1, by rw [getD_app _ _ _ (by omega)] at hh; exact hh.2⟩)]
    exact oddA_snoc h0 h1 hlast d (i + 1) _ g' (by omega) h
theorem oddF_some {a0 : Int} {l : List S41} {m : Nat} {nx : Nat → Nat → Bool} (h : chkS a0 (prs l) = .ok (m, nx)) {zs : List Int} {g : Nat → Bool} (hz : zs.length ≤ 1000000) (hg : oddA m zs zs.length 0 (fun _ => false) = some g) {r : Nat} (hr : oddB m nx m 0 0 g = some r) : pair_Odd.f a0 l zs = some ((r : Int), 0) := by
  unfold pair_Odd.f
  rw [if_pos hz]
  unfold oddF
  rw [h]
  dsimp only
  rw [hg]
  dsimp only
  rw [hr]
  rfl
theorem oddF_none {a0 : Int} {l : List S41} {m : Nat} {nx : Nat → Nat → Bool} (h : chkS a0 (prs l) = .ok (m, nx)) {zs : List Int} (hz : zs.length ≤ 1000000) (hg : oddA m zs zs.length 0 (fun _ => false) = none) : pair_Odd.f a0 l zs = some (0, 2) := by
  unfold pair_Odd.f
  rw [if_pos hz]
  unfold oddF
  rw [h]
  dsimp only
  rw [hg]
theorem oddA_len {n : Nat} {zs : List Int} {g : Nat → Bool} (h : oddA n zs zs.length 0 (fun _ => false) = some g) : zs.length ≤ n := by
  have h1 := oddA_cnt zs.length 0 _ g (fun v hv => absurd hv (by decide)) h
  have h2 := cnt_le g n
  omega
theorem berge_j2 {a0 : Int} {l1 : List S41} {m k : Nat} {nx : Nat → Nat → Bool} (hc : chkS a0 (prs l1) = .ok (m, nx)) (hk : Nu m nx k) (l2 : List Int) (hl : l2.length ≤ 140) (K : Nat) (hK : 400 < K) : kimberlitelaw04_PairBerge.j2 K a0 l1 l2 ((m : Int) - 2 * k) false = some true := by
  obtain ⟨hG, hm, _⟩ := chkS_gr' hc
  obtain ⟨K, rfl⟩ : ∃ j, K = j + 1 := ⟨K - 1, by omega⟩
  simp only [kimberlitelaw04_PairBerge.j2]
  rw [if_neg (by decide)]
  cases hA : oddA m l2 l2.length 0 (fun _ => false) with
  | none =>
    rw [oddF_none hc (by omega) hA, Option.bind_some]
    dsimp only
    rw [if_neg (by decide), alive_eq K (by omega)]
    rfl
  | some g =>
    obtain ⟨r, hr⟩ := oddB_ok (nx := nx) hm m 0 0 g (by omega)
    have h1 := berge_le hm hG hk hA hr
    have h2 := oddB_le m 0 0 g r hr
    rw [oddF_some hc (by omega) hA hr, Option.bind_some]
    dsimp only
    rw [if_pos rfl, w64 (by omega) (by omega), if_pos (by omega), alive_eq K (by omega)]
    rfl
theorem berge_loop {a0 : Int} {l1 : List S41} {m k : Nat} {nx : Nat → Nat → Bool} (hc : chkS a0 (prs l1) = .ok (m, nx)) (hk : Nu m nx k) {out : Nat → Nat} (hout : ∀ j, j < m → PartIs m nx j (out j)) (l2 : List Int) (hl : l2.length ≤ 140) :
    ∀ (d i : Nat) (bar : List Int) (g : Nat → Bool), i + d = m → oddA m bar bar.length 0 (fun _ => false) = some g → (∀ v, v < m → (g v = true ↔ v < i ∧ out v = 1)) → (∀ j, j < bar.length → bar.getD j 0 < (i : Int)) →
    ∃ K, kimberlitelaw04_PairBerge.l0 K a0 l1 l2 ((m : Int) - 2 * k) (ilist m out) bar (i : Int) = some true
  | 0, i, bar, g, hd, hA, hg, hb => by
    obtain ⟨hG, hm, hm0⟩ := chkS_gr' hc
    obtain ⟨r, hr⟩ := oddB_ok (nx := nx) hm m 0 0 g (by omega)
    obtain ⟨k0, hk0⟩ := refOdd_eq hc bar (by have := oddA_len hA; omega) hA hr
    have hbl := oddA_len hA
    have hr2 := oddB_le m 0 0 g r hr
    obtain ⟨⟨M, hM, hMk⟩, hmax⟩ := hk
    obtain ⟨U, I, ba, e⟩ := ge_ok hm hG hM (fun N hN => by have := hmax N hN; omega)
    have hgI : ∀ v, v < m → g v = I v := fun v hv => by
      obtain ⟨_, h1, _⟩ := e.part1 hG hM ⟨⟨M, hM, hMk⟩, hmax⟩ hMk hv (hout v hv)
      have h2 := hg v hv
      cases hh : g v with
      | true => exact (h1.mp (h2.mp hh).2).symm
      | false =>
        cases hi : I v with
        | false => rfl
        | true => rw [h2.mpr ⟨by omega, h1.mpr hi⟩] at hh; exact absurd hh (by decide)
    have h3 := e.berge hm hG hM hA hr hgI
    obtain ⟨j, hj⟩ : ∃ j : Nat, k0 + 600 ≤ j := ⟨k0 + 600, Nat.le_refl _⟩
    refine ⟨j + 1, ?_⟩
    simp only [kimberlitelaw04_PairBerge.l0]
    rw [if_neg (by omega), oddF_some hc (by omega) hA hr, Option.bind_some]
    dsimp only
    rw [if_pos rfl, w64 (by omega) (by omega), if_pos (by omega), hk0 _ (by omega), Option.bind_some, bne_self_eq_false]
    exact berge_j2 hc ⟨⟨M, hM, hMk⟩, hmax⟩ l2 hl _ (by omega)
  | d + 1, i, bar, g, hd, hA, hg, hb => by
    obtain ⟨hG, hm, hm0⟩ := chkS_gr' hc
    have hbl := oddA_len hA
    by_cases h1 : out i = 1
    · have h2 := oddA_snoc (x := (i : Int)) (by omega) (show (i : Int) < m by omega) hb bar.length 0 _ g (by omega) hA
      obtain ⟨K, hK⟩ := berge_loop hc hk hout l2 hl d (i + 1) (bar ++ [(i : Int)]) _ (by omega) (by rw [List.length_append]; exact h2) (fun v hv => by
        rw [Int.toNat_natCast]
        by_cases hvi : v = i
        · rw [hvi, upd_is]
          exact ⟨fun _ => ⟨by omega, h1⟩, fun _ => rfl⟩
        · rw [upd_no hvi]
          have := hg v hv
          exact ⟨fun hh => by have := this.mp hh; exact ⟨by omega, this.2⟩, fun hh => this.mpr ⟨by omega, hh.2⟩⟩) (fun j hj => by
        rw [List.length_append, List.length_singleton] at hj
        by_cases hjl : j < bar.length
        · rw [getD_app _ _ _ hjl]
          have := hb j hjl
          omega
        · rw [show j = bar.length by omega, getD_end]
          omega)
      refine ⟨K + 1, ?_⟩
      simp only [kimberlitelaw04_PairBerge.l0]
      rw [if_pos (by omega), if_pos (by omega), if_pos (by rw [ilist_len_]; omega), rdInt, ilist_get_ _ _ _ (by omega), if_pos (by omega), if_pos (by omega), w64s (by omega)]
      exact hK
    · obtain ⟨K, hK⟩ := berge_loop hc hk hout l2 hl d (i + 1) bar g (by omega) hA (fun v hv => by
        have := hg v hv
        refine ⟨fun hh => by have := this.mp hh; exact ⟨by omega, this.2⟩, fun hh => this.mpr ⟨?_, hh.2⟩⟩
        by_cases hvi : v = i
        · rw [hvi] at hh; exact absurd hh.2 h1
        · omega) (fun j hj => by have := hb j hj; omega)
      refine ⟨K + 1, ?_⟩
      simp only [kimberlitelaw04_PairBerge.l0]
      rw [if_pos (by omega), if_pos (by omega), if_pos (by rw [ilist_len_]; omega), rdInt, ilist_get_ _ _ _ (by omega), if_neg (by omega), w64s (by omega)]
      exact hK
theorem pure_PairBerge (a0 : Int) (l1 : List S41) (l2 : List Int) (w0 : (Lit.int .i64 a0).wf = true) : ∃ k, kimberlitelaw04_PairBerge.f k a0 l1 l2 = some true := by
  by_cases hfew : l1.length ≤ 140 ∧ l2.length ≤ 140
  · cases hc : chkS a0 (prs l1) with
    | error x =>
      obtain ⟨j, hj⟩ : ∃ j : Nat, 400 ≤ j := ⟨400, Nat.le_refl _⟩
      refine ⟨j + 1, ?_⟩
      unfold kimberlitelaw04_PairBerge.f
      rw [few_eq]
      simp only [Option.bind_some]
      rw [decide_eq_true hfew, if_pos rfl]
      unfold pair_Short.f pair_Parts.f
      rw [short_err hc, parts_err hc, Option.bind_some, Option.bind_some]
      dsimp only
      rw [if_neg (errB hc)]
      simp only [kimberlitelaw04_PairBerge.j0]
      rw [if_pos trivial, if_pos trivial, if_pos trivial, if_pos (by simp), alive_eq j (by omega)]
      rfl
    | ok g =>
      obtain ⟨m, nx⟩ := g
      obtain ⟨hG, hm, hm0⟩ := chkS_gr' hc
      obtain ⟨M, _, hk⟩ := most_nu hm hG
      obtain ⟨out, h1, h2⟩ := parts_tot hc
      obtain ⟨K, hK⟩ := berge_loop hc hk h2 l2 hfew.2 m 0 [] (fun _ => false) (by omega) rfl (fun v _ => ⟨fun h => absurd h (by decide), fun h => absurd h.1 (by omega)⟩) (fun j hj => absurd hj (by simp))
      refine ⟨K + 1, ?_⟩
      unfold kimberlitelaw04_PairBerge.f
      rw [few_eq]
      simp only [Option.bind_some]
      rw [decide_eq_true hfew, if_pos rfl]
      unfold pair_Short.f pair_Parts.f
      rw [short_tot hc hk, h1, Option.bind_some, Option.bind_some]
      dsimp only
      rw [if_pos rfl]
      simp only [kimberlitelaw04_PairBerge.j0]
      rw [if_neg (by decide), if_pos (by rw [ilist_len_]; omega)]
      exact hK
  · refine ⟨400, ?_⟩
    unfold kimberlitelaw04_PairBerge.f
    rw [few_eq]
    simp only [Option.bind_some]
    rw [alive_eq 400 (by omega), decide_eq_false hfew]
    rfl
end Go.Proofs.Ythhgdndjnflklaa.PP
