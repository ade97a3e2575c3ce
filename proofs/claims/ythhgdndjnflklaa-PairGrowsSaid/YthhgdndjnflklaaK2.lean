/- Plain facts of the reference's Pairs and of copied. No conditions. -/
import Derived.Test.YthhgdndjnflklaaK1
import Derived.Test.YthhgdndjnflklaaCC
import Derived.Test.YthhgdndjnflklaaQ21
import Derived.Test.YthhgdndjnflklaaQ30
namespace Go.Proofs.Ythhgdndjnflklaa.PP
open Go.RowKit Go.Proofs.YthhgdndjnflklaaW.PrintWords Go.Proofs.YthhgdndjnflklaaW.PrintLast Go.Proofs.YthhgdndjnflklaaW.PrintMore
set_option linter.unusedVariables false
set_option linter.unusedSimpArgs false

theorem rdN (l : List Int) (i : Nat) : rd l (i : Int) = l.getD i 0 := by
  unfold rd
  rw [Int.toNat_natCast]
theorem copied_loop (a : List Int) (hl : a.length < 1000000000) : ∀ (d k i : Nat) (b : List Int), a.length = i + d → d < k → b.length = a.length → (∀ j, j < i → b.getD j 0 = a.getD j 0) → kimberlitelaw04_copied.l0 k a b (i : Int) = some a
  | d, 0, i, b, _, hk, _, _ => by omega
  | 0, k + 1, i, b, h, _, hb, he => by
    simp only [kimberlitelaw04_copied.l0]
    rw [if_neg (by omega)]
    congr 1
    refine List.ext_getElem hb (fun j h1 h2 => ?_)
    have := he j (by omega)
    rw [List.getD_eq_getElem?_getD, List.getD_eq_getElem?_getD, List.getElem?_eq_getElem h1, List.getElem?_eq_getElem h2] at this
    exact this
  | d + 1, k + 1, i, b, h, hk, hb, he => by
    simp only [kimberlitelaw04_copied.l0]
    rw [if_pos (by omega), if_pos (by omega), if_pos (by omega), w64s (by omega), Int.toNat_natCast, rdN]
    refine copied_loop a hl d k (i + 1) _ (by omega) (by omega) (by rw [List.length_set]; exact hb) (fun j hj => ?_)
    rw [getD_set_]
    by_cases hij : i = j
    · rw [if_pos ⟨hij, by omega⟩, hij]
    · rw [if_neg (fun x => hij x.1)]
      exact he j (by omega)
theorem copied_eq (a : List Int) (k : Nat) (hl : a.length < 1000000000) (hk : a.length < k) : kimberlitelaw04_copied.f k a = some a := by
  unfold kimberlitelaw04_copied.f
  rw [if_pos (by omega), if_pos (by omega), Int.toNat_natCast]
  exact copied_loop a hl a.length k 0 _ (by omega) hk (by rw [List.length_replicate]) (fun j hj => by omega)

/-- Mates that are set, among the next d. -/
def prC (zs : List Int) (n : Nat) : Nat → Nat → Nat
  | 0, _ => 0
  | d + 1, i => prC zs n d (i + 1) + (!(zs.getD i 0 == (n : Int))).toNat
def ansP (x : Int) : Bool → Int × Bool
  | true => (x, true)
  | false => (0, false)
theorem pairs_loop (n : Nat) (hn : n ≤ 24) (nx : Nat → Nat → Bool) (t : List (List Bool)) (ht : Nr n nx t) (zs : List Int) (hz : zs.length = n) : ∀ (d k i c : Nat), n = i + d → d < k → c ≤ i →
    kimberliteref04_Pairs.l0 k (n : Int) zs t (c : Int) (i : Int) = some (ansP (((c + prC zs n d i) / 2 : Nat) : Int) (fitL n nx zs d i))
  | d, 0, i, c, _, hk, _ => by omega
  | 0, k + 1, i, c, h, _, hc => by
    simp only [kimberliteref04_Pairs.l0, fitL, prC]
    rw [if_neg (by omega), Nat.add_zero]
    congr 2
    rw [show Int.tdiv (c : Int) 2 = ((c / 2 : Nat) : Int) from rfl]
    exact w64 (by omega) (by omega)
  | d + 1, k + 1, i, c, h, hk, hc => by
    simp only [kimberliteref04_Pairs.l0, fitL, prC]
    rw [if_pos (by omega), if_pos (by omega), if_pos (by omega), rdN, rdL5, w64s (by omega), w64s (by omega)]
    have hrow := ht.2 i (by omega)
    have hfb : fitB n nx zs i = fitZ n nx zs i (zs.getD i 0) := rfl
    generalize zs.getD i 0 = z at hfb ⊢
    unfold fitZ at hfb
    by_cases c1 : z = (n : Int)
    · rw [if_neg (by omega), if_neg (by omega), if_neg (by omega)] at hfb
      rw [if_pos c1, if_pos hfb, c1, beq_self_eq_true]
      exact pairs_loop n hn nx t ht zs hz d k (i + 1) c (by omega) (by omega) (by omega)
    rw [if_neg c1]
    by_cases c2 : z < 0
    · rw [if_pos c2] at hfb
      rw [if_pos c2, if_neg (by rw [hfb]; decide)]
      rfl
    rw [if_neg c2] at hfb
    rw [if_neg c2]
    by_cases c3 : z > (n : Int)
    · rw [if_pos c3] at hfb
      rw [if_pos c3, if_neg (by rw [hfb]; decide)]
      rfl
    rw [if_neg c3] at hfb
    rw [if_neg c3, if_pos (by rw [ht.1]; omega), if_pos (by omega), if_pos (by rw [hrow.1]; omega)]
    obtain ⟨m, rfl⟩ : ∃ x : Nat, z = (x : Int) := ⟨z.toNat, by omega⟩
    rw [Int.toNat_natCast, if_pos (show m < n by omega)] at hfb
    rw [show rdOf false (t.getD i []) ((m : Nat) : Int) = nx i m from by unfold rdOf; rw [Int.toNat_natCast]; exact hrow.2 m (by omega), rdN]
    cases hx : nx i m with
    | false =>
      rw [hx] at hfb
      rw [if_neg (by decide), if_neg (fun h => by rw [hfb, Bool.false_and] at h; exact absurd h (by decide))]
      rfl
    | true =>
      rw [hx, Bool.true_and] at hfb
      rw [if_pos rfl, if_pos (by omega), beq_eq_false_iff_ne.mpr c1]
      by_cases c4 : zs.getD m 0 = (i : Int)
      · rw [if_pos c4, if_pos (hfb.trans (beq_iff_eq.mpr c4)), pairs_loop n hn nx t ht zs hz d k (i + 1) (c + 1) (by omega) (by omega) (by omega)]
        simp only [Bool.not_false, Bool.toNat_true]
        rw [show c + 1 + prC zs n d (i + 1) = c + (prC zs n d (i + 1) + 1) by omega]
      · rw [if_neg c4, if_neg (fun h => c4 (beq_iff_eq.mp (hfb.symm.trans h)))]
        rfl
theorem prC_back (zs : List Int) (n : Nat) : ∀ d i, prC zs n (d + 1) i = prC zs n d i + (!(zs.getD (i + d) 0 == (n : Int))).toNat
  | 0, i => by simp [prC]
  | d + 1, i => by
    rw [prC, prC_back zs n d (i + 1), prC]
    rw [show i + 1 + d = i + (d + 1) by omega]
    omega
theorem prC_cnt (zs : List Int) (n : Nat) : ∀ d, prC zs n d 0 = cnt (fun i => !(zs.getD i 0 == (n : Int))) d
  | 0 => rfl
  | d + 1 => by rw [prC_back, prC_cnt zs n d, cnt, Nat.zero_add]
theorem fits_mat {n : Nat} {nx : Nat → Nat → Bool} {zs : List Int} (h : fitsS n nx zs = true) : Mat n nx (MZ zs) := by
  obtain ⟨_, h2⟩ := fits_spec h
  exact ⟨fun v hv => (h2 v hv).2.1, fun v hv hm => ((h2 v hv).2.2 hm).2, fun v hv hm => ((h2 v hv).2.2 hm).1⟩
theorem refPairs_eq {a0 : Int} {l : List S41} {m : Nat} {nx : Nat → Nat → Bool} (h : chkS a0 (prs l) = .ok (m, nx)) (zs : List Int) (k : Nat) (hk : 200 ≤ k) :
    kimberliteref04_Pairs.f k a0 l zs = some (ansP (pairsS m (MZ zs) : Int) (fitsS m nx zs)) := by
  obtain ⟨t, ht, hN⟩ := near_eq h k hk
  obtain ⟨rfl, hm, hl, hc⟩ := chkS_ok h
  unfold kimberliteref04_Pairs.f
  by_cases hz : zs.length = m
  · rw [if_pos (by omega), ht]
    simp only [Option.bind_some]
    refine (pairs_loop m hm nx t hN zs hz m k 0 0 (by omega) (by omega) (by omega)).trans ?_
    cases hf : fitsS m nx zs with
    | true =>
      have hf2 : fitL m nx zs m 0 = true := by
        unfold fitsS at hf
        simp only [Bool.and_eq_true] at hf
        exact hf.2
      rw [hf2, prC_cnt]
      have h1 := pairs_twice (chkS_gr h) (fits_mat hf)
      have h2 : cnt (fun i => !(zs.getD i 0 == (m : Int))) m = cnt (fun i => decide (MZ zs i < m)) m := cnt_congr (fun i hi => by
        obtain ⟨h3, h4, _⟩ := (fits_spec hf).2 i hi
        unfold MZ at h4 ⊢
        by_cases hh : zs.getD i 0 = (m : Int)
        · rw [hh, beq_self_eq_true, Int.toNat_natCast, decide_eq_false (by omega)]
          rfl
        · rw [beq_eq_false_iff_ne.mpr hh, decide_eq_true (by omega)]
          rfl)
      rw [h2, h1, show (0 + 2 * pairsS m (MZ zs)) / 2 = pairsS m (MZ zs) by omega]
    | false =>
      have hf2 : fitL m nx zs m 0 = false := by
        unfold fitsS at hf
        rw [decide_eq_true hz, Bool.true_and] at hf
        exact hf
      rw [hf2]
      rfl
  · rw [if_neg (by omega)]
    have hf : fitsS m nx zs = false := by
      unfold fitsS
      rw [decide_eq_false hz]
      rfl
    rw [hf]
    rfl
end Go.Proofs.Ythhgdndjnflklaa.PP
