/- The reference's Match: its mates are the lexicographically first of the greatest. No conditions. -/
import Derived.Test.YthhgdndjnflklaaK6
import Derived.Test.YthhgdndjnflklaaF1
import Derived.Test.YthhgdndjnflklaaQ28
namespace Go.Proofs.Ythhgdndjnflklaa.PP
open Go.RowKit Go.Proofs.YthhgdndjnflklaaW.PrintWords Go.Proofs.YthhgdndjnflklaaW.PrintLast Go.Proofs.YthhgdndjnflklaaW.PrintMore
set_option linter.unusedVariables false
set_option linter.unusedSimpArgs false
theorem tokMa {n : Nat} {nx : Nat → Nat → Bool} {t : List Int} (hT : ∀ x, x < 2 ^ n → Tok n nx t x) : ∃ k : Nat, t.getD (2 ^ n - 1) 0 = (k : Int) ∧ Nu n nx k := by
  have hp := Nat.two_pow_pos n
  obtain ⟨k, h1, h2⟩ := hT (2 ^ n - 1) (by omega)
  refine ⟨k, h1, h2.same (fun x y hx hy => eqB ?_)⟩
  rw [gS_iff, Nat.testBit_two_pow_sub_one, Nat.testBit_two_pow_sub_one, decide_eq_true hx, decide_eq_true hy]
  exact ⟨fun h => h.1, fun h => ⟨h, rfl, rfl⟩⟩
theorem ilist_eq {m : Nat} {f : Nat → Nat} {r : List Int} (hl : r.length = m) (h : ∀ v, v < m → r.getD v 0 = (f v : Int)) : r = ilist m f := by
  refine List.ext_getElem (by rw [hl, ilist_len_]) (fun v h1 h2 => ?_)
  have h3 := h v (by omega)
  have h4 := ilist_get_ m f v (by omega)
  rw [List.getD_eq_getElem?_getD, List.getElem?_eq_getElem h1] at h3
  rw [List.getD_eq_getElem?_getD, List.getElem?_eq_getElem h2] at h4
  exact h3.trans h4.symm
theorem ilist_put {m : Nat} (f : Nat → Nat) {i : Nat} (hi : i < m) (x : Nat) : (ilist m f).set i (x : Int) = ilist m (upd f i x) := by
  refine ilist_eq (by rw [List.length_set, ilist_len_]) (fun v hv => ?_)
  rw [getD_set_]
  by_cases h : i = v
  · subst h
    rw [if_pos ⟨rfl, by rw [ilist_len_]; exact hi⟩, upd_same]
  · rw [if_neg (fun hh => h hh.1), ilist_get_ _ _ _ hv, upd_ne _ _ (fun e => h e.symm)]
/-- One matching within a set, another one outside. -/
def mixS (s : Nat) (out N : Nat → Nat) (v : Nat) : Nat := if s.testBit v = true then N v else out v
section
variable {n : Nat} {nx : Nat → Nat → Bool} {out : Nat → Nat} {s : Nat}
/-- The mates outside a set stay outside. -/
def Clo (n s : Nat) (out : Nat → Nat) : Prop := ∀ v, v < n → s.testBit v = false → out v < n → s.testBit (out v) = false
theorem mix_mat (hG : Gr n nx) (hO : Mat n nx out) (hcl : Clo n s out) {N : Nat → Nat} (hN : Mat n (gS nx s) N) : Mat n nx (mixS s out N) ∧ cov n (mixS s out N) = cov n N + cnt (fun v => decide (out v < n) && !s.testBit v) n := by
  have yes : ∀ {v}, s.testBit v = true → mixS s out N v = N v := fun h => if_pos h
  have no : ∀ {v}, s.testBit v = false → mixS s out N v = out v := fun h => if_neg (by rw [h]; decide)
  have hin : ∀ v, v < n → N v < n → s.testBit v = true ∧ s.testBit (N v) = true := fun v hv hlt => (gS_iff.mp (hN.near v hv hlt)).2
  refine ⟨⟨fun v hv => ?_, fun v hv hlt => ?_, fun v hv hlt => ?_⟩, ?_⟩
  · cases hb : s.testBit v with
    | true => rw [yes hb]; exact hN.le v hv
    | false => rw [no hb]; exact hO.le v hv
  · cases hb : s.testBit v with
    | true =>
      rw [yes hb] at hlt ⊢
      rw [yes (hin v hv hlt).2]
      exact hN.back v hv hlt
    | false =>
      rw [no hb] at hlt ⊢
      rw [no (hcl v hv hb hlt)]
      exact hO.back v hv hlt
  · cases hb : s.testBit v with
    | true =>
      rw [yes hb] at hlt ⊢
      exact (gS_iff.mp (hN.near v hv hlt)).1
    | false =>
      rw [no hb] at hlt ⊢
      exact hO.near v hv hlt
  · have c1 := cnt_split (fun v => decide (mixS s out N v < n)) (fun v => s.testBit v) n
    have c2 : cnt (fun v => decide (mixS s out N v < n) && s.testBit v) n = cov n N := cnt_congr (fun v hv => by
      cases hb : s.testBit v with
      | true => rw [yes hb, Bool.and_true]
      | false =>
        rw [Bool.and_false]
        refine (decide_eq_false (fun hlt => ?_)).symm
        have := (hin v hv hlt).1
        rw [hb] at this
        exact absurd this (by decide))
    have c3 : cnt (fun v => decide (mixS s out N v < n) && !s.testBit v) n = cnt (fun v => decide (out v < n) && !s.testBit v) n := cnt_congr (fun v hv => by
      cases hb : s.testBit v with
      | true => rw [Bool.not_true, Bool.and_false, Bool.and_false]
      | false => rw [no hb])
    show cnt (fun v => decide (mixS s out N v < n)) n = _
    omega
theorem res_mat (hG : Gr n nx) (hO : Mat n nx out) (hcl : Clo n s out) : Mat n (gS nx s) (cutS n (fun v => !s.testBit v) out) ∧ cov n out = cov n (cutS n (fun v => !s.testBit v) out) + cnt (fun v => decide (out v < n) && !s.testBit v) n := by
  obtain ⟨h1, h2⟩ := cutS_mat (ny := gS nx s) (p := fun v => !s.testBit v) hO (fun v hv hlt hp => by
    have hp : (!s.testBit v) = false := hp
    rw [Bool.not_eq_false'] at hp
    show (!s.testBit (out v)) = false
    rw [Bool.not_eq_false']
    cases hb : s.testBit (out v) with
    | true => rfl
    | false =>
      have h3 := hcl (out v) hlt hb (by rw [hO.back v hv hlt]; exact hv)
      rw [hO.back v hv hlt, hp] at h3
      exact absurd h3 (by decide)) (fun x y hx hy hpx hpy hxy => by
    have hpx : (!s.testBit x) = false := hpx
    have hpy : (!s.testBit y) = false := hpy
    rw [Bool.not_eq_false'] at hpx hpy
    exact gS_iff.mpr ⟨hxy, hpx, hpy⟩)
  refine ⟨h1, ?_⟩
  rw [h2]
  have c1 := cnt_split (fun v => decide (out v < n)) (fun v => s.testBit v) n
  have c2 : cnt (fun v => decide (out v < n) && !!s.testBit v) n = cnt (fun v => decide (out v < n) && s.testBit v) n := cnt_congr (fun v _ => by rw [Bool.not_not])
  show cnt (fun v => decide (out v < n)) n = _
  omega
/-- The rest of a greatest matching is greatest within the set. -/
theorem res_max {k ks : Nat} (hG : Gr n nx) (hO : Mat n nx out) (hcl : Clo n s out) (hk : Nu n nx k) (hok : pairsS n out = k) (hks : Nu n (gS nx s) ks) : cov n (cutS n (fun v => !s.testBit v) out) = 2 * ks := by
  obtain ⟨h1, h2⟩ := res_mat hG hO hcl
  have p1 := cov_pairs (gS_gr hG s) h1
  have h3 := hks.2 _ h1
  obtain ⟨⟨N, h4, h5⟩, _⟩ := hks
  obtain ⟨h6, h7⟩ := mix_mat hG hO hcl h4
  have p2 := cov_pairs (gS_gr hG s) h4
  have p3 := cov_pairs hG h6
  have p4 := cov_pairs hG hO
  have h8 := hk.2 _ h6
  omega
/-- A pair that leaves as many is not below the first matching's. -/
theorem first_le {k ks kr i j : Nat} (hG : Gr n nx) (hO : Mat n nx out) (hcl : Clo n s out) (hk : Nu n nx k) (hok : pairsS n out = k) (hlex : ∀ N, Mat n nx N → pairsS n N = k → LexLe n out N n) (hks : Nu n (gS nx s) ks)
    (hi : i < n) (hsi : s.testBit i = true) (hlow : ∀ v, v < i → s.testBit v = false) (hj : j < n) (hij : i < j) (hsj : s.testBit j = true) (hx : nx i j = true) (hkr : Nu n (gS nx (s - 2 ^ i - 2 ^ j)) kr) (heq : 1 + kr = ks) : out i ≤ j := by
  obtain ⟨⟨N2, h1, h2⟩, _⟩ := hkr
  have hbi := bitClr hsi
  have hsj2 : (s - 2 ^ i).testBit j = true := by rw [hbi j, hsj, beq_eq_false_iff_ne.mpr (by omega)]; rfl
  have hbj := bitClr hsj2
  have h3 : Mat n (gS nx s) N2 := h1.sub (fun x y _ _ h => by
    obtain ⟨h4, h5, h6⟩ := gS_iff.mp h
    rw [hbj, hbi] at h5 h6
    exact gS_iff.mpr ⟨h4, (band.mp (band.mp h5).1).1, (band.mp (band.mp h6).1).1⟩)
  have hN2i : N2 i = n := by
    have := h3.le i hi
    refine Classical.byContradiction (fun hh => ?_)
    have h5 := (gS_iff.mp (h1.near i hi (by omega))).2.1
    rw [hbj, hbi, beq_self_eq_true] at h5
    simp at h5
  have hN2j : N2 j = n := by
    have := h3.le j hj
    refine Classical.byContradiction (fun hh => ?_)
    have h5 := (gS_iff.mp (h1.near j hj (by omega))).2.1
    rw [hbj, beq_self_eq_true] at h5
    simp at h5
  obtain ⟨h4, h5⟩ := pair_more (gS_gr hG s) h3 hi hj (gS_iff.mpr ⟨hx, hsi, hsj⟩) hN2i hN2j
  obtain ⟨h6, h7⟩ := mix_mat hG hO hcl h4
  obtain ⟨h8, h9⟩ := res_mat hG hO hcl
  have h10 := res_max hG hO hcl hk hok hks
  have p1 := cov_pairs (gS_gr hG (s - 2 ^ i - 2 ^ j)) h1
  have p3 := cov_pairs hG h6
  have p4 := cov_pairs hG hO
  have hval : mixS s out (upd (upd N2 i j) j i) i = j := by
    unfold mixS
    rw [if_pos hsi, upd_ne _ _ (by omega), upd_same]
  have hlow2 : ∀ v, v < i → mixS s out (upd (upd N2 i j) j i) v = out v := fun v hv => by
    unfold mixS
    rw [if_neg (by rw [hlow v hv]; decide)]
  rcases hlex _ h6 (by omega) with ⟨x, h11, h12, h13⟩ | h11
  · rcases Nat.lt_trichotomy x i with h14 | h14 | h14
    · rw [hlow2 x h14] at h13; omega
    · rw [h14, hval] at h13; omega
    · have := h12 i h14; rw [hval] at this; omega
  · have := h11 i hi; rw [hval] at this; omega
/-- The first matching's pair leaves as many. -/
theorem first_ok {k ks kr i : Nat} (hG : Gr n nx) (hO : Mat n nx out) (hcl : Clo n s out) (hk : Nu n nx k) (hok : pairsS n out = k) (hks : Nu n (gS nx s) ks)
    (hi : i < n) (hsi : s.testBit i = true) (hlt : out i < n) (hsj : s.testBit (out i) = true) (hkr : Nu n (gS nx (s - 2 ^ i - 2 ^ (out i))) kr) : 1 + kr = ks := by
  have hne : out i ≠ i := hO.ne hG hi hlt
  have hbi := bitClr hsi
  have hsj2 : (s - 2 ^ i).testBit (out i) = true := by rw [hbi, hsj, beq_eq_false_iff_ne.mpr hne]; rfl
  have hbj := bitClr hsj2
  obtain ⟨h8, h9⟩ := res_mat hG hO hcl
  have h10 := res_max hG hO hcl hk hok hks
  -- with the pair more
  have up : 1 + kr ≤ ks := by
    obtain ⟨⟨N2, h1, h2⟩, _⟩ := hkr
    have h3 : Mat n (gS nx s) N2 := h1.sub (fun x y _ _ h => by
      obtain ⟨h4, h5, h6⟩ := gS_iff.mp h
      rw [hbj, hbi] at h5 h6
      exact gS_iff.mpr ⟨h4, (band.mp (band.mp h5).1).1, (band.mp (band.mp h6).1).1⟩)
    have hN2i : N2 i = n := by
      have := h3.le i hi
      refine Classical.byContradiction (fun hh => ?_)
      have h5 := (gS_iff.mp (h1.near i hi (by omega))).2.1
      rw [hbj, hbi, beq_self_eq_true] at h5
      simp at h5
    have hN2j : N2 (out i) = n := by
      have := h3.le _ hlt
      refine Classical.byContradiction (fun hh => ?_)
      have h5 := (gS_iff.mp (h1.near _ hlt (by omega))).2.1
      rw [hbj, beq_self_eq_true] at h5
      simp at h5
    obtain ⟨h4, h5⟩ := pair_more (gS_gr hG s) h3 hi hlt (gS_iff.mpr ⟨hO.near i hi hlt, hsi, hsj⟩) hN2i hN2j
    have p1 := cov_pairs (gS_gr hG (s - 2 ^ i - 2 ^ (out i))) h1
    have p2 := cov_pairs (gS_gr hG s) h4
    have := hks.2 _ h4
    omega
  -- with the pair less
  have lo : ks ≤ 1 + kr := by
    have hbk := hO.back i hi hlt
    obtain ⟨h1, h2⟩ := cutS_mat (ny := gS nx (s - 2 ^ i - 2 ^ (out i))) (p := fun v => !s.testBit v || (v == i || v == out i)) hO (fun v hv hlt2 hp => by
      have hp : (!s.testBit v || (v == i || v == out i)) = false := hp
      rw [Bool.or_eq_false_iff, Bool.or_eq_false_iff, Bool.not_eq_false', beq_eq_false_iff_ne, beq_eq_false_iff_ne] at hp
      obtain ⟨e1, e2, e3⟩ := hp
      have hbv := hO.back v hv hlt2
      show (!s.testBit (out v) || (out v == i || out v == out i)) = false
      rw [Bool.or_eq_false_iff, Bool.or_eq_false_iff, Bool.not_eq_false', beq_eq_false_iff_ne, beq_eq_false_iff_ne]
      refine ⟨?_, fun e => e3 ?_, fun e => e2 (hO.inj hv hi hlt2 e)⟩
      · cases hb : s.testBit (out v) with
        | true => rfl
        | false =>
          have h3 := hcl (out v) hlt2 hb (by rw [hbv]; exact hv)
          rw [hbv, e1] at h3
          exact absurd h3 (by decide)
      · rw [← hbv, e]) (fun x y hx hy hpx hpy hxy => by
      have hpx : (!s.testBit x || (x == i || x == out i)) = false := hpx
      have hpy : (!s.testBit y || (y == i || y == out i)) = false := hpy
      rw [Bool.or_eq_false_iff, Bool.or_eq_false_iff, Bool.not_eq_false'] at hpx hpy
      refine gS_iff.mpr ⟨hxy, ?_, ?_⟩
      · rw [hbj, hbi, hpx.1, hpx.2.1, hpx.2.2]; rfl
      · rw [hbj, hbi, hpy.1, hpy.2.1, hpy.2.2]; rfl)
    have p1 := cov_pairs (gS_gr hG (s - 2 ^ i - 2 ^ (out i))) h1
    have p2 := hkr.2 _ h1
    have c1 := cnt_out (p := fun v => decide (out v < n) && s.testBit v) (a := i) hi (by show (decide (out i < n) && s.testBit i) = true; rw [decide_eq_true hlt, hsi]; rfl)
    have c2 := cnt_out (p := fun v => (decide (out v < n) && s.testBit v) && !(v == i)) (a := out i) hlt (by
      show ((decide (out (out i) < n) && s.testBit (out i)) && !(out i == i)) = true
      rw [hbk, decide_eq_true hi, hsj, beq_eq_false_iff_ne.mpr hne]; rfl)
    have c3 : cnt (fun v => ((decide (out v < n) && s.testBit v) && !(v == i)) && !(v == out i)) n = cnt (fun v => decide (out v < n) && !(!s.testBit v || (v == i || v == out i))) n := cnt_congr (fun v _ => by
      cases decide (out v < n) <;> cases s.testBit v <;> cases v == i <;> cases v == out i <;> rfl)
    have c4 : cov n (cutS n (fun v => !s.testBit v) out) = cnt (fun v => decide (out v < n) && s.testBit v) n := cnt_congr (fun v _ => by
      unfold cutS
      cases hb : s.testBit v with
      | true => simp [hb]
      | false => simp [hb])
    omega
  omega
end
section
variable {n : Nat} {nx : Nat → Nat → Bool} {tb : List (List Bool)} {t : List Int} {out : Nat → Nat} {k : Nat}
/-- The round at stone i. -/
structure Rm (n : Nat) (out : Nat → Nat) (s i : Nat) (R : Nat → Nat) : Prop where
  sb : s < 2 ^ n
  off : ∀ v, v < n → s.testBit v = false → R v = out v
  cl : Clo n s out
  inn : ∀ v, v < n → s.testBit v = true → R v = n ∧ i ≤ v
theorem Rm.next {s i : Nat} {R : Nat → Nat} (h : Rm n out s i R) (hi : s.testBit i = false) : Rm n out s (i + 1) R :=
  ⟨h.sb, h.off, h.cl, fun v hv hb => by
    obtain ⟨h1, h2⟩ := h.inn v hv hb
    refine ⟨h1, ?_⟩
    by_cases hvi : v = i
    · rw [hvi, hi] at hb; exact absurd hb (by decide)
    · omega⟩
theorem Rm.alone (hO : Mat n nx out) {s i : Nat} {R : Nat → Nat} (h : Rm n out s i R) (hin : i < n) (hi : s.testBit i = true) (ho : out i = n) : Rm n out (s - 2 ^ i) (i + 1) R := by
  have hb := bitClr hi
  have hcases : ∀ v, (s - 2 ^ i).testBit v = false → s.testBit v = false ∨ v = i := fun v hv => by
    rw [hb] at hv
    by_cases hvi : v = i
    · exact Or.inr hvi
    · rw [beq_eq_false_iff_ne.mpr hvi] at hv
      simp at hv
      exact Or.inl hv
  refine ⟨Nat.lt_of_le_of_lt (Nat.sub_le _ _) h.sb, fun v hv hbv => ?_, fun v hv hbv hlt => ?_, fun v hv hbv => ?_⟩
  · rcases hcases v hbv with h1 | h1
    · exact h.off v hv h1
    · rw [h1, ho]; exact (h.inn i hin hi).1
  · rcases hcases v hbv with h1 | h1
    · rw [hb, h.cl v hv h1 hlt]; rfl
    · rw [h1, ho] at hlt; omega
  · rw [hb] at hbv
    obtain ⟨h1, h2⟩ := band.mp hbv
    obtain ⟨h3, h4⟩ := h.inn v hv h1
    refine ⟨h3, ?_⟩
    have : v ≠ i := fun e => by rw [e, beq_self_eq_true] at h2; exact absurd h2 (by decide)
    omega
theorem Rm.pair (hO : Mat n nx out) {s i : Nat} {R : Nat → Nat} (h : Rm n out s i R) (hin : i < n) (hi : s.testBit i = true) (ho : out i < n) (hne : out i ≠ i) (hsj : s.testBit (out i) = true) : Rm n out (s - 2 ^ i - 2 ^ (out i)) (i + 1) (upd (upd R i (out i)) (out i) i) := by
  have hb := bitClr hi
  have hsj2 : (s - 2 ^ i).testBit (out i) = true := by rw [hb, hsj, beq_eq_false_iff_ne.mpr hne]; rfl
  have hb2 := bitClr hsj2
  have hbk := hO.back i hin ho
  have hcases : ∀ v, (s - 2 ^ i - 2 ^ (out i)).testBit v = false → v = i ∨ v = out i ∨ (s.testBit v = false ∧ v ≠ i ∧ v ≠ out i) := fun v hv => by
    by_cases h1 : v = i
    · exact Or.inl h1
    by_cases h2 : v = out i
    · exact Or.inr (Or.inl h2)
    rw [hb2, hb, beq_eq_false_iff_ne.mpr h1, beq_eq_false_iff_ne.mpr h2] at hv
    simp at hv
    exact Or.inr (Or.inr ⟨hv, h1, h2⟩)
  refine ⟨Nat.lt_of_le_of_lt (Nat.le_trans (Nat.sub_le _ _) (Nat.sub_le _ _)) h.sb, fun v hv hbv => ?_, fun v hv hbv hlt => ?_, fun v hv hbv => ?_⟩
  · rcases hcases v hbv with h1 | h1 | ⟨h1, h2, h3⟩
    · rw [h1, upd_ne _ _ (fun e => hne e.symm), upd_same]
    · rw [h1, upd_same, hbk]
    · rw [upd_ne _ _ h3, upd_ne _ _ h2]; exact h.off v hv h1
  · rcases hcases v hbv with h1 | h1 | ⟨h1, h2, h3⟩
    · rw [h1, hb2, beq_self_eq_true]; simp
    · rw [h1, hbk, hb2, hb, beq_self_eq_true]; simp
    · rw [hb2, hb, h.cl v hv h1 hlt]; rfl
  · rw [hb2, hb] at hbv
    obtain ⟨h1, h2⟩ := band.mp hbv
    obtain ⟨h1, h3⟩ := band.mp h1
    obtain ⟨h4, h5⟩ := h.inn v hv h1
    have e1 : v ≠ i := fun e => by rw [e, beq_self_eq_true] at h3; exact absurd h3 (by decide)
    have e2 : v ≠ out i := fun e => by rw [e, beq_self_eq_true] at h2; exact absurd h2 (by decide)
    rw [upd_ne _ _ e2, upd_ne _ _ e1]
    exact ⟨h4, by omega⟩
theorem refm_l2 (hn : n ≤ 14) (hG : Gr n nx) (ht : Nr n nx tb) (htl : t.length = 2 ^ n) (hT : ∀ x, x < 2 ^ n → Tok n nx t x) (hO : Mat n nx out) (hk : Nu n nx k) (hok : pairsS n out = k) (hlex : ∀ N, Mat n nx N → pairsS n N = k → LexLe n out N n)
    {s i : Nat} {R : Nat → Nat} (h : Rm n out s i R) (hi : i < n) (hsi : s.testBit i = true) {z : List Int × Int}
    (hnext : ∀ (s' : Nat) (R' : Nat → Nat), Rm n out s' (i + 1) R' → ∃ K, kimberliteref04_Match.l1 K (n : Int) t tb (ilist n R') (s' : Int) ((i + 1 : Nat) : Int) = some z) :
    ∀ (d j : Nat), j + d = n → i < j → j ≤ out i → ∃ K, kimberliteref04_Match.l2 K (n : Int) t tb (ilist n R) (s : Int) (i : Int) ((s - 2 ^ i : Nat) : Int) (j : Int) = some z
  | 0, j, hd, hij, hjo => by
    have ho : out i = n := by have := hO.le i hi; omega
    obtain ⟨K, hK⟩ := hnext _ _ (h.alone hO hi hsi ho)
    refine ⟨K + 1, ?_⟩
    simp only [kimberliteref04_Match.l2]
    rw [if_neg (by omega), w64s (by omega)]
    exact hK
  | d + 1, j, hd, hij, hjo => by
    have hj : j < n := by omega
    have hp := pow14 hn
    have hsb := h.sb
    have hbi := bitClr hsi
    have hbl := bitLe hsi
    have hlow : ∀ v, v < i → s.testBit v = false := fun v hv => by
      cases hb : s.testBit v with
      | false => rfl
      | true => have := (h.inn v (by omega) hb).2; omega
    have hbj : (s - 2 ^ i).testBit j = s.testBit j := by
      rw [hbi j, beq_eq_false_iff_ne.mpr (by omega)]
      simp
    obtain ⟨ks, hks1, hks2⟩ := hT s hsb
    have hks3 := hks2.le24
    obtain ⟨ht1, ht2⟩ := ht
    obtain ⟨ht3, ht4⟩ := ht2 i hi
    have hrd : rdOf false (tb.getD i []) (j : Int) = nx i j := by
      unfold rdOf
      rw [Int.toNat_natCast]
      exact ht4 j hj
    have skip : out i ≠ j → ∃ K, kimberliteref04_Match.l2 K (n : Int) t tb (ilist n R) (s : Int) (i : Int) ((s - 2 ^ i : Nat) : Int) ((j + 1 : Nat) : Int) = some z := fun hne =>
      refm_l2 hn hG ⟨ht1, ht2⟩ htl hT hO hk hok hlex h hi hsi hnext d (j + 1) (by omega) (by omega) (by omega)
    cases hx : nx i j with
    | false =>
      obtain ⟨K, hK⟩ := skip (fun e => by have := hO.near i hi (by omega); rw [e, hx] at this; exact absurd this (by decide))
      refine ⟨K + 1, ?_⟩
      simp only [kimberliteref04_Match.l2]
      rw [if_pos (by omega), if_pos (by omega), if_pos (by omega), if_pos (by omega), rdL5, if_pos (by rw [ht3]; omega), hrd, hx, if_neg (by decide), w64s (by omega)]
      exact hK
    | true =>
      cases hb : s.testBit j with
      | false =>
        obtain ⟨K, hK⟩ := skip (fun e => by
          have h1 := h.cl j hj hb (by rw [← e, hO.back i hi (by omega)]; exact hi)
          rw [← e, hO.back i hi (by omega), hsi] at h1
          exact absurd h1 (by decide))
        refine ⟨K + 1, ?_⟩
        simp only [kimberliteref04_Match.l2]
        rw [if_pos (by omega), if_pos (by omega), if_pos (by omega), if_pos (by omega), rdL5, if_pos (by rw [ht3]; omega), hrd, hx, if_pos rfl, bitOf (by omega), hbj, hb, if_neg (by decide), w64s (by omega)]
        exact hK
      | true =>
        have hbl2 : 2 ^ j ≤ s - 2 ^ i := bitLe (by rw [hbj]; exact hb)
        have q1 := Nat.two_pow_pos i
        have q2 := Nat.two_pow_pos j
        obtain ⟨kr, hkr1, hkr2⟩ := hT (s - 2 ^ i - 2 ^ j) (by omega)
        have hkr3 := hkr2.le24
        by_cases heq : 1 + kr = ks
        · have hle := first_le hG hO h.cl hk hok hlex hks2 hi hsi hlow hj hij hb hx hkr2 heq
          obtain rfl : out i = j := by omega
          have q3 := Nat.two_pow_pos (out i)
          obtain ⟨K, hK⟩ := hnext _ _ (h.pair hO hi hsi hj (by omega) hb)
          refine ⟨K + 1, ?_⟩
          simp only [kimberliteref04_Match.l2]
          rw [if_pos (by omega), if_pos (by omega), if_pos (by omega), if_pos (by omega), rdL5, if_pos (by rw [ht3]; omega), hrd, hx, if_pos rfl, bitOf (by omega), hbj, hb, if_pos (by decide), shl1 (by omega), w64n hbl2 (by omega), if_pos (by omega), if_pos (by omega), if_pos (by omega), if_pos (by omega), rdM, rdM, hkr1, hks1, w64 (by omega) (by omega), if_pos (by omega), if_pos (by rw [ilist_len_]; omega), if_pos (by rw [ilist_len_]; omega), Int.toNat_natCast, Int.toNat_natCast, ilist_put R hi, ilist_put _ hj, w64s (by omega)]
          exact hK
        · obtain ⟨K, hK⟩ := skip (fun e => by
            refine heq (first_ok hG hO h.cl hk hok hks2 hi hsi (by omega) (by rw [e]; exact hb) ?_)
            rw [e]; exact hkr2)
          refine ⟨K + 1, ?_⟩
          simp only [kimberliteref04_Match.l2]
          rw [if_pos (by omega), if_pos (by omega), if_pos (by omega), if_pos (by omega), rdL5, if_pos (by rw [ht3]; omega), hrd, hx, if_pos rfl, bitOf (by omega), hbj, hb, if_pos (by decide), shl1 (by omega), w64n hbl2 (by omega), if_pos (by omega), if_pos (by omega), if_pos (by omega), if_pos (by omega), rdM, rdM, hkr1, hks1, w64 (by omega) (by omega), if_neg (by omega), w64s (by omega)]
          exact hK
theorem refm_l1 (hn : n ≤ 14) (hG : Gr n nx) (ht : Nr n nx tb) (htl : t.length = 2 ^ n) (hT : ∀ x, x < 2 ^ n → Tok n nx t x) (hO : Mat n nx out) (hk : Nu n nx k) (hok : pairsS n out = k) (hlex : ∀ N, Mat n nx N → pairsS n N = k → LexLe n out N n) :
    ∀ (d i s : Nat) (R : Nat → Nat), i + d = n → Rm n out s i R → ∃ K, kimberliteref04_Match.l1 K (n : Int) t tb (ilist n R) (s : Int) (i : Int) = some (ilist n out, (k : Int))
  | 0, i, s, R, hd, h => by
    have hp := pow14 hn
    have hpp := Nat.two_pow_pos n
    obtain ⟨k2, h1, h2⟩ := tokMa hT
    have h3 := hk.uniq h2
    have hR : ilist n R = ilist n out := ilist_eq (by rw [ilist_len_]) (fun v hv => by
      rw [ilist_get_ _ _ _ hv]
      cases hb : s.testBit v with
      | true => have := (h.inn v hv hb).2; omega
      | false => rw [h.off v hv hb])
    refine ⟨1, ?_⟩
    simp only [kimberliteref04_Match.l1]
    rw [if_neg (by omega), if_pos (by omega), shl1 hn, show wrap64 (((2 ^ n : Nat) : Int) - 1) = ((2 ^ n - 1 : Nat) : Int) from by rw [w64 (by omega) (by omega)]; omega, if_pos (by omega), if_pos (by omega), rdM, h1, hR, h3]
  | d + 1, i, s, R, hd, h => by
    have hi : i < n := by omega
    have hp := pow14 hn
    have hsb := h.sb
    cases hb : s.testBit i with
    | false =>
      obtain ⟨K, hK⟩ := refm_l1 hn hG ht htl hT hO hk hok hlex d (i + 1) s R (by omega) (h.next hb)
      refine ⟨K + 1, ?_⟩
      simp only [kimberliteref04_Match.l1]
      rw [if_pos (by omega), if_pos (by omega), bitOf (by omega), hb, if_pos (by decide), w64s (by omega)]
      exact hK
    | true =>
      have hbl := bitLe hb
      obtain ⟨K, hK⟩ := refm_l2 hn hG ht htl hT hO hk hok hlex h hi hb (fun s' R' h' => refm_l1 hn hG ht htl hT hO hk hok hlex d (i + 1) s' R' (by omega) h') (n - (i + 1)) (i + 1) (by omega) (by omega) (by
        -- the mate lies ahead
        refine Classical.byContradiction (fun hh => ?_)
        have hlt : out i < n := by omega
        have hne := hO.ne hG hi hlt
        have hbk := hO.back i hi hlt
        cases hbo : s.testBit (out i) with
        | true => have := (h.inn _ hlt hbo).2; omega
        | false =>
          have := h.cl _ hlt hbo (by rw [hbk]; exact hi)
          rw [hbk, hb] at this
          exact absurd this (by decide))
      refine ⟨K + 1, ?_⟩
      simp only [kimberliteref04_Match.l1]
      rw [if_pos (by omega), if_pos (by omega), bitOf (by omega), hb, if_neg (by decide), shl1 (by omega), w64n hbl (by omega), w64s (by omega)]
      exact hK
theorem refm_l0 (hn : n ≤ 14) (hG : Gr n nx) (ht : Nr n nx tb) (htl : t.length = 2 ^ n) (hT : ∀ x, x < 2 ^ n → Tok n nx t x) (hO : Mat n nx out) (hk : Nu n nx k) (hok : pairsS n out = k) (hlex : ∀ N, Mat n nx N → pairsS n N = k → LexLe n out N n) :
    ∀ (d i : Nat) (r : List Int), i + d = n → r.length = n → (∀ v, v < i → r.getD v 0 = (n : Int)) → ∃ K, kimberliteref04_Match.l0 K (n : Int) t tb r (i : Int) = some (ilist n out, (k : Int))
  | 0, i, r, hd, hl, h => by
    have hp := pow14 hn
    have hpp := Nat.two_pow_pos n
    have hr : r = ilist n (fun _ => n) := ilist_eq hl (fun v hv => h v (by omega))
    obtain ⟨K, hK⟩ := refm_l1 hn hG ht htl hT hO hk hok hlex n 0 (2 ^ n - 1) (fun _ => n) (by omega) ⟨by omega, fun v hv hb => by rw [Nat.testBit_two_pow_sub_one, decide_eq_true hv] at hb; exact absurd hb (by decide), fun v hv hb => by rw [Nat.testBit_two_pow_sub_one, decide_eq_true hv] at hb; exact absurd hb (by decide), fun v _ _ => ⟨rfl, by omega⟩⟩
    refine ⟨K + 1, ?_⟩
    simp only [kimberliteref04_Match.l0]
    rw [if_neg (by omega), if_pos (by omega), shl1 hn, show wrap64 (((2 ^ n : Nat) : Int) - 1) = ((2 ^ n - 1 : Nat) : Int) from by rw [w64 (by omega) (by omega)]; omega, hr]
    exact hK
  | d + 1, i, r, hd, hl, h => by
    obtain ⟨K, hK⟩ := refm_l0 hn hG ht htl hT hO hk hok hlex d (i + 1) (r.set i (n : Int)) (by omega) (by rw [List.length_set]; exact hl) (fun v hv => by
      rw [getD_set_]
      by_cases hvi : i = v
      · rw [if_pos ⟨hvi, by omega⟩]
      · rw [if_neg (fun hh => hvi hh.1)]; exact h v (by omega))
    refine ⟨K + 1, ?_⟩
    simp only [kimberliteref04_Match.l0]
    rw [if_pos (by omega), if_pos (by omega), if_pos (by omega), Int.toNat_natCast, w64s (by omega)]
    exact hK
end
theorem refMatch_eq {a0 : Int} {l : List S41} {m k : Nat} {nx : Nat → Nat → Bool} {out : Nat → Nat} (h : chkS a0 (prs l) = .ok (m, nx)) (hm : m ≤ 14) (hO : Mat m nx out) (hk : Nu m nx k) (hok : pairsS m out = k) (hlex : ∀ N, Mat m nx N → pairsS m N = k → LexLe m out N m) :
    ∃ k0, ∀ K, k0 ≤ K → kimberliteref04_Match.f K a0 l = some (ilist m out, (k : Int)) := by
  obtain ⟨tb, h1, h2⟩ := near_eq h 200 (by omega)
  obtain ⟨hG, _, hm0⟩ := chkS_gr' h
  obtain ⟨t, ⟨k0, hk0⟩, htl, hT⟩ := refMost_eq h hm
  obtain ⟨K, hK⟩ := refm_l0 hm hG h2 htl hT hO hk hok hlex m 0 (List.replicate m 0) (by omega) (by rw [List.length_replicate]) (fun v hv => absurd hv (by omega))
  refine ⟨K + k0 + 200, fun K2 hK2 => ?_⟩
  unfold kimberliteref04_Match.f
  rw [hk0 K2 (by omega), Option.bind_some, leM (fun k => kimberliteref04_Near.mono _ _ k) (show 200 ≤ K2 by omega) h1, Option.bind_some, if_pos (by omega), hm0, if_pos (by omega), Int.toNat_natCast]
  exact leM (fun k => (kimberliteref04_Match.mono_l k).1 _ _ _ _ _) (show K ≤ K2 by omega) hK
end Go.Proofs.Ythhgdndjnflklaa.PP
