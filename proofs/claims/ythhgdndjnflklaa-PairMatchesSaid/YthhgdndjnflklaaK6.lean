/- The reference's table: for each set of stones the greatest number of pairs within it. No conditions. -/
import Derived.Test.YthhgdndjnflklaaF0
import Derived.Test.YthhgdndjnflklaaK1
import Derived.Test.YthhgdndjnflklaaQ18
namespace Go.Proofs.Ythhgdndjnflklaa.PP
open Go.RowKit Go.Proofs.YthhgdndjnflklaaW.PrintWords Go.Proofs.YthhgdndjnflklaaW.PrintLast Go.Proofs.YthhgdndjnflklaaW.PrintMore
set_option linter.unusedVariables false
set_option linter.unusedSimpArgs false
theorem shl1 {j : Nat} (h : j ≤ 14) : shl .i64 1 (j : Int) = ((2 ^ j : Nat) : Int) := by
  have h1 : ∀ i : Fin 15, shl .i64 1 (i.val : Int) = ((2 ^ i.val : Nat) : Int) := by decide
  exact h1 ⟨j, by omega⟩
theorem pow14 {j : Nat} (h : j ≤ 14) : 2 ^ j ≤ 16384 := by
  have h1 : ∀ i : Fin 15, 2 ^ i.val ≤ 16384 := by decide
  exact h1 ⟨j, by omega⟩
theorem bitOf {s j : Nat} (h : j ≤ 14) : Int.tmod (shr .i64 (s : Int) (j : Int)) 2 = if s.testBit j = true then 1 else 0 := by
  unfold shr
  rw [Int.toNat_natCast, Nat.min_eq_left (by show j ≤ 64; omega), show ((s : Int) / 2 ^ j) = ((s / 2 ^ j : Nat) : Int) by simp]
  rw [show Int.tmod ((s / 2 ^ j : Nat) : Int) 2 = ((s / 2 ^ j % 2 : Nat) : Int) from rfl, Nat.testBit_eq_decide_div_mod_eq]
  by_cases hb : s / 2 ^ j % 2 = 1
  · rw [hb]; rfl
  · rw [show s / 2 ^ j % 2 = 0 by omega]; rfl
theorem bitLe {s j : Nat} (h : s.testBit j = true) : 2 ^ j ≤ s := by
  rw [Nat.testBit_eq_decide_div_mod_eq] at h
  have h := of_decide_eq_true h
  refine Classical.byContradiction (fun hh => ?_)
  rw [Nat.div_eq_of_lt (by omega)] at h
  omega
/-- A stone taken out of a set. -/
theorem bitClr {s i : Nat} (h : s.testBit i = true) (j : Nat) : (s - 2 ^ i).testBit j = (s.testBit j && !(j == i)) := by
  have h0 := h
  rw [Nat.testBit_eq_decide_div_mod_eq] at h
  have h := of_decide_eq_true h
  obtain ⟨q, hq⟩ : ∃ q, s / 2 ^ i = 2 * q + 1 := ⟨s / 2 ^ i / 2, by omega⟩
  have hr : s % 2 ^ i < 2 ^ i := Nat.mod_lt _ (Nat.two_pow_pos i)
  have hs : s = 2 ^ i * (2 * q + 1) + s % 2 ^ i := by rw [← hq]; exact (Nat.div_add_mod s (2 ^ i)).symm
  have hs2 : s - 2 ^ i = 2 ^ i * (2 * q) + s % 2 ^ i := by
    have : 2 ^ i * (2 * q + 1) = 2 ^ i * (2 * q) + 2 ^ i := by rw [Nat.mul_add, Nat.mul_one]
    omega
  have e1 := Nat.testBit_two_pow_mul_add (2 * q + 1) hr j
  have e2 := Nat.testBit_two_pow_mul_add (2 * q) hr j
  rw [← hs] at e1
  rw [← hs2] at e2
  rw [e1, e2]
  by_cases hj : j < i
  · rw [if_pos hj, if_pos hj, beq_eq_false_iff_ne.mpr (by omega)]
    simp
  · rw [if_neg hj, if_neg hj]
    by_cases hji : j = i
    · rw [hji, Nat.sub_self, beq_self_eq_true, Nat.testBit_zero]
      simp
    · rw [beq_eq_false_iff_ne.mpr hji]
      obtain ⟨e, he⟩ : ∃ e, j - i = e + 1 := ⟨j - i - 1, by omega⟩
      rw [he, Nat.testBit_succ, Nat.testBit_succ, show 2 * q / 2 = (2 * q + 1) / 2 by omega]
      simp
theorem _root_.Go.Proofs.Ythhgdndjnflklaa.Nu.same {n k : Nat} {nx ny : Nat → Nat → Bool} (h : Nu n nx k) (he : ∀ x y, x < n → y < n → nx x y = ny x y) : Nu n ny k := by
  obtain ⟨⟨M, h1, h2⟩, h3⟩ := h
  exact ⟨⟨M, h1.sub (fun x y hx hy h => by rw [← he x y hx hy]; exact h), h2⟩, fun N hN => h3 N (hN.sub (fun x y hx hy h => by rw [he x y hx hy]; exact h))⟩
theorem _root_.Go.Proofs.Ythhgdndjnflklaa.Nu.le24 {n k : Nat} {nx : Nat → Nat → Bool} (h : Nu n nx k) : k ≤ n := by
  obtain ⟨⟨M, h3, h4⟩, _⟩ := h
  have := pairsC_le n M n
  unfold pairsS at h4
  omega
/-- One edge more: its stones are paired or not. -/
theorem nu_edge {n k k' a b : Nat} {nx ny : Nat → Nat → Bool} (hG : Gr n nx) (hG' : Gr n ny) (ha : a < n) (hb : b < n) (hab : ny a b = true) (h1 : ∀ x y, x < n → y < n → nx x y = true → ny x y = true)
    (h2 : ∀ x y, x < n → y < n → ny x y = true → nx x y = true ∨ (x = a ∧ y = b) ∨ (x = b ∧ y = a)) (hk : Nu n nx k) (hk' : Nu n (woS (woS ny a) b) k') : Nu n ny (if k < 1 + k' then 1 + k' else k) := by
  have hne : a ≠ b := fun e => by rw [e, hG'.irr] at hab; exact absurd hab (by decide)
  have up : ∀ N, Mat n ny N → pairsS n N ≤ k ∨ pairsS n N ≤ 1 + k' := fun N hN => by
    by_cases hNa : N a = b
    · right
      have hNb : N b = a := by have := hN.back a ha (by omega); rw [hNa] at this; exact this
      obtain ⟨h3, h4⟩ := cutS_mat (ny := woS (woS ny a) b) (p := fun v => v == a || v == b) hN (fun v hv hlt hp => by
        have hp : (v == a || v == b) = false := hp
        rw [Bool.or_eq_false_iff] at hp
        have e1 := beq_eq_false_iff_ne.mp hp.1
        have e2 := beq_eq_false_iff_ne.mp hp.2
        have hbk := hN.back v hv hlt
        show (N v == a || N v == b) = false
        rw [Bool.or_eq_false_iff]
        exact ⟨beq_eq_false_iff_ne.mpr (fun e => by rw [e, hNa] at hbk; exact e2 hbk.symm), beq_eq_false_iff_ne.mpr (fun e => by rw [e, hNb] at hbk; exact e1 hbk.symm)⟩) (fun x y hx hy hpx hpy hxy => by
        have hpx : (x == a || x == b) = false := hpx
        have hpy : (y == a || y == b) = false := hpy
        rw [Bool.or_eq_false_iff] at hpx hpy
        have e1 := beq_eq_false_iff_ne.mp hpx.1
        have e2 := beq_eq_false_iff_ne.mp hpx.2
        have e3 := beq_eq_false_iff_ne.mp hpy.1
        have e4 := beq_eq_false_iff_ne.mp hpy.2
        exact woS_iff.mpr ⟨woS_iff.mpr ⟨hxy, e1, e3⟩, e2, e4⟩)
      have c1 := cnt_out (p := fun v => decide (N v < n)) (a := a) ha (decide_eq_true (by omega))
      have c2 := cnt_out (p := fun v => decide (N v < n) && !(v == a)) (a := b) hb (by
        show (decide (N b < n) && !(b == a)) = true
        rw [decide_eq_true (by omega), beq_eq_false_iff_ne.mpr (Ne.symm hne)]; rfl)
      have c3 : cnt (fun v => (decide (N v < n) && !(v == a)) && !(v == b)) n = cnt (fun v => decide (N v < n) && !(v == a || v == b)) n := cnt_congr (fun v _ => by rw [Bool.not_or, Bool.and_assoc])
      have p1 := cov_pairs hG' hN
      have p2 := cov_pairs (woS_gr (woS_gr hG' a) b) h3
      have p3 := hk'.2 _ h3
      unfold cov at p1
      omega
    · left
      refine hk.2 N ⟨hN.le, hN.back, fun v hv hlt => ?_⟩
      rcases h2 v (N v) hv hlt (hN.near v hv hlt) with h3 | ⟨h3, h4⟩ | ⟨h3, h4⟩
      · exact h3
      · rw [h3] at h4; exact absurd h4 hNa
      · have := hN.back v hv hlt
        rw [h4, h3] at this
        exact absurd this hNa
  have lo1 : ∃ M, Mat n ny M ∧ pairsS n M = k := by
    obtain ⟨⟨M, h3, h4⟩, _⟩ := hk
    exact ⟨M, h3.sub h1, h4⟩
  have lo2 : ∃ M, Mat n ny M ∧ pairsS n M = 1 + k' := by
    obtain ⟨⟨M, h3, h4⟩, _⟩ := hk'
    have hM : Mat n ny M := h3.sub (fun x y _ _ h => (woS_iff.mp (woS_iff.mp h).1).1)
    have hMa : M a = n := by
      have := h3.le a ha
      refine Classical.byContradiction (fun hh => ?_)
      exact (woS_iff.mp (woS_iff.mp (h3.near a ha (by omega))).1).2.1 rfl
    have hMb : M b = n := by
      have := h3.le b hb
      refine Classical.byContradiction (fun hh => ?_)
      exact (woS_iff.mp (h3.near b hb (by omega))).2.1 rfl
    obtain ⟨h5, h6⟩ := pair_more hG' hM ha hb hab hMa hMb
    have p1 := cov_pairs hG' hM
    have p2 := cov_pairs hG' h5
    exact ⟨_, h5, by omega⟩
  by_cases hlt : k < 1 + k'
  · rw [if_pos hlt]
    exact ⟨lo2, fun N hN => by rcases up N hN with h | h <;> omega⟩
  · rw [if_neg hlt]
    exact ⟨lo1, fun N hN => by rcases up N hN with h | h <;> omega⟩
/-- The graph within a set. -/
def gS (nx : Nat → Nat → Bool) (s : Nat) (x y : Nat) : Bool := nx x y && (s.testBit x && s.testBit y)
theorem gS_iff {nx : Nat → Nat → Bool} {s x y : Nat} : gS nx s x y = true ↔ nx x y = true ∧ s.testBit x = true ∧ s.testBit y = true := by
  unfold gS
  rw [band, band]
theorem gS_gr {n : Nat} {nx : Nat → Nat → Bool} (h : Gr n nx) (s : Nat) : Gr n (gS nx s) := by
  refine ⟨fun a b => ?_, fun a => ?_⟩
  · unfold gS; rw [h.sym a b, Bool.and_comm (s.testBit a)]
  · unfold gS; rw [h.irr]; rfl
theorem eqB {a b : Bool} (h : a = true ↔ b = true) : a = b := by
  cases a <;> cases b <;> simp_all
/-- Within a set, with only some of the lowest stone's edges. -/
def gJ (nx : Nat → Nat → Bool) (s low j : Nat) (x y : Nat) : Bool := gS nx s x y && ((!(x == low) || decide (y < j)) && (!(y == low) || decide (x < j)))
theorem gJ_iff {nx : Nat → Nat → Bool} {s low j x y : Nat} : gJ nx s low j x y = true ↔ (nx x y = true ∧ s.testBit x = true ∧ s.testBit y = true) ∧ (x = low → y < j) ∧ (y = low → x < j) := by
  unfold gJ
  rw [band, band, gS_iff]
  have key : ∀ (u : Nat) (p : Prop) [Decidable p], ((!(u == low) || decide p) = true) ↔ (u = low → p) := fun u p _ => by
    by_cases h : u = low
    · rw [beq_iff_eq.mpr h]
      simp [h]
    · rw [beq_eq_false_iff_ne.mpr h]
      simp [h]
  rw [key x, key y]
theorem gJ_gr {n : Nat} {nx : Nat → Nat → Bool} (h : Gr n nx) (s low j : Nat) : Gr n (gJ nx s low j) := by
  refine ⟨fun a b => eqB ?_, fun a => ?_⟩
  · rw [gJ_iff, gJ_iff, h.sym a b]
    exact ⟨fun ⟨⟨h1, h2, h3⟩, h4, h5⟩ => ⟨⟨h1, h3, h2⟩, h5, h4⟩, fun ⟨⟨h1, h2, h3⟩, h4, h5⟩ => ⟨⟨h1, h3, h2⟩, h5, h4⟩⟩
  · unfold gJ gS; rw [h.irr]; rfl
def Tok (n : Nat) (nx : Nat → Nat → Bool) (t : List Int) (s : Nat) : Prop := ∃ k : Nat, t.getD s 0 = (k : Int) ∧ Nu n (gS nx s) k
theorem rdM (l : List Int) (i : Nat) : rd l (i : Int) = l.getD i 0 := by
  unfold rd
  rw [Int.toNat_natCast]
theorem w64n {i j : Nat} (h : j ≤ i) (hi : i < 1000000000) : wrap64 ((i : Int) - (j : Int)) = ((i - j : Nat) : Int) := by
  rw [w64 (by omega) (by omega)]
  omega
section
variable {n : Nat} {nx : Nat → Nat → Bool} {tb : List (List Bool)}
theorem most_l2 (hn : n ≤ 14) (hG : Gr n nx) (ht : Nr n nx tb) {s low : Nat} (hs : s < 2 ^ n) (hlow : s.testBit low = true) (hlt : low < n) {P : List Int → Prop}
    (hend : ∀ t : List Int, t.length = 2 ^ n → (∀ x, x < s + 1 → Tok n nx t x) → ∃ K r, kimberliteref04_Most.l0 K (n : Int) tb t ((s + 1 : Nat) : Int) = some r ∧ P r) :
    ∀ (d j : Nat) (t : List Int), j + d = n → low < j → t.length = 2 ^ n → (∀ x, x < s → Tok n nx t x) → (∃ k : Nat, t.getD s 0 = (k : Int) ∧ Nu n (gJ nx s low j) k) →
    ∃ K r, kimberliteref04_Most.l2 K (n : Int) tb t (s : Int) (low : Int) ((s - 2 ^ low : Nat) : Int) (j : Int) = some r ∧ P r
  | 0, j, t, hd, hj, htl, hT, ⟨k, h1, h2⟩ => by
    obtain ⟨K, r, hK, hP⟩ := hend t htl (fun x hx => by
      by_cases hxs : x = s
      · rw [hxs]
        refine ⟨k, h1, h2.same (fun x y hx hy => eqB ?_)⟩
        rw [gJ_iff, gS_iff]
        exact ⟨fun h => h.1, fun h => ⟨h, fun _ => by omega, fun _ => by omega⟩⟩
      · exact hT x (by omega))
    refine ⟨K + 1, r, ?_, hP⟩
    have hp := pow14 hn
    simp only [kimberliteref04_Most.l2]
    rw [if_neg (by omega), w64s (by omega)]
    exact hK
  | d + 1, j, t, hd, hj, htl, hT, ⟨k, h1, h2⟩ => by
    have hjn : j < n := by omega
    have hp := pow14 hn
    obtain ⟨ht1, ht2⟩ := ht
    obtain ⟨ht3, ht4⟩ := ht2 low hlt
    have hrd : rdOf false (tb.getD low []) (j : Int) = nx low j := by
      unfold rdOf
      rw [Int.toNat_natCast]
      exact ht4 j hjn
    have hbit := bitClr hlow
    have hbl := bitLe hlow
    have hbj : (s - 2 ^ low).testBit j = s.testBit j := by
      rw [hbit j, beq_eq_false_iff_ne.mpr (by omega)]
      simp
    -- no edge here
    have skip : ¬ (nx low j = true ∧ s.testBit j = true) → ∃ K r, kimberliteref04_Most.l2 K (n : Int) tb t (s : Int) (low : Int) ((s - 2 ^ low : Nat) : Int) ((j + 1 : Nat) : Int) = some r ∧ P r := fun hno => by
      refine most_l2 hn hG ⟨ht1, ht2⟩ hs hlow hlt hend d (j + 1) t (by omega) (by omega) htl hT ⟨k, h1, h2.same (fun x y hx hy => eqB ?_)⟩
      rw [gJ_iff, gJ_iff]
      refine ⟨fun ⟨h3, h4, h5⟩ => ⟨h3, fun h => by have := h4 h; omega, fun h => by have := h5 h; omega⟩, fun ⟨h3, h4, h5⟩ => ⟨h3, fun h => ?_, fun h => ?_⟩⟩
      · have h6 := h4 h
        refine Classical.byContradiction (fun hh => hno ?_)
        obtain rfl : y = j := by omega
        rw [h] at h3
        exact ⟨h3.1, h3.2.2⟩
      · have h6 := h5 h
        refine Classical.byContradiction (fun hh => hno ?_)
        obtain rfl : x = j := by omega
        rw [h] at h3
        exact ⟨by rw [hG.sym]; exact h3.1, h3.2.1⟩
    cases hx : nx low j with
    | false =>
      obtain ⟨K, r, hK, hP⟩ := skip (fun h => by rw [hx] at h; exact absurd h.1 (by decide))
      refine ⟨K + 1, r, ?_, hP⟩
      simp only [kimberliteref04_Most.l2]
      rw [if_pos (by omega), if_pos (by omega), if_pos (by omega), if_pos (by omega), rdL5, if_pos (by rw [ht3]; omega), hrd, hx, if_neg (by decide), w64s (by omega)]
      exact hK
    | true =>
      cases hb : s.testBit j with
      | false =>
        obtain ⟨K, r, hK, hP⟩ := skip (fun h => by rw [hb] at h; exact absurd h.2 (by decide))
        refine ⟨K + 1, r, ?_, hP⟩
        simp only [kimberliteref04_Most.l2]
        rw [if_pos (by omega), if_pos (by omega), if_pos (by omega), if_pos (by omega), rdL5, if_pos (by rw [ht3]; omega), hrd, hx, if_pos rfl, bitOf (by omega), hbj, hb, if_neg (by decide), w64s (by omega)]
        exact hK
      | true =>
        have hbl2 : 2 ^ j ≤ s - 2 ^ low := bitLe (by rw [hbj]; exact hb)
        have h2l := Nat.two_pow_pos low
        have h2jp := Nat.two_pow_pos j
        obtain ⟨k', h3, h4⟩ := hT (s - 2 ^ low - 2 ^ j) (by omega)
        have hk1 := h2.le24
        have hk2 := h4.le24
        have hbit2 := bitClr (s := s - 2 ^ low) (i := j) (by rw [hbj]; exact hb)
        have hnew : Nu n (gJ nx s low (j + 1)) (if k < 1 + k' then 1 + k' else k) := by
          refine nu_edge (a := low) (b := j) (gJ_gr hG s low j) (gJ_gr hG s low (j + 1)) hlt hjn (gJ_iff.mpr ⟨⟨hx, hlow, hb⟩, fun _ => by omega, fun _ => by omega⟩) (fun x y _ _ h => ?_) (fun x y _ _ h => ?_) h2 (h4.same (fun x y _ _ => eqB ?_))
          · obtain ⟨h5, h6, h7⟩ := gJ_iff.mp h
            exact gJ_iff.mpr ⟨h5, fun h => by have := h6 h; omega, fun h => by have := h7 h; omega⟩
          · obtain ⟨h5, h6, h7⟩ := gJ_iff.mp h
            by_cases e1 : x = low ∧ y = j
            · exact Or.inr (Or.inl e1)
            by_cases e2 : x = j ∧ y = low
            · exact Or.inr (Or.inr e2)
            refine Or.inl (gJ_iff.mpr ⟨h5, fun h => ?_, fun h => ?_⟩)
            · have := h6 h
              have : y ≠ j := fun e => e1 ⟨h, e⟩
              omega
            · have := h7 h
              have : x ≠ j := fun e => e2 ⟨e, h⟩
              omega
          · rw [gS_iff, woS_iff, woS_iff, gJ_iff, hbit2, hbit2, hbit, hbit]
            have kb : ∀ (b : Bool) (z : Nat), ((b && !(z == low)) && !(z == j)) = true ↔ b = true ∧ z ≠ low ∧ z ≠ j := fun b z => by
              rw [band, band, Bool.not_eq_true', Bool.not_eq_true', beq_eq_false_iff_ne, beq_eq_false_iff_ne]
              exact ⟨fun ⟨⟨h5, h6⟩, h7⟩ => ⟨h5, h6, h7⟩, fun ⟨h5, h6, h7⟩ => ⟨⟨h5, h6⟩, h7⟩⟩
            rw [kb, kb]
            constructor
            · rintro ⟨h5, ⟨h6, h7, h8⟩, h9, h10, h11⟩
              exact ⟨⟨⟨⟨h5, h6, h9⟩, fun h => absurd h h7, fun h => absurd h h10⟩, h7, h10⟩, h8, h11⟩
            · rintro ⟨⟨⟨⟨h5, h6, h9⟩, _, _⟩, h7, h10⟩, h8, h11⟩
              exact ⟨h5, ⟨h6, h7, h8⟩, h9, h10, h11⟩
        obtain ⟨K, r, hK, hP⟩ := most_l2 hn hG ⟨ht1, ht2⟩ hs hlow hlt hend d (j + 1) (t.set s ((if k < 1 + k' then 1 + k' else k : Nat) : Int)) (by omega) (by omega) (by rw [List.length_set]; exact htl) (fun x hx => by
          obtain ⟨k2, h5, h6⟩ := hT x hx
          exact ⟨k2, by rw [getD_set_, if_neg (fun h => by omega)]; exact h5, h6⟩) ⟨_, by rw [getD_set_, if_pos ⟨rfl, by omega⟩], hnew⟩
        refine ⟨K + 1, r, ?_, hP⟩
        simp only [kimberliteref04_Most.l2]
        rw [if_pos (by omega), if_pos (by omega), if_pos (by omega), if_pos (by omega), rdL5, if_pos (by rw [ht3]; omega), hrd, hx, if_pos rfl, bitOf (by omega), hbj, hb, if_pos (by decide), if_pos (by omega), if_pos (by omega), shl1 (by omega), w64n hbl2 (by omega), if_pos (by omega), if_pos (by omega), rdM, rdM, h1, h3, w64 (by omega) (by omega), Int.toNat_natCast, w64s (by omega)]
        rw [show mx (k : Int) (1 + (k' : Int)) = ((if k < 1 + k' then 1 + k' else k : Nat) : Int) from by unfold mx; split <;> split <;> omega]
        exact hK
theorem most_l1 (hn : n ≤ 14) (hG : Gr n nx) (ht : Nr n nx tb) {s : Nat} (hs : s < 2 ^ n) (hs1 : 1 ≤ s) {P : List Int → Prop}
    (hend : ∀ t : List Int, t.length = 2 ^ n → (∀ x, x < s + 1 → Tok n nx t x) → ∃ K r, kimberliteref04_Most.l0 K (n : Int) tb t ((s + 1 : Nat) : Int) = some r ∧ P r) (t : List Int) (htl : t.length = 2 ^ n) (hT : ∀ x, x < s → Tok n nx t x) :
    ∀ (d j : Nat), j + d = n → (∀ x, x < j → s.testBit x = false) → ∃ K r, kimberliteref04_Most.l1 K (n : Int) tb t (s : Int) (j : Int) = some r ∧ P r
  | 0, j, hd, hz => by
    have : s = 0 := by
      refine Nat.eq_of_testBit_eq (fun i => ?_)
      rw [Nat.zero_testBit]
      by_cases hi : i < j
      · exact hz i hi
      · exact Nat.testBit_lt_two_pow (Nat.lt_of_lt_of_le hs (Nat.pow_le_pow_right (by decide) (by omega)))
    omega
  | d + 1, j, hd, hz => by
    have hp := pow14 hn
    cases hb : s.testBit j with
    | false =>
      obtain ⟨K, r, hK, hP⟩ := most_l1 hn hG ht hs hs1 hend t htl hT d (j + 1) (by omega) (fun x hx => by
        by_cases hxj : x = j
        · rw [hxj]; exact hb
        · exact hz x (by omega))
      refine ⟨K + 1, r, ?_, hP⟩
      simp only [kimberliteref04_Most.l1]
      rw [if_pos (by omega), bitOf (by omega), hb, if_pos (by decide), w64s (by omega)]
      exact hK
    | true =>
      have hbl := bitLe hb
      have h2j := Nat.two_pow_pos j
      have hbit := bitClr hb
      obtain ⟨k, h1, h2⟩ := hT (s - 2 ^ j) (by omega)
      obtain ⟨K, r, hK, hP⟩ := most_l2 hn hG ht hs hb (by omega) hend d (j + 1) (t.set s (t.getD (s - 2 ^ j) 0)) (by omega) (by omega) (by rw [List.length_set]; exact htl) (fun x hx => by
          obtain ⟨k2, h5, h6⟩ := hT x hx
          exact ⟨k2, by rw [getD_set_, if_neg (fun h => by omega)]; exact h5, h6⟩) ⟨k, by rw [getD_set_, if_pos ⟨rfl, by omega⟩]; exact h1, h2.same (fun x y _ _ => eqB (by
          rw [gS_iff, gJ_iff, hbit, hbit]
          have kb : ∀ (b : Bool) (z : Nat), (b && !(z == j)) = true ↔ b = true ∧ z ≠ j := fun b z => by
            rw [band, Bool.not_eq_true', beq_eq_false_iff_ne]
          rw [kb, kb]
          constructor
          · rintro ⟨h5, ⟨h6, h7⟩, h8, h9⟩
            exact ⟨⟨h5, h6, h8⟩, fun h => absurd h h7, fun h => absurd h h9⟩
          · rintro ⟨⟨h5, h6, h8⟩, h7, h9⟩
            refine ⟨h5, ⟨h6, fun h => ?_⟩, h8, fun h => ?_⟩
            · have h10 := h7 h
              rw [h] at h5
              by_cases hyj : y = j
              · rw [hyj, hG.irr] at h5; exact absurd h5 (by decide)
              · rw [hz y (by omega)] at h8; exact absurd h8 (by decide)
            · have h10 := h9 h
              rw [h] at h5
              by_cases hxj : x = j
              · rw [hxj, hG.irr] at h5; exact absurd h5 (by decide)
              · rw [hz x (by omega)] at h6; exact absurd h6 (by decide)))⟩
      refine ⟨K + 1, r, ?_, hP⟩
      simp only [kimberliteref04_Most.l1]
      rw [if_pos (by omega), bitOf (by omega), hb, if_neg (by decide), shl1 (by omega), w64n hbl (by omega), if_pos (by omega), if_pos (by omega), if_pos (by omega), if_pos (by omega), rdM, Int.toNat_natCast, w64s (by omega)]
      exact hK
theorem most_l0 (hn : n ≤ 14) (hG : Gr n nx) (ht : Nr n nx tb) : ∀ (d s : Nat) (t : List Int), s + d = 2 ^ n → 1 ≤ s → t.length = 2 ^ n → (∀ x, x < s → Tok n nx t x) → ∃ K r, kimberliteref04_Most.l0 K (n : Int) tb t (s : Int) = some r ∧ r.length = 2 ^ n ∧ ∀ x, x < 2 ^ n → Tok n nx r x
  | 0, s, t, hd, h1, htl, hT => by
    have hp := pow14 hn
    refine ⟨1, t, ?_, htl, fun x hx => hT x (by omega)⟩
    simp only [kimberliteref04_Most.l0]
    rw [if_pos (by omega), shl1 hn, if_neg (by omega)]
  | d + 1, s, t, hd, h1, htl, hT => by
    have hp := pow14 hn
    obtain ⟨K, r, hK, hP⟩ := most_l1 hn hG ht (s := s) (by omega) h1 (P := fun r => r.length = 2 ^ n ∧ ∀ x, x < 2 ^ n → Tok n nx r x) (fun t' htl' hT' => most_l0 hn hG ht d (s + 1) t' (by omega) (by omega) htl' hT') t htl hT n 0 (by omega) (fun x hx => absurd hx (by omega))
    refine ⟨K + 1, r, ?_, hP⟩
    simp only [kimberliteref04_Most.l0]
    rw [if_pos (by omega), shl1 hn, if_pos (by omega)]
    exact hK
end
theorem leM {α : Type} {f : Nat → Option α} (h : ∀ k, LeO (f k) (f (k + 1))) {k k' : Nat} (hk : k ≤ k') {r : α} (hr : f k = some r) : f k' = some r := by
  induction hk with
  | refl => exact hr
  | step _ ih => exact h _ _ ih
/-- The table of a graph of few stones. -/
theorem refMost_eq {a0 : Int} {l : List S41} {m : Nat} {nx : Nat → Nat → Bool} (h : chkS a0 (prs l) = .ok (m, nx)) (hm : m ≤ 14) : ∃ t : List Int, (∃ k0, ∀ k, k0 ≤ k → kimberliteref04_Most.f k a0 l = some t) ∧ t.length = 2 ^ m ∧ ∀ x, x < 2 ^ m → Tok m nx t x := by
  obtain ⟨tb, h1, h2⟩ := near_eq h 200 (by omega)
  obtain ⟨hG, _, hm0⟩ := chkS_gr' h
  have hp := pow14 hm
  have hp1 := Nat.two_pow_pos m
  obtain ⟨K, r, hK, h3, h4⟩ := most_l0 hm hG h2 (2 ^ m - 1) 1 (List.replicate (2 ^ m) 0) (by omega) (Nat.le_refl _) (by rw [List.length_replicate]) (fun x hx => by
    obtain rfl : x = 0 := by omega
    refine ⟨0, getD_rep _ _ _ _ hp1, ⟨fun _ => m, mat_none m _, ?_⟩, fun N hN => ?_⟩
    · have := cov_pairs (gS_gr hG 0) (mat_none m (gS nx 0))
      have h4 : cov m (fun _ => m) = 0 := cnt_zero (fun v _ => decide_eq_false (Nat.lt_irrefl _))
      omega
    · have := cov_pairs (gS_gr hG 0) hN
      have h4 : cov m N = 0 := cnt_zero (fun v hv => decide_eq_false (fun hlt => by
        have := (gS_iff.mp (hN.near v hv hlt)).2.1
        rw [Nat.zero_testBit] at this
        exact absurd this (by decide)))
      omega)
  refine ⟨r, ⟨K + 200, fun k hk => ?_⟩, h3, h4⟩
  unfold kimberliteref04_Most.f
  rw [leM (fun k => kimberliteref04_Near.mono _ _ k) (show 200 ≤ k by omega) h1, Option.bind_some, if_pos (by omega), hm0, shl1 hm, if_pos (by omega), if_pos (by omega), Int.toNat_natCast]
  exact leM (fun k => (kimberliteref04_Most.mono_l k).1 _ _ _ _) (show K ≤ k by omega) hK
end Go.Proofs.Ythhgdndjnflklaa.PP
