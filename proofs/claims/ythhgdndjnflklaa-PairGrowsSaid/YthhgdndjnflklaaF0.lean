/- Match's mates are the lexicographically first of the greatest; Grows' answer. No conditions. -/
import Derived.Test.YthhgdndjnflklaaEE
namespace Go.Proofs.Ythhgdndjnflklaa
set_option linter.unusedVariables false
set_option linter.unusedSimpArgs false
/-- A pair more between two stones that are alone. -/
theorem pair_more {n : Nat} {nx : Nat → Nat → Bool} {M : Nat → Nat} {i j : Nat} (hG : Gr n nx) (hM : Mat n nx M) (hi : i < n) (hj : j < n) (hx : nx i j = true) (hmi : M i = n) (hmj : M j = n) :
    Mat n nx (upd (upd M i j) j i) ∧ cov n (upd (upd M i j) j i) = cov n M + 2 := by
  have hij : i ≠ j := fun e => by rw [e, hG.irr] at hx; exact absurd hx (by decide)
  have vi : upd (upd M i j) j i i = j := by rw [upd_no_ hij, upd_is_]
  have vj : upd (upd M i j) j i j = i := upd_is_
  have vo : ∀ v, v ≠ i → v ≠ j → upd (upd M i j) j i v = M v := fun v h1 h2 => by rw [upd_no_ h2, upd_no_ h1]
  have hne : ∀ v, v < n → M v < n → M v ≠ i ∧ M v ≠ j := fun v hv hlt => ⟨fun e => by have := hM.back v hv hlt; rw [e, hmi] at this; omega, fun e => by have := hM.back v hv hlt; rw [e, hmj] at this; omega⟩
  refine ⟨⟨fun v hv => ?_, fun v hv hlt => ?_, fun v hv hlt => ?_⟩, ?_⟩
  · by_cases h1 : v = i
    · rw [h1, vi]; omega
    by_cases h2 : v = j
    · rw [h2, vj]; omega
    rw [vo v h1 h2]; exact hM.le v hv
  · by_cases h1 : v = i
    · rw [h1, vi, vj]
    by_cases h2 : v = j
    · rw [h2, vj, vi]
    rw [vo v h1 h2] at hlt ⊢
    obtain ⟨h3, h4⟩ := hne v hv hlt
    rw [vo _ h3 h4]
    exact hM.back v hv hlt
  · by_cases h1 : v = i
    · rw [h1, vi]; exact hx
    by_cases h2 : v = j
    · rw [h2, vj, hG.sym]; exact hx
    rw [vo v h1 h2] at hlt ⊢
    exact hM.near v hv hlt
  · have hpi : (decide (upd (upd M i j) j i i < n)) = true := by rw [vi]; exact decide_eq_true hj
    have hpj : (decide (upd (upd M i j) j i j < n) && !(j == i)) = true := by rw [vj, decide_eq_true hi, beq_eq_false_iff_ne.mpr (Ne.symm hij)]; rfl
    have h1 := cnt_out (p := fun v => decide (upd (upd M i j) j i v < n)) (a := i) hi hpi
    have h2 := cnt_out (p := fun v => decide (upd (upd M i j) j i v < n) && !(v == i)) (a := j) hj hpj
    have h3 : cnt (fun v => (decide (upd (upd M i j) j i v < n) && !(v == i)) && !(v == j)) n = cov n M := cnt_congr (fun v hv => by
      by_cases e1 : v = i
      · rw [e1, hmi, decide_eq_false (Nat.lt_irrefl n), beq_self_eq_true, Bool.not_true, Bool.and_false, Bool.false_and]
      by_cases e2 : v = j
      · rw [e2, hmj, decide_eq_false (Nat.lt_irrefl n), beq_self_eq_true, Bool.not_true, Bool.and_false]
      rw [vo v e1 e2, beq_eq_false_iff_ne.mpr e1, beq_eq_false_iff_ne.mpr e2, Bool.not_false, Bool.and_true, Bool.and_true])
    unfold cov at *
    omega
theorem woS_iff {nx : Nat → Nat → Bool} {s a b : Nat} : woS nx s a b = true ↔ nx a b = true ∧ a ≠ s ∧ b ≠ s := by
  unfold woS
  rw [band, band, bne_iff_ne, bne_iff_ne]
/-- The lowest that goes. -/
theorem find_ok {n : Nat} {nx : Nat → Nat → Bool} (hn : n ≤ 24) (hG : Gr n nx) (i : Nat) (left : Nat) (hl : 0 < left ∨ ∀ j, j < n → nx i j = false) : ∀ (d j : Nat), j + d ≤ n → ∃ r, findL n nx i (left : Int) d j = some r ∧
    ((∃ m, r = some m ∧ j ≤ m ∧ m < j + d ∧ nx i m = true ∧ Nu n (woS (woS nx i) m) (left - 1) ∧ ∀ x, j ≤ x → x < m → nx i x = true → ¬ Nu n (woS (woS nx i) x) (left - 1)) ∨
     (r = none ∧ ∀ x, j ≤ x → x < j + d → nx i x = true → ¬ Nu n (woS (woS nx i) x) (left - 1)))
  | 0, j, _ => ⟨none, rfl, Or.inr ⟨rfl, fun x h1 h2 => by omega⟩⟩
  | d + 1, j, hjd => by
    obtain ⟨r, e1, h⟩ := find_ok hn hG i left hl d (j + 1) (by omega)
    simp only [findL]
    have next : (nx i j = true → ¬ Nu n (woS (woS nx i) j) (left - 1)) → ∃ r, findL n nx i (left : Int) d (j + 1) = some r ∧
        ((∃ m, r = some m ∧ j ≤ m ∧ m < j + (d + 1) ∧ nx i m = true ∧ Nu n (woS (woS nx i) m) (left - 1) ∧ ∀ x, j ≤ x → x < m → nx i x = true → ¬ Nu n (woS (woS nx i) x) (left - 1)) ∨
        (r = none ∧ ∀ x, j ≤ x → x < j + (d + 1) → nx i x = true → ¬ Nu n (woS (woS nx i) x) (left - 1))) := fun hj => by
      refine ⟨r, e1, ?_⟩
      rcases h with ⟨m, h1, h2, h3, h4, h5, h6⟩ | ⟨h1, h2⟩
      · refine Or.inl ⟨m, h1, by omega, by omega, h4, h5, fun x h7 h8 h9 => ?_⟩
        by_cases hxj : x = j
        · rw [hxj]; exact hj (hxj ▸ h9)
        · exact h6 x (by omega) h8 h9
      · refine Or.inr ⟨h1, fun x h7 h8 h9 => ?_⟩
        by_cases hxj : x = j
        · rw [hxj]; exact hj (hxj ▸ h9)
        · exact h2 x (by omega) (by omega) h9
    by_cases hx : nx i j = false
    · rw [if_pos hx]
      exact next (fun h => (tf h hx).elim)
    · rw [if_neg hx]
      have hx : nx i j = true := by cases hh : nx i j with | true => rfl | false => exact absurd hh hx
      have hlp : 0 < left := hl.elim id (fun h => (tf hx (h j (by omega))).elim)
      obtain ⟨M, h1, h2⟩ := most_nu hn (woS_gr (woS_gr hG i) j)
      rw [h1, Option.bind_some]
      by_cases hp : (pairsS n M : Int) = (left : Int) - 1
      · rw [if_pos hp]
        have hp2 : pairsS n M = left - 1 := by omega
        exact ⟨_, rfl, Or.inl ⟨j, rfl, Nat.le_refl _, by omega, hx, hp2 ▸ h2, fun x h3 h4 => by omega⟩⟩
      · rw [if_neg hp]
        exact next (fun _ h3 => hp (by have := h2.uniq h3; omega))
/-- A matching with some stones left out. -/
def cutS (n : Nat) (p : Nat → Bool) (N : Nat → Nat) : Nat → Nat := fun v => if p v = true then n else N v
theorem cutS_yes {n v : Nat} {p : Nat → Bool} {N : Nat → Nat} (h : p v = true) : cutS n p N v = n := if_pos h
theorem cutS_no {n v : Nat} {p : Nat → Bool} {N : Nat → Nat} (h : p v = false) : cutS n p N v = N v := if_neg (fun e => tf e h)
theorem cutS_mat {n : Nat} {nx ny : Nat → Nat → Bool} {N : Nat → Nat} {p : Nat → Bool} (hN : Mat n nx N) (hc : ∀ v, v < n → N v < n → p v = false → p (N v) = false) (hx : ∀ x y, x < n → y < n → p x = false → p y = false → nx x y = true → ny x y = true) :
    Mat n ny (cutS n p N) ∧ cov n (cutS n p N) = cnt (fun v => decide (N v < n) && !p v) n := by
  have hval : ∀ v, cutS n p N v < n → p v = false ∧ N v < n := fun v hv => by
    cases hp : p v with
    | true => rw [cutS_yes hp] at hv; omega
    | false => rw [cutS_no hp] at hv; exact ⟨rfl, hv⟩
  refine ⟨⟨fun v hv => ?_, fun v hv hlt => ?_, fun v hv hlt => ?_⟩, cnt_congr (fun v hv => ?_)⟩
  · cases hp : p v with
    | true => rw [cutS_yes hp]; exact Nat.le_refl _
    | false => rw [cutS_no hp]; exact hN.le v hv
  · obtain ⟨h1, h2⟩ := hval v hlt
    rw [cutS_no h1, cutS_no (hc v hv h2 h1)]
    exact hN.back v hv h2
  · obtain ⟨h1, h2⟩ := hval v hlt
    rw [cutS_no h1]
    exact hx v _ hv h2 h1 (hc v hv h2 h1) (hN.near v hv h2)
  · cases hp : p v with
    | true => rw [cutS_yes hp, decide_eq_false (Nat.lt_irrefl _), Bool.not_true, Bool.and_false]
    | false => rw [cutS_no hp, Bool.not_false, Bool.and_true]
/-- One matching first, then another. -/
def LexLe (n : Nat) (out N : Nat → Nat) (i : Nat) : Prop := (∃ j, j < i ∧ (∀ v, v < j → N v = out v) ∧ out j < N j) ∨ ∀ v, v < i → N v = out v
/-- Match's outer loop at i. -/
structure Gd (n : Nat) (nx : Nat → Nat → Bool) (k i : Nat) (ny : Nat → Nat → Bool) (left : Nat) (out : Nat → Nat) : Prop where
  mat : Mat n nx out
  ed : ∀ a b, a < n → b < n → (ny a b = true ↔ nx a b = true ∧ ¬ (a < i ∨ out a < n) ∧ ¬ (b < i ∨ out b < n))
  gr : Gr n ny
  low : ∀ v, i ≤ v → v < n → out v < n → out v < i
  nu : Nu n ny left
  sum : k = left + pairsS n out
  lex : ∀ N, Mat n nx N → pairsS n N = k → LexLe n out N i
theorem greedy {n : Nat} {nx : Nat → Nat → Bool} (hn : n ≤ 24) (hG : Gr n nx) {k : Nat} (hk : Nu n nx k) : ∀ (d i : Nat) (ny : Nat → Nat → Bool) (left : Nat) (out : Nat → Nat), i + d = n → Gd n nx k i ny left out →
    ∃ out', matchL n d i ny (left : Int) out = some out' ∧ Mat n nx out' ∧ pairsS n out' = k ∧ ∀ N, Mat n nx N → pairsS n N = k → LexLe n out' N n
  | 0, i, ny, left, out, hd, h => by
    obtain rfl : i = n := by omega
    refine ⟨out, rfl, h.mat, ?_, h.lex⟩
    obtain ⟨⟨M, h1, h2⟩, _⟩ := h.nu
    have h3 : left = 0 := by
      have h4 := cov_pairs h.gr h1
      have h5 : cov i M = 0 := cnt_zero (fun v hv => decide_eq_false (fun hlt => by
        have := (h.ed v (M v) hv hlt).mp (h1.near v hv hlt)
        exact this.2.1 (Or.inl hv)))
      omega
    have := h.sum
    omega
  | d + 1, i, ny, left, out, hd, h => by
    have hi : i < n := by omega
    simp only [matchL]
    by_cases ho : out i < n
    · rw [if_pos ho]
      have hoi := h.low i (Nat.le_refl _) hi ho
      refine greedy hn hG hk d (i + 1) ny left out (by omega) ⟨h.mat, fun a b ha hb => ?_, h.gr, fun v h1 h2 h3 => by have := h.low v (by omega) h2 h3; omega, h.nu, h.sum, fun N hN hNk => ?_⟩
      · rw [h.ed a b ha hb]
        have key : ∀ c, (c < i ∨ out c < n) ↔ (c < i + 1 ∨ out c < n) := fun c => by
          by_cases hc : c = i
          · rw [hc]; exact ⟨fun _ => Or.inr ho, fun _ => Or.inr ho⟩
          · exact ⟨fun h => h.elim (fun h => Or.inl (by omega)) Or.inr, fun h => h.elim (fun h => Or.inl (by omega)) Or.inr⟩
        rw [key a, key b]
      · rcases h.lex N hN hNk with ⟨j, h1, h2⟩ | h1
        · exact Or.inl ⟨j, by omega, h2⟩
        · refine Or.inr (fun v hv => ?_)
          by_cases hvi : v = i
          · rw [hvi]
            have h2 := h.mat.back i hi ho
            have h3 := h1 (out i) hoi
            rw [h2] at h3
            have h4 := hN.back (out i) ho (by rw [h3]; exact hi)
            rw [h3] at h4
            exact h4
          · exact h1 v (by omega)
    · rw [if_neg ho]
      have hoi : out i = n := by have := h.mat.le i hi; omega
      -- a greatest matching that agrees so far
      have agree : ∀ N, Mat n nx N → pairsS n N = k → (∀ v, v < i → N v = out v) → N i < n → ny i (N i) = true ∧ Nu n (woS (woS ny i) (N i)) (left - 1) ∧ 0 < left := by
        intro N hN hNk hag hNi
        have hback := hN.back i hi hNi
        have hNH : ∀ v, v < n → (v < i ∨ out v < n) → N v = out v := fun v hv hH => by
          by_cases hvi : v < i
          · exact hag v hvi
          · have h1 : out v < n := hH.elim (fun h => absurd h hvi) id
            have h2 := h.low v (by omega) hv h1
            have h3 := hag (out v) h2
            rw [h.mat.back v hv h1] at h3
            have h4 := hN.back (out v) h1 (by rw [h3]; exact hv)
            rw [h3] at h4
            exact h4
        have hzH : ¬ (N i < i ∨ out (N i) < n) := fun hH => by
          have h1 := hNH _ hNi hH
          rw [hback] at h1
          have h2 := h.mat.back (N i) hNi (by rw [← h1]; exact hi)
          rw [← h1, hoi] at h2
          omega
        have hz : ny i (N i) = true := (h.ed i _ hi hNi).mpr ⟨hN.near i hi hNi, fun hH => hH.elim (fun h => Nat.lt_irrefl _ h) ho, hzH⟩
        have hiz : i ≠ N i := fun e => by rw [← e, h.gr.irr] at hz; exact absurd hz (by decide)
        -- what is left of it
        have hX : ∃ X, Mat n (woS (woS ny i) (N i)) X ∧ cov n X + 2 + cov n out = cov n N := by
          have hpf : ∀ v, (decide (v < i ∨ out v < n) || (v == i || v == N i)) = false ↔ ¬ (v < i ∨ out v < n) ∧ v ≠ i ∧ v ≠ N i := fun v => by
            rw [Bool.or_eq_false_iff, Bool.or_eq_false_iff, decide_eq_false_iff_not, beq_eq_false_iff_ne, beq_eq_false_iff_ne]
          obtain ⟨m1, m2⟩ := cutS_mat (ny := woS (woS ny i) (N i)) (p := fun v => decide (v < i ∨ out v < n) || (v == i || v == N i)) hN (fun v hv hlt hp => by
            obtain ⟨h1, h2, h3⟩ := (hpf v).mp hp
            have hb := hN.back v hv hlt
            refine (hpf (N v)).mpr ⟨fun hH => ?_, fun hh => ?_, fun hh => h2 (hN.inj hv hi hlt hh)⟩
            · have h4 := hNH _ hlt hH
              rw [hb] at h4
              have h5 := h.mat.back (N v) hlt (by rw [← h4]; exact hv)
              rw [← h4] at h5
              exact h1 (Or.inr (by rw [h5]; exact hlt))
            · rw [hh] at hb; exact h3 hb.symm) (fun x y hx hy hpx hpy hxy => by
            obtain ⟨h1, h2, h3⟩ := (hpf x).mp hpx
            obtain ⟨h4, h5, h6⟩ := (hpf y).mp hpy
            exact woS_iff.mpr ⟨woS_iff.mpr ⟨(h.ed x y hx hy).mpr ⟨hxy, h1, h4⟩, h2, h5⟩, h3, h6⟩)
          refine ⟨_, m1, ?_⟩
          rw [m2]
          have c1 := cnt_split (fun v => decide (N v < n)) (fun v => decide (v < i ∨ out v < n)) n
          have c2 : cnt (fun v => decide (N v < n) && decide (v < i ∨ out v < n)) n = cov n out := cnt_congr (fun v hv => by
            by_cases hH : v < i ∨ out v < n
            · rw [hNH v hv hH, decide_eq_true hH, Bool.and_true]
            · rw [decide_eq_false hH, decide_eq_false (fun h => hH (Or.inr h)), Bool.and_false])
          have hpi : (decide (N i < n) && !decide (i < i ∨ out i < n)) = true := by
            rw [decide_eq_true hNi, decide_eq_false (fun hH => hH.elim (fun h => Nat.lt_irrefl _ h) ho)]
            rfl
          have hpz : ((decide (N (N i) < n) && !decide (N i < i ∨ out (N i) < n)) && !(N i == i)) = true := by
            rw [hback, decide_eq_true hi, decide_eq_false hzH, beq_eq_false_iff_ne.mpr (Ne.symm hiz)]
            rfl
          have c3 := cnt_out (p := fun v => decide (N v < n) && !decide (v < i ∨ out v < n)) (a := i) hi hpi
          have c4 := cnt_out (p := fun v => (decide (N v < n) && !decide (v < i ∨ out v < n)) && !(v == i)) (a := N i) hNi hpz
          have c5 : cnt (fun v => ((decide (N v < n) && !decide (v < i ∨ out v < n)) && !(v == i)) && !(v == N i)) n = cnt (fun v => decide (N v < n) && !(decide (v < i ∨ out v < n) || (v == i || v == N i))) n := cnt_congr (fun v hv => by
            rw [Bool.not_or, Bool.not_or, Bool.and_assoc, Bool.and_assoc])
          unfold cov at *
          omega
        obtain ⟨X, hX1, hX2⟩ := hX
        have hGw := woS_gr (woS_gr h.gr i) (N i)
        have p1 := cov_pairs hG hN
        have p2 := cov_pairs hG h.mat
        have p3 := cov_pairs hGw hX1
        have hs := h.sum
        have hXk : pairsS n X + 1 = left := by omega
        refine ⟨hz, ⟨⟨X, hX1, by omega⟩, fun Y hY => ?_⟩, by omega⟩
        have hYi : ∀ c, (c = i ∨ c = N i) → c < n → Y c = n := fun c hc hcn => by
          have := hY.le c hcn
          refine Classical.byContradiction (fun hh => ?_)
          have h1 := woS_iff.mp (hY.near c hcn (by omega))
          have h2 := woS_iff.mp h1.1
          rcases hc with hc | hc
          · exact h2.2.1 hc
          · exact h1.2.1 hc
        have hY2 : Mat n ny Y := hY.sub (fun x y _ _ hxy => (woS_iff.mp (woS_iff.mp hxy).1).1)
        obtain ⟨h1, h2⟩ := pair_more h.gr hY2 hi hNi hz (hYi i (Or.inl rfl) hi) (hYi (N i) (Or.inr rfl) hNi)
        have h3 := h.nu.2 _ h1
        have p4 := cov_pairs h.gr h1
        have p5 := cov_pairs h.gr hY2
        omega
      have hleft : 0 < left ∨ ∀ j, j < n → ny i j = false := by
        by_cases hl : 0 < left
        · exact Or.inl hl
        · refine Or.inr (fun j hj => ?_)
          cases hx : ny i j with
          | false => rfl
          | true =>
            obtain ⟨h1, h2⟩ := pair_more h.gr (mat_none n ny) hi hj hx rfl rfl
            have h3 := h.nu.2 _ h1
            have p4 := cov_pairs h.gr h1
            omega
      obtain ⟨r, e1, hr⟩ := find_ok hn h.gr i left hleft n 0 (by omega)
      rw [e1, Option.bind_some]
      rcases hr with ⟨j, rfl, _, hj, hxj, hnuj, hfirst⟩ | ⟨rfl, hnone⟩
      · have hjn : j < n := by omega
        have hij : i ≠ j := fun e => by rw [e, h.gr.irr] at hxj; exact absurd hxj (by decide)
        obtain ⟨hxe, hHi, hHj⟩ := (h.ed i j hi hjn).mp hxj
        have hoj : out j = n := by
          have := h.mat.le j hjn
          have : ¬ out j < n := fun hh => hHj (Or.inr hh)
          omega
        have hji : i < j := by
          have : ¬ j < i := fun hh => hHj (Or.inl hh)
          omega
        obtain ⟨hm1, hm2⟩ := pair_more hG h.mat hi hjn hxe hoi hoj
        have hleft0 : 0 < left := hleft.elim id (fun hh => (tf hxj (hh j hjn)).elim)
        have vi : upd (upd out i j) j i i = j := by rw [upd_no_ hij, upd_is_]
        have vj : upd (upd out i j) j i j = i := upd_is_
        have vo : ∀ v, v ≠ i → v ≠ j → upd (upd out i j) j i v = out v := fun v h1 h2 => by rw [upd_no_ h2, upd_no_ h1]
        have hgo := greedy hn hG hk d (i + 1) (woS (woS ny i) j) (left - 1) (upd (upd out i j) j i) (by omega) ⟨hm1, fun a b ha hb => ?_, woS_gr (woS_gr h.gr i) j, fun v h1 h2 h3 => ?_, hnuj, ?_, fun N hN hNk => ?_⟩
        · obtain ⟨out', g1, g2⟩ := hgo
          refine ⟨out', ?_, g2⟩
          show matchL n d (i + 1) (woS (woS ny i) j) ((left : Int) - 1) (upd (upd out i j) j i) = some out'
          rw [show (left : Int) - 1 = ((left - 1 : Nat) : Int) by omega]
          exact g1
        · have key : ∀ c, ¬ (c < i + 1 ∨ upd (upd out i j) j i c < n) ↔ ¬ (c < i ∨ out c < n) ∧ c ≠ i ∧ c ≠ j := fun c => by
            by_cases h1 : c = i
            · rw [h1, vi]; exact ⟨fun hh => absurd (Or.inl (by omega)) hh, fun hh => absurd rfl hh.2.1⟩
            by_cases h2 : c = j
            · rw [h2, vj]; exact ⟨fun hh => absurd (Or.inr hi) hh, fun hh => absurd rfl hh.2.2⟩
            rw [vo c h1 h2]
            exact ⟨fun hh => ⟨fun h3 => hh (h3.elim (fun h => Or.inl (by omega)) Or.inr), h1, h2⟩, fun hh h3 => hh.1 (h3.elim (fun h => Or.inl (by omega)) Or.inr)⟩
          rw [woS_iff, woS_iff, h.ed a b ha hb, key a, key b]
          exact ⟨fun ⟨⟨⟨h1, h2, h3⟩, h4, h5⟩, h6, h7⟩ => ⟨h1, ⟨h2, h4, h6⟩, h3, h5, h7⟩, fun ⟨h1, ⟨h2, h4, h6⟩, h3, h5, h7⟩ => ⟨⟨⟨h1, h2, h3⟩, h4, h5⟩, h6, h7⟩⟩
        · by_cases h4 : v = j
          · rw [h4, vj]; omega
          · have h5 : v ≠ i := by omega
            rw [vo v h5 h4] at h3 ⊢
            have := h.low v (by omega) h2 h3
            omega
        · have p1 := cov_pairs hG hm1
          have p2 := cov_pairs hG h.mat
          have := h.sum
          omega
        · rcases h.lex N hN hNk with ⟨q, h1, h2, h3⟩ | h1
          · refine Or.inl ⟨q, by omega, fun v hv => ?_, ?_⟩
            · rw [vo v (by omega) (by omega)]; exact h2 v hv
            · rw [vo q (by omega) (by omega)]; exact h3
          · have hag : ∀ v, v < i → N v = upd (upd out i j) j i v := fun v hv => by rw [vo v (by omega) (by omega)]; exact h1 v hv
            by_cases hz : N i < n
            · obtain ⟨h2, h3, h4⟩ := agree N hN hNk h1 hz
              have h5 : ¬ N i < j := fun hh => hfirst (N i) (Nat.zero_le _) hh h2 h3
              by_cases h6 : N i = j
              · refine Or.inr (fun v hv => ?_)
                by_cases h7 : v = i
                · rw [h7, vi]; exact h6
                · exact hag v (by omega)
              · exact Or.inl ⟨i, by omega, hag, by rw [vi]; omega⟩
            · exact Or.inl ⟨i, by omega, hag, by rw [vi]; omega⟩
      · refine greedy hn hG hk d (i + 1) (woS ny i) left out (by omega) ⟨h.mat, fun a b ha hb => ?_, woS_gr h.gr i, fun v h1 h2 h3 => ?_, ?_, h.sum, fun N hN hNk => ?_⟩
        · have key : ∀ c, ¬ (c < i + 1 ∨ out c < n) ↔ ¬ (c < i ∨ out c < n) ∧ c ≠ i := fun c => by
            by_cases h1 : c = i
            · rw [h1]; exact ⟨fun hh => absurd (Or.inl (by omega)) hh, fun hh => absurd rfl hh.2⟩
            exact ⟨fun hh => ⟨fun h3 => hh (h3.elim (fun h => Or.inl (by omega)) Or.inr), h1⟩, fun hh h3 => hh.1 (h3.elim (fun h => Or.inl (by omega)) Or.inr)⟩
          rw [woS_iff, h.ed a b ha hb, key a, key b]
          exact ⟨fun ⟨⟨h1, h2, h3⟩, h4, h5⟩ => ⟨h1, ⟨h2, h4⟩, h3, h5⟩, fun ⟨h1, ⟨h2, h4⟩, h3, h5⟩ => ⟨⟨h1, h2, h3⟩, h4, h5⟩⟩
        · have := h.low v (by omega) h2 h3
          omega
        · obtain ⟨⟨X, hX1, hX2⟩, hX3⟩ := h.nu
          have hXi : X i = n := by
            have hle := hX1.le i hi
            refine Classical.byContradiction (fun hh => ?_)
            have hlt : X i < n := by omega
            have hxx := hX1.near i hi hlt
            refine hnone (X i) (Nat.zero_le _) (by omega) hxx ?_
            have hiX : i ≠ X i := fun e => by rw [← e, h.gr.irr] at hxx; exact absurd hxx (by decide)
            have hback := hX1.back i hi hlt
            obtain ⟨m1, m2⟩ := cutS_mat (ny := woS (woS ny i) (X i)) (p := fun v => v == i || v == X i) hX1 (fun v hv hl hp => by
              obtain ⟨h1, h2⟩ := Bool.or_eq_false_iff.mp hp
              have h1 := beq_eq_false_iff_ne.mp h1
              have h2 := beq_eq_false_iff_ne.mp h2
              have hb := hX1.back v hv hl
              refine Bool.or_eq_false_iff.mpr ⟨beq_eq_false_iff_ne.mpr (fun e => ?_), beq_eq_false_iff_ne.mpr (fun e => h1 (hX1.inj hv hi hl e))⟩
              rw [e] at hb
              exact h2 hb.symm) (fun x y hx hy hpx hpy hxy => by
              obtain ⟨h1, h2⟩ := Bool.or_eq_false_iff.mp hpx
              obtain ⟨h3, h4⟩ := Bool.or_eq_false_iff.mp hpy
              exact woS_iff.mpr ⟨woS_iff.mpr ⟨hxy, beq_eq_false_iff_ne.mp h1, beq_eq_false_iff_ne.mp h3⟩, beq_eq_false_iff_ne.mp h2, beq_eq_false_iff_ne.mp h4⟩)
            have c3 := cnt_out (p := fun v => decide (X v < n)) (a := i) hi (decide_eq_true hlt)
            have c4 := cnt_out (p := fun v => decide (X v < n) && !(v == i)) (a := X i) hlt (by
              show (decide (X (X i) < n) && !(X i == i)) = true
              rw [hback, decide_eq_true hi, beq_eq_false_iff_ne.mpr (Ne.symm hiX)]
              rfl)
            have c5 : cnt (fun v => (decide (X v < n) && !(v == i)) && !(v == X i)) n = cnt (fun v => decide (X v < n) && !(v == i || v == X i)) n := cnt_congr (fun v hv => by
              rw [Bool.not_or, Bool.and_assoc])
            have hGw := woS_gr (woS_gr h.gr i) (X i)
            have p1 := cov_pairs hGw m1
            have p2 := cov_pairs h.gr hX1
            unfold cov at p1 p2 m2
            refine ⟨⟨_, m1, by omega⟩, fun Y hY => ?_⟩
            have hYi : ∀ c, (c = i ∨ c = X i) → c < n → Y c = n := fun c hc hcn => by
              have := hY.le c hcn
              refine Classical.byContradiction (fun hh => ?_)
              have h1 := woS_iff.mp (hY.near c hcn (by omega))
              have h2 := woS_iff.mp h1.1
              rcases hc with hc | hc
              · exact h2.2.1 hc
              · exact h1.2.1 hc
            have hY2 : Mat n ny Y := hY.sub (fun x y _ _ hxy => (woS_iff.mp (woS_iff.mp hxy).1).1)
            obtain ⟨h1, h2⟩ := pair_more h.gr hY2 hi hlt hxx (hYi i (Or.inl rfl) hi) (hYi (X i) (Or.inr rfl) hlt)
            have h3 := hX3 _ h1
            have p4 := cov_pairs h.gr h1
            have p5 := cov_pairs h.gr hY2
            omega
          refine ⟨⟨X, ⟨hX1.le, hX1.back, fun v hv hlt => ?_⟩, hX2⟩, fun Y hY => hX3 Y (hY.sub (fun x y _ _ hxy => (woS_iff.mp hxy).1))⟩
          refine woS_iff.mpr ⟨hX1.near v hv hlt, fun e => by rw [e, hXi] at hlt; omega, fun e => ?_⟩
          have := hX1.back v hv hlt
          rw [e, hXi] at this
          omega
        · rcases h.lex N hN hNk with ⟨q, h1, h2⟩ | h1
          · exact Or.inl ⟨q, by omega, h2⟩
          · refine Or.inr (fun v hv => ?_)
            by_cases h7 : v = i
            · rw [h7]
              by_cases hz : N i < n
              · obtain ⟨h2, h3, h4⟩ := agree N hN hNk h1 hz
                exact absurd h3 (hnone (N i) (Nat.zero_le _) (by omega) h2)
              · have := hN.le i hi
                omega
            · exact h1 v (by omega)
end Go.Proofs.Ythhgdndjnflklaa
