/- The bound of Tutte and Berge, and where it is met. No conditions. -/
import Derived.Test.YthhgdndjnflklaaF6
namespace Go.Proofs.Ythhgdndjnflklaa
set_option linter.unusedVariables false
set_option linter.unusedSimpArgs false
/-- How many stones are marked. -/
theorem oddA_cnt {n : Nat} {zs : List Int} : ∀ (d i : Nat) (g g' : Nat → Bool), (∀ v, g v = true → 0 < i ∧ (v : Int) ≤ zs.getD (i - 1) 0) → oddA n zs d i g = some g' → cnt g' n = cnt g n + d
  | 0, i, g, g', _, h => by
    simp only [oddA, Option.some.injEq] at h
    subst h
    rfl
  | d + 1, i, g, g', hg, h => by
    simp only [oddA] at h
    split at h
    · exact absurd h (by simp)
    split at h
    · exact absurd h (by simp)
    split at h
    · exact absurd h (by simp)
    rename_i c1 c2 c3
    have hnew : g (zs.getD i 0).toNat = false := by
      cases hh : g (zs.getD i 0).toNat with
      | false => rfl
      | true =>
        obtain ⟨h1, h2⟩ := hg _ hh
        exact absurd ⟨h1, by omega⟩ c3
    have h1 := oddA_cnt d (i + 1) _ g' (fun v hv => by
      refine ⟨by omega, ?_⟩
      rw [Nat.add_sub_cancel]
      by_cases hvi : v = (zs.getD i 0).toNat
      · omega
      · rw [upd_no hvi] at hv
        obtain ⟨h2, h3⟩ := hg v hv
        have : ¬ (zs.getD i 0 ≤ zs.getD (i - 1) 0) := fun hh => c3 ⟨h2, hh⟩
        omega) h
    have h2 := cnt_upd (n := n) (s := (zs.getD i 0).toNat) (by omega) hnew
    omega
section
variable {n k : Nat} {nx : Nat → Nat → Bool} {M : Nat → Nat}
theorem outS_le (hG : Gr n nx) (hM : Mat n nx M) (g : Nat → Bool) : cnt (outS n g M) n ≤ cnt (fun v => !decide (M v < n)) n + cnt g n := by
  have c1 := cnt_split (outS n g M) (fun v => decide (M v < n)) n
  have c2 : cnt (fun v => outS n g M v && decide (M v < n)) n ≤ cnt g n := by
    refine cnt_inj M n n _ _ (fun v hv hp => ?_) (fun i j hi hj hp _ he => hM.inj hi hj (of_decide_eq_true (band.mp hp).2) he)
    obtain ⟨h1, h2⟩ := band.mp hp
    have h2 := of_decide_eq_true h2
    obtain ⟨h3, h4⟩ := band.mp h1
    rw [decide_eq_true h2, Bool.not_true, Bool.false_or] at h4
    exact ⟨h2, h4⟩
  have c3 : cnt (fun v => outS n g M v && !decide (M v < n)) n ≤ cnt (fun v => !decide (M v < n)) n := cnt_mono (fun v _ hp => (band.mp hp).2)
  omega
theorem single_cnt (hG : Gr n nx) (hM : Mat n nx M) : cnt (fun v => !decide (M v < n)) n + 2 * pairsS n M = n := by
  have h1 := cov_pairs hG hM
  have h2 := cnt_split (fun _ => true) (fun v => decide (M v < n)) n
  rw [cnt_all] at h2
  simp only [Bool.true_and] at h2
  unfold cov at h1
  omega
/-- For each set of stones there are at most so many odd components. -/
theorem berge_le (hn : n ≤ 24) (hG : Gr n nx) (hk : Nu n nx k) {zs : List Int} {g : Nat → Bool} {r : Nat} (hA : oddA n zs zs.length 0 (fun _ => false) = some g) (hB : oddB n nx n 0 0 g = some r) : (r : Int) - zs.length ≤ (n : Int) - 2 * k := by
  obtain ⟨⟨M, hM, hMk⟩, _⟩ := hk
  obtain ⟨h1, _⟩ := odd_le (A := g) hn hG hM n 0 0 g r (by omega) (fun _ h => h) (fun v u _ _ h1 h2 => by rw [h1] at h2; exact absurd h2 (by decide)) (fun v hv => absurd hv (by omega)) (Nat.zero_le _) hB
  have h2 := outS_le hG hM g
  have h3 := single_cnt hG hM
  have h4 := oddA_cnt zs.length 0 _ g (fun v hv => by exact absurd hv (by decide)) hA
  have h5 : cnt (fun _ => false) n = 0 := cnt_zero (fun _ _ => rfl)
  omega
/-- The odd stones meet the bound. -/
theorem GE.berge {U I : Nat → Bool} {ba : Nat → Nat} (e : GE n nx M U I ba) (hn : n ≤ 24) (hG : Gr n nx) (hM : Mat n nx M) {zs : List Int} {g : Nat → Bool} {r : Nat} (hA : oddA n zs zs.length 0 (fun _ => false) = some g) (hB : oddB n nx n 0 0 g = some r)
    (hgI : ∀ v, v < n → g v = I v) : (r : Int) - zs.length = (n : Int) - 2 * pairsS n M := by
  obtain ⟨r1, r2, r3⟩ := e.rest hG hM hM (Nat.le_refl _)
  obtain ⟨h0, h1⟩ := odd_le (A := g) hn hG hM n 0 0 g r (by omega) (fun _ h => h) (fun v u _ _ h1 h2 => by rw [h1] at h2; exact absurd h2 (by decide)) (fun v hv => absurd hv (by omega)) (Nat.zero_le _) hB
  -- stones that lead out are even, and of the class of the stone from which they are reached
  have hout : ∀ v, v < n → outS n g M v = true → U v = true ∧ exS n U I M v = true := fun v hv hp => by
    obtain ⟨h3, h4⟩ := band.mp hp
    by_cases hm : M v < n
    · rw [decide_eq_true hm, Bool.not_true, Bool.false_or, hgI _ hm] at h4
      obtain ⟨h5, h6, h7⟩ := e.odd _ hm h4
      rw [hM.back v hv hm] at h6
      exact ⟨h6, band.mpr ⟨h6, by rw [h4, Bool.or_true]⟩⟩
    · have h5 := r1 v hv (by have := hM.le v hv; omega)
      exact ⟨h5, band.mpr ⟨h5, by rw [decide_eq_false hm]; rfl⟩⟩
  have hrch : ∀ (s : Nat) (g' : Nat → Bool), (∀ v, g v = true → g' v = true) → g' s = false → s < n → ∀ v, Rch n nx g' s v → v < n ∧ g v = false ∧ (U v = true → U s = true ∧ ba s = ba v) := fun s g' hg' hs hsn v hR => by
    have hno : ∀ x, g' x = false → g x = false := fun x hx => by
      cases hh : g x with
      | false => rfl
      | true => rw [hg' x hh] at hx; exact absurd hx (by decide)
    induction hR with
    | start => exact ⟨hsn, hno s hs, fun hu => ⟨hu, rfl⟩⟩
    | step hR hx hv hgv ih =>
      rename_i u v
      obtain ⟨h3, h4, h5⟩ := ih
      refine ⟨hv, hno v hgv, fun hu => ?_⟩
      rcases e.nbr v u hv h3 hu (by rw [hG.sym]; exact hx) with ⟨h6, h7⟩ | h6
      · obtain ⟨h8, h9⟩ := h5 h6
        exact ⟨h8, h9.trans h7⟩
      · rw [← hgI u h3, h4] at h6
        exact absurd h6 (by decide)
  have h2 := h1 (fun s v v' g' hsn hg' hs hv hv' hR hR' ho ho' => by
    obtain ⟨u1, x1⟩ := hout v hv ho
    obtain ⟨u2, x2⟩ := hout v' hv' ho'
    obtain ⟨_, _, h5⟩ := hrch s g' hg' hs hsn v hR
    obtain ⟨_, _, h6⟩ := hrch s g' hg' hs hsn v' hR'
    exact r3 v v' hv hv' ((h5 u1).2.symm.trans (h6 u2).2) x1 x2) (by
    have : cnt (fun v => g v && outS n g M v) n = 0 := cnt_zero (fun v _ => by unfold outS; cases g v <;> rfl)
    omega)
  have h3 := single_cnt hG hM
  have h4 := oddA_cnt zs.length 0 _ g (fun v hv => by exact absurd hv (by decide)) hA
  have h5 : cnt (fun _ => false) n = 0 := cnt_zero (fun _ _ => rfl)
  have c1 := cnt_split (outS n g M) (fun v => decide (M v < n)) n
  have c2 : cnt (fun v => outS n g M v && !decide (M v < n)) n = cnt (fun v => !decide (M v < n)) n := cnt_congr (fun v hv => by
    by_cases hm : M v < n
    · rw [decide_eq_true hm]; simp
    · have h6 := r1 v hv (by have := hM.le v hv; omega)
      have h7 : g v = false := by
        rw [hgI v hv]
        cases hh : I v with
        | false => rfl
        | true => exact (tf h6 (e.ui v hh)).elim
      unfold outS
      rw [decide_eq_false hm, h7]
      rfl)
  have c3 : cnt g n ≤ cnt (fun v => outS n g M v && decide (M v < n)) n := by
    refine cnt_inj M n n _ _ (fun u hu hp => ?_) (fun i j hi hj hp _ he => hM.inj hi hj (e.odd i hi (by rw [← hgI i hi]; exact hp)).1 he)
    obtain ⟨h6, h7, h8⟩ := e.odd u hu (by rw [← hgI u hu]; exact hp)
    have h9 : g (M u) = false := by
      rw [hgI _ h6]
      cases hh : I (M u) with
      | false => rfl
      | true => exact (tf h7 (e.ui _ hh)).elim
    refine ⟨h6, band.mpr ⟨band.mpr ⟨by rw [h9]; rfl, ?_⟩, decide_eq_true (by rw [hM.back u hu h6]; exact hu)⟩⟩
    rw [hM.back u hu h6, hp, Bool.or_true]
  have c4 := outS_le hG hM g
  omega
end
end Go.Proofs.Ythhgdndjnflklaa
