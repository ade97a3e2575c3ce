/- Odd components and matchings (Tutte and Berge). No conditions. -/
import Derived.Test.YthhgdndjnflklaaF5
namespace Go.Proofs.Ythhgdndjnflklaa
set_option linter.unusedVariables false
set_option linter.unusedSimpArgs false
/-- Stones from which a matching leads out of their component. -/
def outS (n : Nat) (A : Nat → Bool) (M : Nat → Nat) (v : Nat) : Bool := !A v && (!decide (M v < n) || A (M v))
theorem Comp.of_g {n : Nat} {nx : Nat → Nat → Bool} {g g' : Nat → Bool} {s c : Nat} (h : Comp n nx g s g' c) {v : Nat} (h1 : g' v = true) (h2 : g v = false) : Rch n nx g s v := by
  rcases h.rch v h1 with h3 | h3
  · exact (tf h3 h2).elim
  · exact h3
/-- One component: its size and its ways out are alike odd or even. -/
theorem round_par {n : Nat} {nx : Nat → Nat → Bool} {M : Nat → Nat} {A g g' : Nat → Bool} {s c : Nat} (hG : Gr n nx) (hM : Mat n nx M) (hA : ∀ v, A v = true → g v = true) (hcl : ∀ v u, v < n → u < n → g v = true → A v = false → nx v u = true → g u = true) (h : Comp n nx g s g' c) :
    ∃ e, cnt (fun v => g' v && outS n A M v) n = cnt (fun v => g v && outS n A M v) n + e ∧ c % 2 = e % 2 ∧ e = cnt (fun v => (g' v && !g v) && outS n A M v) n := by
  have hgm : ∀ v, g v = true → g' v = true := h.sub
  have hAg : ∀ v, g v = false → A v = false := fun v hv => by
    cases hh : A v with
    | false => rfl
    | true => exact (tf (hA v hh) hv).elim
  have c1 := cnt_split (fun v => g' v && outS n A M v) g n
  have c2 : cnt (fun v => (g' v && outS n A M v) && g v) n = cnt (fun v => g v && outS n A M v) n := cnt_congr (fun v hv => by
    cases hg : g v with
    | true => rw [hgm v hg]; simp
    | false => simp)
  have c3 : cnt (fun v => (g' v && outS n A M v) && !g v) n = cnt (fun v => (g' v && !g v) && outS n A M v) n := cnt_congr (fun v hv => by
    cases g' v <;> cases g v <;> cases outS n A M v <;> rfl)
  have c4 := cnt_split g' g n
  have c5 : cnt (fun v => g' v && g v) n = cnt g n := cnt_congr (fun v hv => by
    cases hg : g v with
    | true => rw [hgm v hg]; rfl
    | false => simp)
  have c6 := h.num
  have c7 := cnt_split (fun v => g' v && !g v) (outS n A M) n
  have c8 : cnt (fun v => (g' v && !g v) && !outS n A M v) n % 2 = 0 := by
    refine cnt_even (f := M) (fun v hv hp => ?_)
    obtain ⟨h1, h2⟩ := band.mp hp
    obtain ⟨h1, h3⟩ := band.mp h1
    have h3 : g v = false := by cases hh : g v with | false => rfl | true => rw [hh] at h3; exact absurd h3 (by decide)
    have hav := hAg v h3
    have h2 : outS n A M v = false := by cases hh : outS n A M v with | false => rfl | true => rw [hh] at h2; exact absurd h2 (by decide)
    unfold outS at h2
    rw [hav, Bool.not_false, Bool.true_and, Bool.or_eq_false_iff, Bool.not_eq_false', decide_eq_true_eq] at h2
    obtain ⟨h4, h5⟩ := h2
    have h6 := hM.near v hv h4
    have h7 := hM.back v hv h4
    have h8 := h.clo v (M v) h1 h3 h6 h4
    have h9 : g (M v) = false := by
      cases hh : g (M v) with
      | false => rfl
      | true => exact (tf (hcl (M v) v h4 hv hh h5 (by rw [hG.sym]; exact h6)) h3).elim
    refine ⟨h4, band.mpr ⟨band.mpr ⟨h8, by rw [h9]; rfl⟩, ?_⟩, hM.ne hG hv h4, h7⟩
    unfold outS
    rw [h5, h7, decide_eq_true hv, hav]
    rfl
  refine ⟨_, by omega, ?_, rfl⟩
  omega
/-- The count of the odd components. -/
theorem odd_le {n : Nat} {nx : Nat → Nat → Bool} {M : Nat → Nat} {A : Nat → Bool} (hn : n ≤ 24) (hG : Gr n nx) (hM : Mat n nx M) : ∀ (d s o : Nat) (g : Nat → Bool) (r : Nat), n = s + d → (∀ v, A v = true → g v = true) →
    (∀ v u, v < n → u < n → g v = true → A v = false → nx v u = true → g u = true) → (∀ v, v < s → g v = true) → o ≤ cnt (fun v => g v && outS n A M v) n → oddB n nx d s o g = some r →
    r ≤ cnt (outS n A M) n ∧ ((∀ s v v' (g : Nat → Bool), s < n → (∀ v, A v = true → g v = true) → g s = false → v < n → v' < n → Rch n nx g s v → Rch n nx g s v' → outS n A M v = true → outS n A M v' = true → v = v') → o = cnt (fun v => g v && outS n A M v) n → r = cnt (outS n A M) n)
  | 0, s, o, g, r, hd, hA, hcl, hall, ho, h => by
    simp only [oddB, Option.some.injEq] at h
    subst h
    have h1 : cnt (fun v => g v && outS n A M v) n = cnt (outS n A M) n := cnt_congr (fun v hv => by rw [hall v (by omega), Bool.true_and])
    exact ⟨by omega, fun _ h2 => by omega⟩
  | d + 1, s, o, g, r, hd, hA, hcl, hall, ho, h => by
    simp only [oddB] at h
    cases hg : g s with
    | true =>
      rw [if_pos hg] at h
      exact odd_le hn hG hM d (s + 1) o g r (by omega) hA hcl (fun v hv => by
        by_cases hvs : v = s
        · rw [hvs]; exact hg
        · exact hall v (by omega)) ho h
    | false =>
      rw [if_neg (by rw [hg]; decide)] at h
      obtain ⟨c, g', he, hC⟩ := group_ok (nx := nx) hn K0 s g (by omega) hg (by unfold K0; omega)
      rw [he, Option.bind_some] at h
      obtain ⟨e, h1, h2, h3⟩ := round_par hG hM hA hcl hC
      have hce : c % 2 ≤ e := by omega
      have hcl' : ∀ v u, v < n → u < n → g' v = true → A v = false → nx v u = true → g' u = true := fun v u hv hu hgv hav hx => by
        cases hgo : g v with
        | true => exact hC.sub u (hcl v u hv hu hgo hav hx)
        | false => exact hC.clo v u hgv hgo hx hu
      obtain ⟨h4, h5⟩ := odd_le hn hG hM d (s + 1) (o + c % 2) g' r (by omega) (fun v hv => hC.sub v (hA v hv)) hcl' (fun v hv => by
        by_cases hvs : v = s
        · rw [hvs]; exact hC.st
        · exact hC.sub v (hall v (by omega))) (by omega) h
      refine ⟨h4, fun huniq heq => h5 huniq ?_⟩
      have he1 : e ≤ 1 := by
        refine Classical.byContradiction (fun hh => ?_)
        obtain ⟨v, hv, hpv⟩ := cnt_pos (p := fun v => (g' v && !g v) && outS n A M v) (n := n) (by omega)
        have d1 := cnt_out (p := fun v => (g' v && !g v) && outS n A M v) hv hpv
        obtain ⟨v', hv', hpv'⟩ := cnt_pos (p := fun i => ((g' i && !g i) && outS n A M i) && !(i == v)) (n := n) (by omega)
        obtain ⟨a1, a2⟩ := band.mp hpv
        obtain ⟨a1, a3⟩ := band.mp a1
        obtain ⟨b1, b2⟩ := band.mp hpv'
        obtain ⟨b1, b3⟩ := band.mp b1
        obtain ⟨b1, b4⟩ := band.mp b1
        have gv : g v = false := by cases hh : g v with | false => rfl | true => rw [hh] at a3; exact absurd a3 (by decide)
        have gv' : g v' = false := by cases hh : g v' with | false => rfl | true => rw [hh] at b4; exact absurd b4 (by decide)
        have := huniq s v v' g (by omega) hA hg hv hv' (hC.of_g a1 gv) (hC.of_g b1 gv') a2 b3
        rw [← this, beq_self_eq_true] at b2
        exact absurd b2 (by decide)
      omega
end Go.Proofs.Ythhgdndjnflklaa
