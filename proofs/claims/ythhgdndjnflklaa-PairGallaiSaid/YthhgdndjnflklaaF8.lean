/- Each component of even stones has one stone that is not matched within it (Gallai and Edmonds). No conditions. -/
import Derived.Test.YthhgdndjnflklaaF5
namespace Go.Proofs.Ythhgdndjnflklaa
set_option linter.unusedVariables false
set_option linter.unusedSimpArgs false
/-- Where a matching leaves a set. -/
def exC (n : Nat) (C : Nat → Bool) (N : Nat → Nat) (v : Nat) : Bool := !decide (N v < n) || !C (N v)
section
variable {n : Nat} {nx : Nat → Nat → Bool} {M : Nat → Nat} {U I : Nat → Bool} {ba : Nat → Nat}
theorem exC_par (hG : Gr n nx) {N : Nat → Nat} (hN : Mat n nx N) (C : Nat → Bool) : cnt C n % 2 = cnt (fun v => C v && exC n C N v) n % 2 := by
  have h1 := cnt_split C (exC n C N) n
  have h2 : cnt (fun v => C v && !exC n C N v) n % 2 = 0 := by
    refine cnt_even (f := N) (fun v hv hp => ?_)
    obtain ⟨h3, h4⟩ := band.mp hp
    unfold exC at h4
    rw [Bool.not_or, Bool.not_not, Bool.not_not] at h4
    obtain ⟨h5, h6⟩ := band.mp h4
    have h5 := of_decide_eq_true h5
    have h7 := hN.back v hv h5
    refine ⟨h5, band.mpr ⟨h6, ?_⟩, hN.ne hG hv h5, h7⟩
    unfold exC
    rw [h7, decide_eq_true hv, h3]
    rfl
  omega
theorem GE.lone (e : GE n nx M U I ba) (hG : Gr n nx) (hM : Mat n nx M) {C : Nat → Bool} {i : Nat} (hi : i < n) (hCi : C i = true) (hCU : ∀ v, v < n → C v = true → U v = true ∧ ba v = ba i)
    (hcl : ∀ v u, v < n → u < n → C v = true → nx v u = true → U u = true → C u = true) {N : Nat → Nat} (hN : Mat n nx N) (hc : cov n M ≤ cov n N) : cnt (fun v => C v && exC n C N v) n = 1 := by
  -- one at most
  have most : ∀ X, Mat n nx X → cov n M ≤ cov n X → cnt (fun v => C v && exC n C X v) n ≤ 1 := fun X hX hcX => by
    obtain ⟨r1, r2, r3⟩ := e.rest hG hM hX hcX
    have hex : ∀ v, v < n → (C v && exC n C X v) = true → exS n U I X v = true := fun v hv hp => by
      obtain ⟨h3, h4⟩ := band.mp hp
      obtain ⟨h5, h6⟩ := hCU v hv h3
      refine band.mpr ⟨h5, ?_⟩
      by_cases hm : X v < n
      · unfold exC at h4
        rw [decide_eq_true hm, Bool.not_true, Bool.false_or] at h4 ⊢
        rcases e.nbr v (X v) hv hm h5 (hX.near v hv hm) with ⟨h7, _⟩ | h7
        · rw [hcl v (X v) hv hm h3 (hX.near v hv hm) h7] at h4
          exact absurd h4 (by decide)
        · exact h7
      · rw [decide_eq_false hm]
        rfl
    refine Classical.byContradiction (fun hh => ?_)
    obtain ⟨v, hv, hpv⟩ := cnt_pos (p := fun v => C v && exC n C X v) (n := n) (by omega)
    have d1 := cnt_out (p := fun v => C v && exC n C X v) hv hpv
    obtain ⟨v', hv', hpv'⟩ := cnt_pos (p := fun j => (C j && exC n C X j) && !(j == v)) (n := n) (by omega)
    obtain ⟨a1, a2⟩ := band.mp hpv'
    have := r3 v v' hv hv' ((hCU v hv (band.mp hpv).1).2.trans (hCU v' hv' (band.mp a1).1).2.symm) (hex v hv hpv) (hex v' hv' a1)
    rw [← this, beq_self_eq_true] at a2
    exact absurd a2 (by decide)
  obtain ⟨X, hX, hXi, hXc⟩ := e.dd i hi (hCU i hi hCi).1
  have h1 := most X hX hXc
  have h2 := cnt_out (p := fun v => C v && exC n C X v) (a := i) hi (band.mpr ⟨hCi, by unfold exC; rw [hXi, decide_eq_false (Nat.lt_irrefl n)]; rfl⟩)
  have h3 := exC_par hG hX C
  have h4 := most N hN hc
  have h5 := exC_par hG hN C
  omega
end
end Go.Proofs.Ythhgdndjnflklaa
