/- The parts are what Gallai and Edmonds say. No conditions. -/
import Derived.Test.YthhgdndjnflklaaF4
import Derived.Test.YthhgdndjnflklaaF1
namespace Go.Proofs.Ythhgdndjnflklaa
set_option linter.unusedVariables false
set_option linter.unusedSimpArgs false
section
variable {n k : Nat} {nx : Nat → Nat → Bool} {M : Nat → Nat} {U I : Nat → Bool} {ba : Nat → Nat}
/-- Even stones are those that some greatest matching leaves. -/
theorem GE.dd_iff (g : GE n nx M U I ba) (hG : Gr n nx) (hM : Mat n nx M) (hk : Nu n nx k) (hMk : pairsS n M = k) {v : Nat} (hv : v < n) : U v = true ↔ Dd n nx v := by
  have pM := cov_pairs hG hM
  constructor
  · intro hu
    obtain ⟨X, hX, hXv, hXc⟩ := g.dd v hv hu
    have pX := cov_pairs hG hX
    have h1 := hk.2 X hX
    refine ⟨k, hk, ⟨X, ⟨hX.le, hX.back, fun w hw hlt => woS_iff.mpr ⟨hX.near w hw hlt, fun e => ?_, fun e => ?_⟩⟩, by omega⟩, fun N hN => hk.2 N (hN.sub (fun x y _ _ h => (woS_iff.mp h).1))⟩
    · rw [e, hXv] at hlt; omega
    · have := hX.back w hw hlt
      rw [e, hXv] at this
      omega
  · rintro ⟨k', h1, h2⟩
    obtain rfl := h1.uniq hk
    obtain ⟨⟨N, hN, hNk⟩, _⟩ := h2
    have hNv : N v = n := by
      have := hN.le v hv
      refine Classical.byContradiction (fun hh => ?_)
      exact (woS_iff.mp (hN.near v hv (by omega))).2.1 rfl
    have hN2 := hN.sub (fun x y _ _ h => (woS_iff.mp h).1)
    have pN := cov_pairs hG hN2
    exact (g.rest hG hM hN2 (by omega)).1 v hv hNv
theorem GE.part1 (g : GE n nx M U I ba) (hG : Gr n nx) (hM : Mat n nx M) (hk : Nu n nx k) (hMk : pairsS n M = k) {v p : Nat} (hv : v < n) (hp : PartIs n nx v p) : (p = 0 ↔ U v = true) ∧ (p = 1 ↔ I v = true) ∧ (p = 2 ↔ U v = false ∧ I v = false) := by
  have hdd := fun {u : Nat} (hu : u < n) => g.dd_iff hG hM hk hMk hu
  have hI : ¬ Dd n nx v → (I v = true ↔ ∃ j, j < n ∧ nx v j = true ∧ Dd n nx j) := fun hnd => by
    constructor
    · intro hi
      obtain ⟨y, h1, h2, h3⟩ := g.par v hv hi
      exact ⟨y, h1, h3, (hdd h1).mp h2⟩
    · rintro ⟨j, h1, h2, h3⟩
      rcases g.nbr j v h1 hv ((hdd h1).mpr h3) (by rw [hG.sym]; exact h2) with ⟨h4, _⟩ | h4
      · exact absurd ((hdd hv).mp h4) hnd
      · exact h4
  rcases hp with ⟨h1, h2⟩ | ⟨h1, h2, j, h3⟩ | ⟨h1, h2, h3⟩
  · have hu := (hdd hv).mpr h2
    have hni : I v = false := by
      cases hh : I v with
      | false => rfl
      | true => exact (tf hu (g.ui v hh)).elim
    rw [h1, hu, hni]
    simp
  · have hnu : U v = false := Bool.eq_false_iff.mpr (fun hu => h2 ((hdd hv).mp hu))
    have hi := (hI h2).mpr ⟨j, h3⟩
    rw [h1, hnu, hi]
    simp
  · have hnu : U v = false := Bool.eq_false_iff.mpr (fun hu => h2 ((hdd hv).mp hu))
    have hni : I v = false := Bool.eq_false_iff.mpr (fun hi => by
      obtain ⟨j, h4, h5, h6⟩ := (hI h2).mp hi
      exact h3 j h4 h5 h6)
    rw [h1, hnu, hni]
    simp
end
end Go.Proofs.Ythhgdndjnflklaa
