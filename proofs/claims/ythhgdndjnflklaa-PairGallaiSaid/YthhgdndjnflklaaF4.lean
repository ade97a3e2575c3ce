/- What Gallai and Edmonds say of every greatest matching. No conditions. -/
import Derived.Test.YthhgdndjnflklaaF3
namespace Go.Proofs.Ythhgdndjnflklaa
set_option linter.unusedVariables false
set_option linter.unusedSimpArgs false
theorem cnt_same {p q : Nat → Bool} {n : Nat} (h : ∀ i, i < n → p i = true → q i = true) (hc : cnt q n ≤ cnt p n) {i : Nat} (hi : i < n) (hq : q i = true) : p i = true := by
  refine Classical.byContradiction (fun hp => ?_)
  have h1 := cnt_out hi hq
  have h2 : cnt p n ≤ cnt (fun j => q j && !(j == i)) n := cnt_mono (fun j hj hpj => by
    have : j ≠ i := fun e => hp (e ▸ hpj)
    rw [h j hj hpj, beq_eq_false_iff_ne.mpr this]
    rfl)
  omega
section
variable {n : Nat} {nx : Nat → Nat → Bool} {M : Nat → Nat} {U I : Nat → Bool} {ba : Nat → Nat}
/-- Out of each class a matching leads. -/
theorem GE.exit (g : GE n nx M U I ba) (hG : Gr n nx) (hM : Mat n nx M) {N : Nat → Nat} (hN : Mat n nx N) {b : Nat} (hb : b < n) (hub : U b = true) (hbb : ba b = b) :
    ∃ v, v < n ∧ U v = true ∧ ba v = b ∧ (N v = n ∨ (N v < n ∧ I (N v) = true)) := by
  refine Classical.byContradiction (fun hno => ?_)
  have hin : ∀ v, v < n → U v = true → ba v = b → N v < n ∧ U (N v) = true ∧ ba (N v) = b := fun v hv hu hvb => by
    have hle := hN.le v hv
    have h1 : N v < n := by
      refine Classical.byContradiction (fun hh => hno ⟨v, hv, hu, hvb, Or.inl (by omega)⟩)
    rcases g.nbr v (N v) hv h1 hu (hN.near v hv h1) with ⟨h2, h3⟩ | h2
    · exact ⟨h1, h2, h3.trans hvb⟩
    · exact absurd ⟨v, hv, hu, hvb, Or.inr ⟨h1, h2⟩⟩ hno
  have e1 : cnt (fun v => U v && (ba v == b)) n % 2 = 0 := by
    refine cnt_even (f := N) (fun i hi hp => ?_)
    obtain ⟨h1, h2⟩ := band.mp hp
    obtain ⟨h3, h4, h5⟩ := hin i hi h1 (beq_iff_eq.mp h2)
    exact ⟨h3, band.mpr ⟨h4, beq_iff_eq.mpr h5⟩, hN.ne hG hi h3, hN.back i hi h3⟩
  have e2 : cnt (fun v => (U v && (ba v == b)) && !(v == b)) n % 2 = 0 := by
    refine cnt_even (f := M) (fun i hi hp => ?_)
    obtain ⟨h1, h2⟩ := band.mp hp
    obtain ⟨h1, h3⟩ := band.mp h1
    have h3 := beq_iff_eq.mp h3
    have hne : i ≠ b := fun e => by rw [e, beq_self_eq_true] at h2; exact absurd h2 (by decide)
    obtain ⟨h4, h5, h6⟩ := g.inn i hi h1 (by rw [h3]; exact fun e => hne e.symm)
    have h7 := hM.back i hi h4
    have h8 : M i ≠ b := fun e => by
      rw [e] at h7
      rcases g.bas b hb hub hbb with h9 | ⟨_, h9⟩
      · omega
      · rw [h7] at h9
        exact tf h1 (g.ui i h9)
    refine ⟨h4, band.mpr ⟨band.mpr ⟨h5, beq_iff_eq.mpr (h6.trans h3)⟩, ?_⟩, hM.ne hG hi h4, h7⟩
    rw [beq_eq_false_iff_ne.mpr h8]
    rfl
  have e3 := cnt_out (p := fun v => U v && (ba v == b)) (a := b) hb (band.mpr ⟨hub, beq_iff_eq.mpr hbb⟩)
  omega
/-- There are as many classes as odd stones and single stones. -/
theorem GE.many (g : GE n nx M U I ba) (hM : Mat n nx M) : cnt I n + cnt (fun v => !decide (M v < n)) n ≤ cnt (fun b => U b && (ba b == b)) n := by
  have h1 := cnt_split (fun b => U b && (ba b == b)) (fun b => decide (M b < n)) n
  have h2 : cnt I n ≤ cnt (fun b => (U b && (ba b == b)) && decide (M b < n)) n := by
    refine cnt_inj M n n _ _ (fun i hi hp => ?_) (fun i j hi hj hp hq he => hM.inj hi hj (g.odd i hi hp).1 he)
    obtain ⟨h3, h4, h5⟩ := g.odd i hi hp
    exact ⟨h3, band.mpr ⟨band.mpr ⟨h4, beq_iff_eq.mpr h5⟩, decide_eq_true (by rw [hM.back i hi h3]; exact hi)⟩⟩
  have h3 : cnt (fun v => !decide (M v < n)) n ≤ cnt (fun b => (U b && (ba b == b)) && !decide (M b < n)) n := cnt_mono (fun v hv hp => by
    have hm : M v = n := by
      have := hM.le v hv
      have : ¬ M v < n := fun hh => by rw [decide_eq_true hh] at hp; exact absurd hp (by decide)
      omega
    obtain ⟨h4, h5⟩ := g.one v hv hm
    exact band.mpr ⟨band.mpr ⟨h4, beq_iff_eq.mpr h5⟩, hp⟩)
  omega
/-- Where a matching leaves a class. -/
def exS (n : Nat) (U I : Nat → Bool) (N : Nat → Nat) (v : Nat) : Bool := U v && (!decide (N v < n) || I (N v))
theorem GE.rest (g : GE n nx M U I ba) (hG : Gr n nx) (hM : Mat n nx M) {N : Nat → Nat} (hN : Mat n nx N) (hc : cov n M ≤ cov n N) :
    (∀ v, v < n → N v = n → U v = true) ∧ (∀ u, u < n → I u = true → N u < n ∧ U (N u) = true) ∧ ∀ v v', v < n → v' < n → ba v = ba v' → exS n U I N v = true → exS n U I N v' = true → v = v' := by
  have hm := g.many hM
  -- each class has an exit
  have hex : ∀ b, b < n → (U b && (ba b == b)) = true → ∃ v, v < n ∧ exS n U I N v = true ∧ ba v = b := fun b hb hp => by
    obtain ⟨h1, h2⟩ := band.mp hp
    obtain ⟨v, h3, h4, h5, h6⟩ := g.exit hG hM hN hb h1 (beq_iff_eq.mp h2)
    refine ⟨v, h3, band.mpr ⟨h4, ?_⟩, h5⟩
    rcases h6 with h6 | ⟨h6, h7⟩
    · rw [decide_eq_false (by omega)]; rfl
    · rw [h7, Bool.or_true]
  have c1 : cnt (fun b => U b && (ba b == b)) n ≤ cnt (exS n U I N) n := cnt_rel (fun b v => ba v = b) hex (fun i i' j _ _ _ _ h1 h2 => h1.symm.trans h2)
  -- the exits
  have c2 := cnt_split (exS n U I N) (fun v => decide (N v < n)) n
  have c3 : cnt (fun v => exS n U I N v && decide (N v < n)) n ≤ cnt (fun u => I u && (decide (N u < n) && U (N u))) n := by
    refine cnt_inj N n n _ _ (fun v hv hp => ?_) (fun i j hi hj hp _ he => hN.inj hi hj (of_decide_eq_true (band.mp hp).2) he)
    obtain ⟨h1, h2⟩ := band.mp hp
    have h2 := of_decide_eq_true h2
    obtain ⟨h3, h4⟩ := band.mp h1
    rw [decide_eq_true h2, Bool.not_true, Bool.false_or] at h4
    have h5 := hN.back v hv h2
    exact ⟨h2, band.mpr ⟨h4, band.mpr ⟨decide_eq_true (by rw [h5]; exact hv), by rw [h5]; exact h3⟩⟩⟩
  have c4 : cnt (fun v => exS n U I N v && !decide (N v < n)) n ≤ cnt (fun v => U v && !decide (N v < n)) n := cnt_mono (fun v hv hp => by
    obtain ⟨h1, h2⟩ := band.mp hp
    exact band.mpr ⟨(band.mp h1).1, h2⟩)
  have c5 : cnt (fun u => I u && (decide (N u < n) && U (N u))) n ≤ cnt I n := cnt_mono (fun u _ hp => (band.mp hp).1)
  have c6 : cnt (fun v => U v && !decide (N v < n)) n ≤ cnt (fun v => !decide (N v < n)) n := cnt_mono (fun u _ hp => (band.mp hp).2)
  have c7 := cnt_split (fun _ => true) (fun v => decide (N v < n)) n
  have c8 := cnt_split (fun _ => true) (fun v => decide (M v < n)) n
  simp only [Bool.true_and] at c7 c8
  unfold cov at hc
  refine ⟨fun v hv hnv => ?_, fun u hu hIu => ?_, fun v v' hv hv' hb h1 h2 => ?_⟩
  · have := cnt_same (p := fun v => U v && !decide (N v < n)) (q := fun v => !decide (N v < n)) (fun i _ hp => (band.mp hp).2) (by omega) hv (by
      show (!decide (N v < n)) = true
      rw [decide_eq_false (by omega)]
      rfl)
    exact (band.mp this).1
  · have := cnt_same (p := fun u => I u && (decide (N u < n) && U (N u))) (q := I) (fun i _ hp => (band.mp hp).1) (by omega) hu hIu
    obtain ⟨_, h2⟩ := band.mp this
    obtain ⟨h3, h4⟩ := band.mp h2
    exact ⟨of_decide_eq_true h3, h4⟩
  · refine Classical.byContradiction (fun hne => ?_)
    have d1 := cnt_out (p := exS n U I N) hv' h2
    have d2 : cnt (fun b => U b && (ba b == b)) n ≤ cnt (fun j => exS n U I N j && !(j == v')) n := by
      refine cnt_rel (fun b v => ba v = b) (fun b hbn hp => ?_) (fun i i' j _ _ _ _ h1 h2 => h1.symm.trans h2)
      obtain ⟨x, h3, h4, h5⟩ := hex b hbn hp
      by_cases hxv : x = v'
      · refine ⟨v, hv, ?_, by rw [hb, ← hxv]; exact h5⟩
        rw [h1, beq_eq_false_iff_ne.mpr hne]
        rfl
      · refine ⟨x, h3, ?_, h5⟩
        rw [h4, beq_eq_false_iff_ne.mpr hxv]
        rfl
    omega
end
end Go.Proofs.Ythhgdndjnflklaa
