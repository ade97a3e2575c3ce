/- Renamed stones: the greatest number of pairs and the parts stay. No conditions. -/
import Derived.Test.YthhgdndjnflklaaEE
namespace Go.Proofs.Ythhgdndjnflklaa
set_option linter.unusedVariables false
set_option linter.unusedSimpArgs false
/-- New names, and back. -/
structure Ren (n : Nat) (nx ny : Nat → Nat → Bool) (σ τ : Nat → Nat) : Prop where
  lt : ∀ a, a < n → σ a < n ∧ τ (σ a) = a
  lt' : ∀ b, b < n → τ b < n ∧ σ (τ b) = b
  ed : ∀ a b, a < n → b < n → ny (σ a) (σ b) = nx a b
theorem Ren.symm {n : Nat} {nx ny : Nat → Nat → Bool} {σ τ : Nat → Nat} (h : Ren n nx ny σ τ) : Ren n ny nx τ σ :=
  ⟨h.lt', h.lt, fun a b ha hb => by
    have := h.ed (τ a) (τ b) (h.lt' a ha).1 (h.lt' b hb).1
    rw [(h.lt' a ha).2, (h.lt' b hb).2] at this
    exact this.symm⟩
theorem Ren.wo {n : Nat} {nx ny : Nat → Nat → Bool} {σ τ : Nat → Nat} (h : Ren n nx ny σ τ) {i : Nat} (hi : i < n) : Ren n (woS nx i) (woS ny (σ i)) σ τ := by
  refine ⟨h.lt, h.lt', fun a b ha hb => ?_⟩
  have key : ∀ c, c < n → (σ c != σ i) = (c != i) := fun c hc => by
    by_cases hci : c = i
    · rw [hci, bne_self_eq_false, bne_self_eq_false]
    · have : σ c ≠ σ i := fun e => hci (by rw [← (h.lt c hc).2, ← (h.lt i hi).2, e])
      rw [bne_iff_ne.mpr this, bne_iff_ne.mpr hci]
  unfold woS
  rw [h.ed a b ha hb, key a ha, key b hb]
def rnS (n : Nat) (σ τ : Nat → Nat) (M : Nat → Nat) : Nat → Nat := fun v => if M (τ v) < n then σ (M (τ v)) else n
theorem rnS_yes {n v : Nat} {σ τ M : Nat → Nat} (h : M (τ v) < n) : rnS n σ τ M v = σ (M (τ v)) := if_pos h
theorem rnS_no {n v : Nat} {σ τ M : Nat → Nat} (h : ¬ M (τ v) < n) : rnS n σ τ M v = n := if_neg h
theorem Ren.mat {n : Nat} {nx ny : Nat → Nat → Bool} {σ τ : Nat → Nat} (h : Ren n nx ny σ τ) {M : Nat → Nat} (hM : Mat n nx M) : Mat n ny (rnS n σ τ M) ∧ cov n M ≤ cov n (rnS n σ τ M) := by
  have hval : ∀ v, v < n → rnS n σ τ M v < n → M (τ v) < n := fun v hv hlt => by
    refine Classical.byContradiction (fun hc => ?_)
    rw [rnS_no hc] at hlt
    omega
  refine ⟨⟨fun v hv => ?_, fun v hv hlt => ?_, fun v hv hlt => ?_⟩, ?_⟩
  · by_cases hc : M (τ v) < n
    · rw [rnS_yes hc]
      have := (h.lt _ hc).1
      omega
    · rw [rnS_no hc]; exact Nat.le_refl _
  · have hc := hval v hv hlt
    obtain ⟨h1, h2⟩ := h.lt' v hv
    have h3 := hM.back _ h1 hc
    rw [rnS_yes hc]
    have h4 := (h.lt _ hc).2
    rw [rnS_yes (by rw [h4, h3]; exact h1), h4, h3]
    exact h2
  · have hc := hval v hv hlt
    obtain ⟨h1, h2⟩ := h.lt' v hv
    have h3 := h.ed (τ v) (M (τ v)) h1 hc
    rw [h2] at h3
    rw [rnS_yes hc, h3]
    exact hM.near _ h1 hc
  · refine cnt_inj σ n n _ _ (fun i hi hp => ?_) (fun i j hi hj _ _ he => by rw [← (h.lt i hi).2, ← (h.lt j hj).2, he])
    obtain ⟨h1, h2⟩ := h.lt i hi
    have hp := of_decide_eq_true hp
    refine ⟨h1, decide_eq_true ?_⟩
    rw [rnS_yes (by rw [h2]; exact hp), h2]
    exact (h.lt _ hp).1
theorem Ren.nu {n : Nat} {nx ny : Nat → Nat → Bool} {σ τ : Nat → Nat} (h : Ren n nx ny σ τ) (hG : Gr n nx) (hG' : Gr n ny) {k : Nat} (hk : Nu n nx k) : Nu n ny k := by
  obtain ⟨⟨M, h1, h2⟩, h3⟩ := hk
  obtain ⟨h4, h5⟩ := h.mat h1
  have h6 := cov_pairs hG h1
  have h7 := cov_pairs hG' h4
  have hle : ∀ N, Mat n ny N → pairsS n N ≤ k := fun N hN => by
    obtain ⟨h8, h9⟩ := h.symm.mat hN
    have h10 := cov_pairs hG' hN
    have h11 := cov_pairs hG h8
    have := h3 _ h8
    omega
  exact ⟨⟨_, h4, by have := hle _ h4; omega⟩, hle⟩
theorem Ren.dd {n : Nat} {nx ny : Nat → Nat → Bool} {σ τ : Nat → Nat} (h : Ren n nx ny σ τ) (hG : Gr n nx) (hG' : Gr n ny) {i : Nat} (hi : i < n) (hd : Dd n nx i) : Dd n ny (σ i) := by
  obtain ⟨k, h1, h2⟩ := hd
  exact ⟨k, h.nu hG hG' h1, (h.wo hi).nu (woS_gr hG i) (woS_gr hG' _) h2⟩
theorem Ren.dd' {n : Nat} {nx ny : Nat → Nat → Bool} {σ τ : Nat → Nat} (h : Ren n nx ny σ τ) (hG : Gr n nx) (hG' : Gr n ny) {i : Nat} (hi : i < n) (hd : Dd n ny (σ i)) : Dd n nx i := by
  have := h.symm.dd hG' hG (h.lt i hi).1 hd
  rw [(h.lt i hi).2] at this
  exact this
theorem Ren.part {n : Nat} {nx ny : Nat → Nat → Bool} {σ τ : Nat → Nat} (h : Ren n nx ny σ τ) (hG : Gr n nx) (hG' : Gr n ny) {i p : Nat} (hi : i < n) (hp : PartIs n nx i p) : PartIs n ny (σ i) p := by
  rcases hp with ⟨h1, h2⟩ | ⟨h1, h2, j, h3, h4, h5⟩ | ⟨h1, h2, h3⟩
  · exact Or.inl ⟨h1, h.dd hG hG' hi h2⟩
  · exact Or.inr (Or.inl ⟨h1, fun hd => h2 (h.dd' hG hG' hi hd), σ j, (h.lt j h3).1, by rw [h.ed i j hi h3]; exact h4, h.dd hG hG' h3 h5⟩)
  · refine Or.inr (Or.inr ⟨h1, fun hd => h2 (h.dd' hG hG' hi hd), fun j hj hx hd => ?_⟩)
    obtain ⟨h4, h5⟩ := h.lt' j hj
    rw [← h5] at hx hd
    rw [h.ed i _ hi h4] at hx
    exact h3 _ h4 hx (h.dd' hG hG' h4 hd)
/-- Edges that are right make a graph. -/
theorem chkL_of {n : Nat} : ∀ (es : List (Int × Int)) (nx : Nat → Nat → Bool), (∀ e, e ∈ es → 0 ≤ e.1 ∧ e.1 < n ∧ 0 ≤ e.2 ∧ e.2 < n ∧ e.1 ≠ e.2) → ∃ ny, chkL n es nx = some ny
  | [], nx, _ => ⟨nx, rfl⟩
  | (a, c) :: es, nx, h => by
    have h1 := h (a, c) List.mem_cons_self
    simp only at h1
    simp only [chkL]
    rw [if_neg (by omega)]
    exact chkL_of es _ (fun e he => h e (List.mem_cons_of_mem _ he))
end Go.Proofs.Ythhgdndjnflklaa
