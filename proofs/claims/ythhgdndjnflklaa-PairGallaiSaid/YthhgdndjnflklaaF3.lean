/- Even stones, odd stones and classes of a greatest matching (Gallai and Edmonds): that there are such. No conditions. -/
import Derived.Test.YthhgdndjnflklaaF2
namespace Go.Proofs.Ythhgdndjnflklaa
set_option linter.unusedVariables false
set_option linter.unusedSimpArgs false
structure GE (n : Nat) (nx : Nat → Nat → Bool) (M : Nat → Nat) (U I : Nat → Bool) (ba : Nat → Nat) : Prop where
  ui : ∀ v, I v = true → U v = false
  nbr : ∀ v u, v < n → u < n → U v = true → nx v u = true → (U u = true ∧ ba u = ba v) ∨ I u = true
  par : ∀ u, u < n → I u = true → ∃ y, y < n ∧ U y = true ∧ nx u y = true
  base : ∀ v, v < n → U v = true → ba v < n ∧ U (ba v) = true ∧ ba (ba v) = ba v
  inn : ∀ v, v < n → U v = true → ba v ≠ v → M v < n ∧ U (M v) = true ∧ ba (M v) = ba v
  bas : ∀ v, v < n → U v = true → ba v = v → M v = n ∨ (M v < n ∧ I (M v) = true)
  odd : ∀ u, u < n → I u = true → M u < n ∧ U (M u) = true ∧ ba (M u) = M u
  one : ∀ v, v < n → M v = n → U v = true ∧ ba v = v
  dd : ∀ v, v < n → U v = true → ∃ X, Mat n nx X ∧ X v = n ∧ cov n M ≤ cov n X
section
variable {n : Nat} {nx : Nat → Nat → Bool} {M : Nat → Nat}
/-- A matching of the greater graph that covers all old stones but x, cut to the old stones. -/
theorem sg_cut (hG : Gr n nx) {N : Nat → Nat} (hN : Mat (2 * n + 1) (sg n nx M) N) :
    Mat n nx (dnS n N) ∧ ∀ v, v < n → N v < 2 * n + 1 → dnS n N v < n ∨ (M v = n ∧ N v = n + 1 + v) := by
  have hval : ∀ v, dnS n N v < n → N v < n := fun v hv => by
    refine Classical.byContradiction (fun hc => ?_)
    rw [dnS_no hc] at hv
    omega
  refine ⟨⟨fun v hv => ?_, fun v hv hlt => ?_, fun v hv hlt => ?_⟩, fun v hv hlt => ?_⟩
  · by_cases hc : N v < n
    · rw [dnS_yes hc]; omega
    · rw [dnS_no hc]; exact Nat.le_refl _
  · have hc := hval v hlt
    have h8 := hN.back v (by omega) (by omega)
    rw [dnS_yes hc, dnS_yes (by rw [h8]; exact hv), h8]
  · have hc := hval v hlt
    have hx := hN.near v (by omega) (by omega)
    rw [sg_old hv hc] at hx
    rw [dnS_yes hc]
    exact hx
  · by_cases hc : N v < n
    · left; rw [dnS_yes hc]; exact hc
    · right
      have hx := hN.near v (by omega) hlt
      by_cases h2 : N v = n
      · rw [h2, (sg_gr hG).sym] at hx
        obtain ⟨j, h3, h4, h5⟩ := sg_root.mp hx
        omega
      · have h4 : N v = n + 1 + (N v - (n + 1)) := by omega
        rw [h4] at hx
        obtain ⟨h5, h6⟩ := (sg_leg (by omega)).mp hx
        have h7 : v = N v - (n + 1) := by omega
        exact ⟨by rw [← h7] at h5; exact h5, by omega⟩
/-- Where the flipped matching leads from the root. -/
theorem sg_leads (hG : Gr n nx) {N : Nat → Nat} (hN : Mat (2 * n + 1) (sg n nx M) N) (hr : N n < 2 * n + 1) : ∃ i, i < n ∧ M i = n ∧ N n = n + 1 + i ∧ N (n + 1 + i) = n := by
  have hx := hN.near n (by omega) hr
  obtain ⟨i, h1, h2, h3⟩ := sg_root.mp hx
  have := hN.back n (by omega) hr
  rw [h3] at this
  exact ⟨i, h1, h2, h3, this⟩
theorem ge_ok (hn : n ≤ 24) (hG : Gr n nx) (hM : Mat n nx M) (hmax : ∀ N, Mat n nx N → pairsS n N ≤ pairsS n M) : ∃ U I ba, GE n nx M U I ba := by
  have hGp := sg_gr (M := M) hG
  have hMp := sg_mat hG hM
  obtain ⟨S', r, e1, h⟩ := search_ok (root := n) (by omega) hGp hMp (by omega) sgM_root
  have hcovmax : ∀ N, Mat n nx N → cov n N ≤ cov n M := fun N hN => by
    have p1 := cov_pairs hG hN
    have p2 := cov_pairs hG hM
    have := hmax N hN
    omega
  rcases h with ⟨_, ρ, S, f, hgood⟩ | ⟨e, _, he, hme, her, ρ, S0, w, f, hw, hue, hx, _⟩
  · -- no stone between the super root and a single stone is even
    have hleg : ∀ j, j < n → S.us (n + 1 + j) = false := by
      intro j hj
      cases hu : S.us (n + 1 + j) with
      | false => rfl
      | true =>
        exfalso
        obtain ⟨N, hN, hc⟩ := f.flip hGp hMp sgM_root hu (by omega)
        obtain ⟨i, hi, hMi, hNi, hNb⟩ := sg_leads hG hN ((hc n (by omega)).mpr (Or.inr rfl))
        obtain ⟨hX, hXc⟩ := sg_cut hG hN
        have hjs : M j = n := by
          refine Classical.byContradiction (fun hh => ?_)
          have := f.mlt hu (by omega)
          rw [sgM_off hh] at this
          omega
        have hNj : ¬ N (n + 1 + j) < 2 * n + 1 := fun hlt => by
          rcases (hc _ (by omega)).mp hlt with h1 | h1
          · exact h1.2 rfl
          · omega
        have hij : i ≠ j := fun e => by
          rw [← e, hNb] at hNj
          omega
        have hall : ∀ v, v < n → N v < 2 * n + 1 := fun v hv => (hc v (by omega)).mpr (Or.inl ⟨by
          by_cases h2 : M v < n
          · rw [sgM_old hv h2]; omega
          · rw [sgM_one hv h2]; omega, by omega⟩)
        have hcovd : ∀ v, v < n → (M v < n ∨ v = i ∨ v = j) → dnS n N v < n := fun v hv hh => by
          rcases hXc v hv (hall v hv) with h2 | ⟨h2, h3⟩
          · exact h2
          · rcases hh with h4 | h4 | h4
            · omega
            · have := hN.back v (by omega) (hall v hv)
              rw [h3, h4, hNb] at this
              omega
            · have := hN.back v (by omega) (hall v hv)
              rw [h3] at this
              rw [← h4] at hNj
              rw [this] at hNj
              omega
        have hXm := hcovmax _ hX
        have c1 := cnt_out (p := fun v => decide (dnS n N v < n)) (a := i) hi (decide_eq_true (hcovd i hi (Or.inr (Or.inl rfl))))
        have c2 := cnt_out (p := fun v => decide (dnS n N v < n) && !(v == i)) (a := j) hj (by
          show (decide (dnS n N j < n) && !(j == i)) = true
          rw [decide_eq_true (hcovd j hj (Or.inr (Or.inr rfl))), beq_eq_false_iff_ne.mpr (Ne.symm hij)]
          rfl)
        have c3 : cov n M ≤ cnt (fun v => (decide (dnS n N v < n) && !(v == i)) && !(v == j)) n := cnt_mono (fun v hv hp => by
          have hp := of_decide_eq_true hp
          have e1 : v ≠ i := fun e => by rw [e] at hp; omega
          have e2 : v ≠ j := fun e => by rw [e] at hp; omega
          rw [decide_eq_true (hcovd v hv (Or.inl hp)), beq_eq_false_iff_ne.mpr e1, beq_eq_false_iff_ne.mpr e2]
          rfl)
        unfold cov at *
        omega
    have hlt : ∀ y, S.us y = true → y < n ∨ y = n := fun y hy => by
      have h1 := f.ub y hy
      refine Classical.byContradiction (fun hh => ?_)
      have h2 : y = n + 1 + (y - (n + 1)) := by omega
      rw [h2] at hy
      exact tf hy (hleg _ (by omega))
    have hold : ∀ v, v < n → S.us (sgM n M v) = true → M v < n ∧ sgM n M v = M v := fun v hv hu => by
      by_cases h2 : M v < n
      · exact ⟨h2, sgM_old hv h2⟩
      · rw [sgM_one hv h2] at hu
        exact (tf hu (hleg v hv)).elim
    have hroot1 : ∀ y l, Tr (sgM n M) n S.pa y l → S.us y = true → S.ba y = n → y = n := by
      intro y l ht
      induction ht with
      | root => exact fun _ _ => rfl
      | @step y l hne ht ih =>
        intro hu hb
        exfalso
        obtain ⟨h1, h2, _⟩ := f.up y hu hne
        have hne2 : S.ba y ≠ y := by rw [hb]; exact fun e => hne e.symm
        have h3 := ih (f.next hu hne) ((h2 hne2).trans hb)
        have h4 := (f.adj _ (f.mlt hu hne) h1).2.2.2
        rw [h3, hGp.sym] at h4
        obtain ⟨i, h5, h6, h7⟩ := sg_root.mp h4
        have h8 := (f.nb y hu hne2).2.1
        rw [h7] at h8
        exact tf h8 (hleg i h5)
    have hbase : ∀ v, v < n → S.us v = true → S.ba v < n := fun v hv hu => by
      rcases hlt _ (f.bu v hu).1 with h1 | h1
      · exact h1
      · obtain ⟨l, ht, _⟩ := f.tr v hu
        have := hroot1 v l ht hu h1
        omega
    have hone : ∀ v, v < n → M v = n → S.us v = true ∧ S.ba v = v := fun v hv hm => by
      have h1 : sg n nx M n (n + 1 + v) = true := sg_root.mpr ⟨v, hv, hm, rfl⟩
      have hu : S.us v = true := by
        rcases hgood n (n + 1 + v) f.rt.1 (by omega) h1 with h2 | ⟨h2, h3⟩
        · rw [f.rt.2, f.un _ (by omega) (hleg v hv)] at h2
          omega
        · have := (f.adj _ (by omega) h3).2.1
          rw [sgM_leg hm] at this
          exact this
      refine ⟨hu, Classical.byContradiction (fun hb => ?_)⟩
      have := (f.nb v hu hb).2.1
      rw [sgM_one hv (by omega)] at this
      exact tf this (hleg v hv)
    have hI : ∀ u, (!S.us u && (decide (0 ≤ S.pa u) && decide (u < n))) = true ↔ S.us u = false ∧ 0 ≤ S.pa u ∧ u < n := fun u => by
      rw [band, band, decide_eq_true_eq, decide_eq_true_eq, Bool.not_eq_true']
    have hU : ∀ u, (S.us u && decide (u < n)) = true ↔ S.us u = true ∧ u < n := fun u => by
      rw [band, decide_eq_true_eq]
    refine ⟨fun v => S.us v && decide (v < n), fun v => !S.us v && (decide (0 ≤ S.pa v) && decide (v < n)), S.ba, ⟨fun v hv => ?_, fun v u hv hu hUv hx => ?_, fun u hu hIu => ?_, fun v hv hUv => ?_, fun v hv hUv hb => ?_, fun v hv hUv hb => ?_, fun u hu hIu => ?_, fun v hv hm => ?_, fun v hv hUv => ?_⟩⟩
    · obtain ⟨h1, _⟩ := (hI v).mp hv
      show (S.us v && decide (v < n)) = false
      rw [h1]
      rfl
    · obtain ⟨h1, _⟩ := (hU v).mp hUv
      rcases hgood v u h1 (by omega) (by rw [sg_old hv hu]; exact hx) with h2 | ⟨h2, h3⟩
      · left
        by_cases h4 : S.us u = true
        · exact ⟨(hU u).mpr ⟨h4, hu⟩, h2.symm⟩
        · have h4 : S.us u = false := Bool.eq_false_iff.mpr h4
          rw [f.un u (by omega) h4] at h2
          exact (tf (f.bu v h1).1 (h2 ▸ h4)).elim
      · exact Or.inr ((hI u).mpr ⟨h2, h3, hu⟩)
    · obtain ⟨h1, h2, _⟩ := (hI u).mp hIu
      obtain ⟨_, _, h3, h4⟩ := f.adj u (by omega) h2
      rcases hlt _ h3 with h5 | h5
      · exact ⟨_, h5, (hU _).mpr ⟨h3, h5⟩, by rw [← sg_old (M := M) (nx := nx) hu h5]; exact h4⟩
      · rw [h5, hGp.sym] at h4
        obtain ⟨i, _, _, h6⟩ := sg_root.mp h4
        omega
    · obtain ⟨h1, _⟩ := (hU v).mp hUv
      obtain ⟨h2, h3⟩ := f.bu v h1
      exact ⟨hbase v hv h1, (hU _).mpr ⟨h2, hbase v hv h1⟩, h3⟩
    · obtain ⟨h1, _⟩ := (hU v).mp hUv
      obtain ⟨_, h3, h4⟩ := f.nb v h1 hb
      obtain ⟨h5, h6⟩ := hold v hv h3
      rw [h6] at h3 h4
      exact ⟨h5, (hU _).mpr ⟨h3, h5⟩, h4⟩
    · obtain ⟨h1, _⟩ := (hU v).mp hUv
      by_cases h2 : M v < n
      · right
        obtain ⟨_, h3⟩ := f.bm v h1 hb (by omega)
        have h4 := (f.up v h1 (by omega)).1
        rw [sgM_old hv h2] at h3 h4
        exact ⟨h2, (hI _).mpr ⟨h3, h4, h2⟩⟩
      · left
        have := hM.le v hv
        omega
    · obtain ⟨h1, h2, _⟩ := (hI u).mp hIu
      have h3 := (f.adj u (by omega) h2).2.1
      obtain ⟨h5, h6⟩ := hold u hu h3
      rw [h6] at h3
      refine ⟨h5, (hU _).mpr ⟨h3, h5⟩, Classical.byContradiction (fun hb => ?_)⟩
      have h7 := (f.nb _ h3 hb).2.1
      have h8 := hM.back u hu h5
      rw [sgM_old h5 (by rw [h8]; exact hu), h8] at h7
      exact tf h7 h1
    · obtain ⟨h1, h2⟩ := hone v hv hm
      exact ⟨(hU v).mpr ⟨h1, hv⟩, h2⟩
    · obtain ⟨h1, _⟩ := (hU v).mp hUv
      obtain ⟨N, hN, hc⟩ := f.flip hGp hMp sgM_root h1 (by omega)
      obtain ⟨i, hi, hMi, hNi, hNb⟩ := sg_leads hG hN ((hc n (by omega)).mpr (Or.inr rfl))
      obtain ⟨hX, hXc⟩ := sg_cut hG hN
      have hall : ∀ z, z < n → z ≠ v → N z < 2 * n + 1 := fun z hz hzv => (hc z (by omega)).mpr (Or.inl ⟨by
        by_cases h2 : M z < n
        · rw [sgM_old hz h2]; omega
        · rw [sgM_one hz h2]; omega, hzv⟩)
      have hXv : dnS n N v = n := dnS_no (fun hh => by
        rcases (hc v (by omega)).mp (by omega) with h2 | h2
        · exact h2.2 rfl
        · omega)
      refine ⟨_, hX, hXv, ?_⟩
      have hcz : ∀ z, z < n → z ≠ v → M z < n → dnS n N z < n := fun z hz hzv hm => by
        rcases hXc z hz (hall z hz hzv) with h2 | ⟨h2, _⟩
        · exact h2
        · omega
      by_cases hmv : M v < n
      · have hiv : i ≠ v := fun e => by rw [← e] at hmv; omega
        have hXi : dnS n N i < n := by
          rcases hXc i hi (hall i hi hiv) with h2 | ⟨_, h2⟩
          · exact h2
          · have := hN.back i (by omega) (hall i hi hiv)
            rw [h2, hNb] at this
            omega
        have c1 := cnt_out (p := fun z => decide (M z < n)) (a := v) hv (decide_eq_true hmv)
        have c2 := cnt_out (p := fun z => decide (dnS n N z < n)) (a := i) hi (decide_eq_true hXi)
        have c3 : cnt (fun z => decide (M z < n) && !(z == v)) n ≤ cnt (fun z => decide (dnS n N z < n) && !(z == i)) n := cnt_mono (fun z hz hp => by
          obtain ⟨h2, h3⟩ := band.mp hp
          have h2 := of_decide_eq_true h2
          have h4 : z ≠ v := fun e => by rw [e, beq_self_eq_true] at h3; exact absurd h3 (by decide)
          have h5 : z ≠ i := fun e => by rw [e] at h2; omega
          rw [decide_eq_true (hcz z hz h4 h2), beq_eq_false_iff_ne.mpr h5]
          rfl)
        unfold cov
        omega
      · exact cnt_mono (fun z hz hp => by
          have hp := of_decide_eq_true hp
          exact decide_eq_true (hcz z hz (fun e => hmv (e ▸ hp)) hp))
  · exfalso
    by_cases h1 : e < n
    · by_cases h2 : M e < n
      · rw [sgM_old h1 h2] at hme; omega
      · rw [sgM_one h1 h2] at hme; omega
    · have h2 : e = n + 1 + (e - (n + 1)) := by omega
      rw [h2] at hx hme
      obtain ⟨h3, _⟩ := (sg_leg (by omega)).mp hx
      rw [sgM_leg h3] at hme
      omega
end
end Go.Proofs.Ythhgdndjnflklaa
