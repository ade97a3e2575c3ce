/- Match's answer in full; Grows' answer. No conditions. -/
import Derived.Test.YthhgdndjnflklaaF0
namespace Go.Proofs.Ythhgdndjnflklaa
set_option linter.unusedVariables false
set_option linter.unusedSimpArgs false
theorem Mat.congr {n : Nat} {nx : Nat → Nat → Bool} {M M' : Nat → Nat} (h : Mat n nx M) (he : ∀ v, v < n → M' v = M v) : Mat n nx M' :=
  ⟨fun v hv => by rw [he v hv]; exact h.le v hv, fun v hv hlt => by rw [he v hv] at hlt ⊢; rw [he _ hlt]; exact h.back v hv hlt, fun v hv hlt => by rw [he v hv] at hlt ⊢; exact h.near v hv hlt⟩
theorem cov_congr {n : Nat} {M M' : Nat → Nat} (he : ∀ v, v < n → M' v = M v) : cov n M' = cov n M := cnt_congr (fun v hv => by rw [he v hv])
theorem ilist_len_ (n : Nat) (f : Nat → Nat) : (ilist n f).length = n := by simp [ilist]
theorem ilist_get_ (n : Nat) (f : Nat → Nat) (i : Nat) (h : i < n) : (ilist n f).getD i 0 = (f i : Int) := by
  unfold ilist
  rw [List.getD_eq_getElem?_getD, List.getElem?_map, List.getElem?_range h]
  rfl
theorem MZ_ilist (n : Nat) (f : Nat → Nat) (i : Nat) (h : i < n) : MZ (ilist n f) i = f i := by
  unfold MZ
  rw [ilist_get_ n f i h, Int.toNat_natCast]
theorem fitL_made {n : Nat} {nx : Nat → Nat → Bool} {zs : List Int} : ∀ (d i : Nat), (∀ j, i ≤ j → j < i + d → fitB n nx zs j = true) → fitL n nx zs d i = true
  | 0, _, _ => rfl
  | d + 1, i, h => by
    simp only [fitL]
    rw [if_pos (h i (Nat.le_refl _) (by omega))]
    exact fitL_made d (i + 1) (fun j h1 h2 => h j (by omega) (by omega))
theorem fits_ilist {n : Nat} {nx : Nat → Nat → Bool} {M : Nat → Nat} (hM : Mat n nx M) : fitsS n nx (ilist n M) = true := by
  unfold fitsS
  rw [ilist_len_, decide_eq_true rfl, Bool.true_and]
  refine fitL_made n 0 (fun j _ hj => ?_)
  have hj : j < n := by omega
  have hle := hM.le j hj
  unfold fitB fitZ
  rw [ilist_get_ n M j hj, if_neg (by omega), if_neg (by omega), Int.toNat_natCast]
  by_cases hlt : M j < n
  · rw [if_pos hlt, hM.near j hj hlt, ilist_get_ n M _ hlt, hM.back j hj hlt, beq_self_eq_true]
    rfl
  · rw [if_neg hlt]
/-- Match's answer. -/
theorem match_lex {a0 : Int} {es : List (Int × Int)} {m : Nat} {nx : Nat → Nat → Bool} (h : chkS a0 es = .ok (m, nx)) : ∃ (out : Nat → Nat) (k : Nat), matchF a0 es = some (ilist m out, (k : Int), 0) ∧ Nu m nx k ∧ Mat m nx out ∧ pairsS m out = k ∧ ∀ N, Mat m nx N → pairsS m N = k → LexLe m out N m := by
  obtain ⟨hG, hm, _⟩ := chkS_gr' h
  obtain ⟨out, k, h1, h2, h3⟩ := match_tot h
  have h0 : pairsS m (fun _ => m) = 0 := by
    have := cov_pairs hG (mat_none m nx)
    have h4 : cov m (fun _ => m) = 0 := cnt_zero (fun v _ => decide_eq_false (Nat.lt_irrefl _))
    omega
  obtain ⟨out', h4, h5, h6, h7⟩ := greedy hm hG h2 m 0 nx k (fun _ => m) (by omega) ⟨mat_none m nx, fun a b ha hb => ⟨fun hx => ⟨hx, fun hh => hh.elim (fun h => by omega) (fun h => Nat.lt_irrefl _ h), fun hh => hh.elim (fun h => by omega) (fun h => Nat.lt_irrefl _ h)⟩, fun hh => hh.1⟩, hG, fun v _ _ hlt => absurd hlt (Nat.lt_irrefl _), h2, by omega, fun N _ _ => Or.inr (fun v hv => absurd hv (by omega))⟩
  rw [h3] at h4
  obtain rfl := Option.some.inj h4
  exact ⟨out, k, h1, h2, h5, h6, h7⟩
/-- Grows' loop. -/
theorem grows_loop {n : Nat} {nx : Nat → Nat → Bool} {M : Nat → Nat} (hn : n ≤ 24) (hG : Gr n nx) (hM : Mat n nx M) : ∀ (d i : Nat), i + d = n → (∀ j, j < i → M j = n → NoCov n nx M j) →
    ∃ l, growsL n nx M d i = some l ∧ ((l = [] ∧ ∀ j, j < n → M j = n → NoCov n nx M j) ∨ ∃ M', l = ilist n M' ∧ 0 < n ∧ Mat n nx M' ∧ cov n M' = cov n M + 2 ∧ ∀ v, v < n → M v < n → M' v < n)
  | 0, i, hd, h => ⟨[], rfl, Or.inl ⟨rfl, fun j hj => h j (by omega)⟩⟩
  | d + 1, i, hd, h => by
    have hi : i < n := by omega
    simp only [growsL]
    by_cases hm : M i < n
    · rw [if_pos hm]
      refine grows_loop hn hG hM d (i + 1) (by omega) (fun j hj hj2 => ?_)
      by_cases hji : j = i
      · rw [hji] at hj2; omega
      · exact h j (by omega) hj2
    · rw [if_neg hm]
      have hmi : M i = n := by have := hM.le i hi; omega
      rcases grown_ok hn hG hM hi hmi with ⟨e1, hs⟩ | ⟨M', e, e1, hM', he, hme, her, hcov⟩
      · rw [e1, Option.bind_some]
        refine grows_loop hn hG hM d (i + 1) (by omega) (fun j hj hj2 => ?_)
        by_cases hji : j = i
        · rw [hji]; exact shut_no hG hM hmi hs
        · exact h j (by omega) hj2
      · rw [e1, Option.bind_some]
        refine ⟨ilist n M', rfl, Or.inr ⟨M', rfl, by omega, hM', ?_, fun v hv hlt => (hcov v hv).mpr (Or.inl hlt)⟩⟩
        have c1 := cnt_out (p := fun v => decide (M' v < n)) (a := e) he (decide_eq_true ((hcov e he).mpr (Or.inr (Or.inl rfl))))
        have c2 := cnt_out (p := fun v => decide (M' v < n) && !(v == e)) (a := i) hi (by
          show (decide (M' i < n) && !(i == e)) = true
          rw [decide_eq_true ((hcov i hi).mpr (Or.inr (Or.inr rfl))), beq_eq_false_iff_ne.mpr (Ne.symm her)]
          rfl)
        have c3 : cnt (fun v => (decide (M' v < n) && !(v == e)) && !(v == i)) n = cov n M := cnt_congr (fun v hv => by
          by_cases e1 : v = e
          · rw [e1, hme, decide_eq_false (Nat.lt_irrefl n), beq_self_eq_true, Bool.not_true, Bool.and_false, Bool.false_and]
          by_cases e2 : v = i
          · rw [e2, hmi, decide_eq_false (Nat.lt_irrefl n), beq_self_eq_true, Bool.not_true, Bool.and_false]
          rw [beq_eq_false_iff_ne.mpr e1, beq_eq_false_iff_ne.mpr e2, Bool.not_false, Bool.and_true, Bool.and_true]
          exact decide_eq_decide.mpr ⟨fun hh => ((hcov v hv).mp hh).elim id (fun hh => hh.elim (fun hh => absurd hh e1) (fun hh => absurd hh e2)), fun hh => (hcov v hv).mpr (Or.inl hh)⟩)
        unfold cov at *
        omega
/-- Grows' answer to mates that fit. -/
theorem grows_tot {a0 : Int} {es : List (Int × Int)} {m k : Nat} {nx : Nat → Nat → Bool} {zs : List Int} (h : chkS a0 es = .ok (m, nx)) (hf : fitsS m nx zs = true) (hk : Nu m nx k) (hM : Mat m nx (MZ zs)) :
    ∃ l, growsF a0 es zs = some (l, 0) ∧ ((l = [] ∧ pairsS m (MZ zs) = k) ∨ ∃ M', l = ilist m M' ∧ 0 < m ∧ Mat m nx M' ∧ pairsS m M' = pairsS m (MZ zs) + 1 ∧ ∀ v, v < m → MZ zs v < m → M' v < m) := by
  obtain ⟨hG, hm, _⟩ := chkS_gr' h
  obtain ⟨l, h1, h2⟩ := grows_loop hm hG hM m 0 (by omega) (fun j hj => absurd hj (by omega))
  refine ⟨l, ?_, ?_⟩
  · unfold growsF
    rw [h]
    show (if fitsS m nx zs = true then (growsL m nx (MZ zs) m 0).map fun l => (l, (0 : Int)) else some ([], 2)) = _
    rw [if_pos hf, h1]
    rfl
  · rcases h2 with ⟨h3, h4⟩ | ⟨M', h3, h4, h5, h6, h7⟩
    · left
      refine ⟨h3, ?_⟩
      obtain ⟨⟨N, h5, h6⟩, h7⟩ := hk
      have := maximum hG hM h4 N h5
      have := h7 _ hM
      omega
    · right
      have p1 := cov_pairs hG hM
      have p2 := cov_pairs hG h5
      exact ⟨M', h3, h4, h5, by omega, h7⟩
end Go.Proofs.Ythhgdndjnflklaa
