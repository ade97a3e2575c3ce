/- What group marks: the component of a stone among the stones that are not marked. No conditions. -/
import Derived.Test.YthhgdndjnflklaaC0
import Derived.Test.YthhgdndjnflklaaG15
namespace Go.Proofs.Ythhgdndjnflklaa
set_option linter.unusedVariables false
set_option linter.unusedSimpArgs false

/-- Reached from s over stones that g does not mark. -/
inductive Rch (n : Nat) (nx : Nat → Nat → Bool) (g : Nat → Bool) (s : Nat) : Nat → Prop
  | start : Rch n nx g s s
  | step {u v : Nat} : Rch n nx g s u → nx u v = true → v < n → g v = false → Rch n nx g s v
/-- A component has been marked, of so many stones. -/
structure Comp (n : Nat) (nx : Nat → Nat → Bool) (g : Nat → Bool) (s : Nat) (g' : Nat → Bool) (c : Nat) : Prop where
  sub : ∀ v, g v = true → g' v = true
  st : g' s = true
  rch : ∀ v, g' v = true → g v = true ∨ Rch n nx g s v
  clo : ∀ v u, g' v = true → g v = false → nx v u = true → u < n → g' u = true
  num : cnt g' n = cnt g n + c
theorem Comp.of_rch {n : Nat} {nx : Nat → Nat → Bool} {g g' : Nat → Bool} {s c : Nat} (h : Comp n nx g s g' c) (hs : g s = false) : ∀ v, Rch n nx g s v → g' v = true ∧ g v = false := by
  intro v hv
  induction hv with
  | start => exact ⟨h.st, hs⟩
  | step hu hx hv hg ih => exact ⟨h.clo _ _ ih.1 ih.2 hx hv, hg⟩
theorem Comp.unique {n : Nat} {nx : Nat → Nat → Bool} {g g1 g2 : Nat → Bool} {s c1 c2 : Nat} (hs : g s = false) (h1 : Comp n nx g s g1 c1) (h2 : Comp n nx g s g2 c2) : g1 = g2 ∧ c1 = c2 := by
  have h : g1 = g2 := by
    funext v
    cases e1 : g1 v with
    | true =>
      rcases h1.rch v e1 with h | h
      · exact (h2.sub v h).symm
      · exact (h2.of_rch hs v h).1.symm
    | false =>
      cases e2 : g2 v with
      | false => rfl
      | true =>
        rcases h2.rch v e2 with h | h
        · rw [h1.sub v h] at e1; exact absurd e1 (by simp)
        · rw [(h1.of_rch hs v h).1] at e1; exact absurd e1 (by simp)
  refine ⟨h, ?_⟩
  have := h1.num
  have := h2.num
  subst h
  omega
theorem cnt_upd {n s : Nat} {g : Nat → Bool} (hs : s < n) (hg : g s = false) : cnt (upd g s true) n = cnt g n + 1 := by
  rw [cnt_out (p := upd g s true) (a := s) hs (by simp [upd])]
  congr 1
  refine cnt_congr (fun i hi => ?_)
  by_cases h : i = s
  · subst h; simp [hg]
  · simp [upd, h, beq_eq_false_iff_ne.mpr h]
theorem upd_is {f : Nat → Bool} {i : Nat} {v : Bool} : upd f i v i = v := by simp [upd]
theorem upd_no {f : Nat → Bool} {i j : Nat} {v : Bool} (h : j ≠ i) : upd f i v j = f j := by simp [upd, h]

/-- What the loop has done at t. -/
structure Part (n : Nat) (nx : Nat → Nat → Bool) (g : Nat → Bool) (s : Nat) (h : Nat → Bool) (c t : Nat) : Prop where
  sub : ∀ v, g v = true → h v = true
  st : h s = true
  rch : ∀ v, h v = true → g v = true ∨ Rch n nx g s v
  clo : ∀ v u, h v = true → g v = false → v ≠ s → nx v u = true → u < n → h u = true
  near : ∀ u, u < t → nx s u = true → h u = true
  num : cnt h n = cnt g n + c
theorem grp_ok {n : Nat} {nx : Nat → Nat → Bool} (hn : n ≤ 24) {rec_ : Nat → (Nat → Bool) → Option (Nat × (Nat → Bool))} {g : Nat → Bool} {s : Nat} (hgs : g s = false) (U : Nat)
    (hrec : ∀ t h, t < n → h t = false → n - cnt h n ≤ U → ∃ c h', rec_ t h = some (c, h') ∧ Comp n nx h t h' c) : ∀ (d t c : Nat) (h : Nat → Bool), t + d = n → n - cnt h n ≤ U → Part n nx g s h c t →
    ∃ c' h', grpL nx rec_ s d t c h = some (c', h') ∧ Comp n nx g s h' c'
  | 0, t, c, h, ht, hU, hP => ⟨c, h, rfl, hP.sub, hP.st, hP.rch, fun v u hv hg hx hu => by
      by_cases hvs : v = s
      · subst hvs; exact hP.near u (by omega) hx
      · exact hP.clo v u hv hg hvs hx hu, hP.num⟩
  | d + 1, t, c, h, ht, hU, hP => by
    simp only [grpL]
    by_cases hc : nx s t = true ∧ h t = false
    · rw [if_pos hc]
      obtain ⟨c1, h1, he, hC⟩ := hrec t h (by omega) hc.2 hU
      have hc1 : c1 ≤ 24 := by
        have := hC.num
        have := cnt_le h1 n
        omega
      have hcc : c ≤ 24 := by
        have := hP.num
        have := cnt_le h n
        omega
      rw [he, Option.bind_some, if_pos (by show c + c1 < 1000000; omega)]
      have hUU : n - cnt h1 n ≤ U := by have := hC.num; omega
      have hgt : g t = false := by
        cases hh : g t with
        | false => rfl
        | true => have := hP.sub t hh; rw [hc.2] at this; exact absurd this (by simp)
      have hRt : Rch n nx g s t := Rch.step Rch.start hc.1 (by omega) hgt
      have hR : ∀ v, Rch n nx h t v → Rch n nx g s v := by
        intro v hv
        induction hv with
        | start => exact hRt
        | step hu hx hv hg ih =>
          refine Rch.step ih hx hv ?_
          cases hh : g _ with
          | false => rfl
          | true => have := hP.sub _ hh; rw [hg] at this; exact absurd this (by simp)
      refine grp_ok hn hgs U hrec d (t + 1) (c + c1) h1 (by omega) hUU ⟨fun v hv => hC.sub v (hP.sub v hv), hC.sub s hP.st, fun v hv => ?_, fun v u hv hg hvs hx hu => ?_, fun u hu hx => ?_, ?_⟩
      · rcases hC.rch v hv with hh | hh
        · exact hP.rch v hh
        · exact Or.inr (hR v hh)
      · cases hh : h v with
        | true => exact hC.sub u (hP.clo v u hh hg hvs hx hu)
        | false => exact hC.clo v u hv hh hx hu
      · by_cases hut : u = t
        · subst hut; exact hC.st
        · exact hC.sub u (hP.near u (by omega) hx)
      · have := hC.num
        have := hP.num
        omega
    · rw [if_neg hc]
      refine grp_ok hn hgs U hrec d (t + 1) c h (by omega) hU ⟨hP.sub, hP.st, hP.rch, hP.clo, fun u hu hx => ?_, hP.num⟩
      by_cases hut : u = t
      · subst hut
        cases hh : h u with
        | true => rfl
        | false => exact absurd ⟨hx, hh⟩ hc
      · exact hP.near u (by omega) hx
theorem group_ok {n : Nat} {nx : Nat → Nat → Bool} (hn : n ≤ 24) : ∀ (k s : Nat) (g : Nat → Bool), s < n → g s = false → n - cnt g n ≤ k → ∃ c g', groupS n nx k s g = some (c, g') ∧ Comp n nx g s g' c
  | 0, s, g, hs, hg, hk => by
    have h1 := cnt_out (p := fun i => !g i) (a := s) hs (by show (!g s) = true; rw [hg]; rfl)
    have h2 := cnt_split (fun _ => true) g n
    rw [cnt_all] at h2
    simp only [Bool.true_and] at h2
    have h3 : cnt (fun i => g i) n = cnt g n := rfl
    omega
  | k + 1, s, g, hs, hg, hk => by
    simp only [groupS]
    rw [if_pos hs]
    have h1 := cnt_upd hs hg
    refine grp_ok hn hg k (fun t h ht hh hU => group_ok hn k t h ht hh hU) n 0 1 (upd g s true) (by omega) (by omega) ⟨fun v hv => ?_, upd_is, fun v hv => ?_, fun v u hv hgv hvs hx hu => ?_, fun u hu _ => absurd hu (by omega), h1⟩
    · by_cases h : v = s
      · subst h; exact upd_is
      · rw [upd_no h]; exact hv
    · by_cases h : v = s
      · subst h; exact Or.inr Rch.start
      · rw [upd_no h] at hv; exact Or.inl hv
    · rw [upd_no hvs, hgv] at hv
      exact absurd hv (by simp)
end Go.Proofs.Ythhgdndjnflklaa
