/- Several texts in one: C0 C1. No conditions. -/
import Derived.Test.YthhgdndjnflklaaGC
/- Counting below a bound, in plain Lean. No conditions. -/
namespace Go.Proofs.Ythhgdndjnflklaa
set_option linter.unusedVariables false
set_option linter.unusedSimpArgs false

/-- How many below n. -/
def cnt (p : Nat → Bool) : Nat → Nat
  | 0 => 0
  | n + 1 => cnt p n + (p n).toNat
theorem cnt_le (p : Nat → Bool) : ∀ n, cnt p n ≤ n
  | 0 => Nat.le_refl _
  | n + 1 => by
    have := cnt_le p n
    have := Bool.toNat_le (p n)
    simp only [cnt]
    omega
theorem cnt_congr {p q : Nat → Bool} : ∀ {n : Nat}, (∀ i, i < n → p i = q i) → cnt p n = cnt q n
  | 0, _ => rfl
  | n + 1, h => by
    simp only [cnt]
    rw [cnt_congr (fun i hi => h i (by omega)), h n (by omega)]
theorem cnt_mono {p q : Nat → Bool} : ∀ {n : Nat}, (∀ i, i < n → p i = true → q i = true) → cnt p n ≤ cnt q n
  | 0, _ => Nat.le_refl _
  | n + 1, h => by
    have h1 := cnt_mono (n := n) (fun i hi => h i (by omega))
    simp only [cnt]
    cases hp : p n with
    | true => rw [h n (by omega) hp]; omega
    | false => simp only [Bool.toNat_false]; omega
theorem cnt_zero {p : Nat → Bool} : ∀ {n : Nat}, (∀ i, i < n → p i = false) → cnt p n = 0
  | 0, _ => rfl
  | n + 1, h => by
    simp only [cnt]
    rw [cnt_zero (fun i hi => h i (by omega)), h n (by omega)]
    rfl
theorem cnt_pos {p : Nat → Bool} : ∀ {n : Nat}, 0 < cnt p n → ∃ i, i < n ∧ p i = true
  | 0, h => absurd h (by simp [cnt])
  | n + 1, h => by
    simp only [cnt] at h
    cases hp : p n with
    | true => exact ⟨n, by omega, hp⟩
    | false =>
      rw [hp] at h
      simp only [Bool.toNat_false] at h
      obtain ⟨i, hi, hpi⟩ := cnt_pos (p := p) (n := n) (by omega)
      exact ⟨i, by omega, hpi⟩
/-- One taken out. -/
theorem cnt_out {p : Nat → Bool} {a : Nat} : ∀ {n : Nat}, a < n → p a = true → cnt p n = cnt (fun i => p i && !(i == a)) n + 1
  | 0, h, _ => absurd h (by omega)
  | n + 1, h, hp => by
    simp only [cnt]
    by_cases ha : a = n
    · subst ha
      have h1 : cnt p a = cnt (fun i => p i && !(i == a)) a := cnt_congr (fun i hi => by
        have : (i == a) = false := beq_eq_false_iff_ne.mpr (by omega)
        rw [this]; simp)
      rw [h1, hp, beq_self_eq_true]
      rfl
    · have h1 := cnt_out (p := p) (a := a) (n := n) (by omega) hp
      have h2 : (n == a) = false := beq_eq_false_iff_ne.mpr (by omega)
      rw [h1, h2]
      simp only [Bool.not_false, Bool.and_true]
      omega
/-- What is told apart fits in. -/
theorem cnt_inj (f : Nat → Nat) (m : Nat) : ∀ (n : Nat) (p q : Nat → Bool), (∀ i, i < n → p i = true → f i < m ∧ q (f i) = true) → (∀ i j, i < n → j < n → p i = true → p j = true → f i = f j → i = j) → cnt p n ≤ cnt q m
  | 0, p, q, _, _ => Nat.zero_le _
  | n + 1, p, q, hf, hi => by
    simp only [cnt]
    cases hp : p n with
    | true =>
      obtain ⟨h1, h2⟩ := hf n (by omega) hp
      rw [cnt_out h1 h2]
      have := cnt_inj f m n p (fun i => q i && !(i == f n)) (fun i hin hpi => by
        obtain ⟨h3, h4⟩ := hf i (by omega) hpi
        have h5 : (f i == f n) = false := beq_eq_false_iff_ne.mpr (fun he => by have := hi i n (by omega) (by omega) hpi hp he; omega)
        refine ⟨h3, ?_⟩
        show (q (f i) && !(f i == f n)) = true
        rw [h4, h5]
        rfl) (fun i j h3 h4 => hi i j (by omega) (by omega))
      simp only [Bool.toNat_true]
      omega
    | false =>
      exact cnt_inj f m n p q (fun i h => hf i (by omega)) (fun i j h3 h4 => hi i j (by omega) (by omega))
theorem cnt_split (p q : Nat → Bool) : ∀ n, cnt p n = cnt (fun i => p i && q i) n + cnt (fun i => p i && !q i) n
  | 0 => rfl
  | n + 1 => by
    simp only [cnt]
    rw [cnt_split p q n]
    cases p n <;> cases q n <;> simp only [Bool.and_true, Bool.and_false, Bool.not_true, Bool.not_false, Bool.false_and, Bool.true_and, Bool.toNat_true, Bool.toNat_false] <;> omega
theorem cnt_all (n : Nat) : cnt (fun _ => true) n = n := by
  induction n with
  | zero => rfl
  | succ n ih => simp only [cnt, ih, Bool.toNat_true]

/-- A matching on n stones: M v = n where v is alone. -/
structure Mat (n : Nat) (nx : Nat → Nat → Bool) (M : Nat → Nat) : Prop where
  le : ∀ v, v < n → M v ≤ n
  back : ∀ v, v < n → M v < n → M (M v) = v
  near : ∀ v, v < n → M v < n → nx v (M v) = true

/-- A graph without loops, both ways. -/
structure Gr (n : Nat) (nx : Nat → Nat → Bool) : Prop where
  sym : ∀ a b, nx a b = nx b a
  irr : ∀ a, nx a a = false

theorem pairsC_cnt (n : Nat) (M : Nat → Nat) : ∀ k, pairsC n M k = cnt (fun i => decide (i < M i) && decide (M i < n)) k
  | 0 => rfl
  | k + 1 => by
    simp only [pairsC, cnt]
    rw [pairsC_cnt n M k]
    congr 1
    by_cases h : k < M k ∧ M k < n
    · rw [if_pos h, decide_eq_true h.1, decide_eq_true h.2]; rfl
    · rw [if_neg h]
      by_cases h1 : k < M k
      · rw [decide_eq_false (p := M k < n) (fun h2 => h ⟨h1, h2⟩), Bool.and_false]; rfl
      · rw [decide_eq_false h1]; rfl
/-- Twice the pairs are the stones that have a mate. -/
theorem pairs_twice {n : Nat} {nx : Nat → Nat → Bool} {M : Nat → Nat} (hG : Gr n nx) (hM : Mat n nx M) : cnt (fun i => decide (M i < n)) n = 2 * pairsS n M := by
  have hne : ∀ i, i < n → M i < n → M i ≠ i := fun i hi hm he => by
    have := hM.near i hi hm
    rw [he, hG.irr] at this
    exact absurd this (by simp)
  unfold pairsS
  rw [pairsC_cnt, cnt_split (fun i => decide (M i < n)) (fun i => decide (i < M i))]
  have h1 : cnt (fun i => decide (M i < n) && decide (i < M i)) n = cnt (fun i => decide (i < M i) && decide (M i < n)) n := cnt_congr (fun i _ => Bool.and_comm _ _)
  have h2 : cnt (fun i => decide (M i < n) && !decide (i < M i)) n ≤ cnt (fun i => decide (i < M i) && decide (M i < n)) n := by
    refine cnt_inj M n n _ _ (fun i hi hp => ?_) (fun i j hi hj hp hq he => ?_)
    · simp only [Bool.and_eq_true, decide_eq_true_eq, Bool.not_eq_true', decide_eq_false_iff_not] at hp
      have := hM.back i hi hp.1
      have := hne i hi hp.1
      refine ⟨hp.1, ?_⟩
      simp only [Bool.and_eq_true, decide_eq_true_eq]
      omega
    · simp only [Bool.and_eq_true, decide_eq_true_eq] at hp hq
      have h3 := hM.back i hi hp.1
      have h4 := hM.back j hj hq.1
      rw [← h3, ← h4, he]
  have h3 : cnt (fun i => decide (i < M i) && decide (M i < n)) n ≤ cnt (fun i => decide (M i < n) && !decide (i < M i)) n := by
    refine cnt_inj M n n _ _ (fun i hi hp => ?_) (fun i j hi hj hp hq he => ?_)
    · simp only [Bool.and_eq_true, decide_eq_true_eq] at hp
      have := hM.back i hi hp.2
      refine ⟨hp.2, ?_⟩
      simp only [Bool.and_eq_true, decide_eq_true_eq, Bool.not_eq_true', decide_eq_false_iff_not]
      omega
    · simp only [Bool.and_eq_true, decide_eq_true_eq] at hp hq
      have h3 := hM.back i hi hp.2
      have h4 := hM.back j hj hq.2
      rw [← h3, ← h4, he]
  omega
theorem putE_gr {nx : Nat → Nat → Bool} {n a b : Nat} (h : Gr n nx) (hab : a ≠ b) : Gr n (putE nx a b) := by
  refine ⟨fun x y => ?_, fun x => ?_⟩
  · unfold putE
    rw [h.sym x y]
    by_cases hc : (x = a ∧ y = b) ∨ (x = b ∧ y = a)
    · rw [if_pos hc, if_pos]
      rcases hc with h1 | h1
      · exact Or.inr ⟨h1.2, h1.1⟩
      · exact Or.inl ⟨h1.2, h1.1⟩
    · rw [if_neg hc, if_neg]
      intro h1
      rcases h1 with h1 | h1
      · exact hc (Or.inr ⟨h1.2, h1.1⟩)
      · exact hc (Or.inl ⟨h1.2, h1.1⟩)
  · unfold putE
    rw [if_neg, h.irr]
    intro h1
    rcases h1 with h1 | h1 <;> omega
theorem chkL_gr {n : Nat} : ∀ (es : List (Int × Int)) (nx ny : Nat → Nat → Bool), chkL n es nx = some ny → Gr n nx → Gr n ny
  | [], nx, ny, h, hg => by obtain rfl := Option.some.inj h; exact hg
  | (a, c) :: es, nx, ny, h, hg => by
    simp only [chkL] at h
    split at h
    · exact absurd h (by simp)
    · rename_i hc
      exact chkL_gr es _ ny h (putE_gr hg (by omega))
theorem chkS_gr {a0 : Int} {es : List (Int × Int)} {m : Nat} {nx : Nat → Nat → Bool} (h : chkS a0 es = .ok (m, nx)) : Gr m nx :=
  chkL_gr es _ nx (chkS_ok h).2.2.2 ⟨fun _ _ => rfl, fun _ => rfl⟩
end Go.Proofs.Ythhgdndjnflklaa

/- What group marks: the component of a stone among the stones that are not marked. No conditions. -/
namespace Go.Proofs.Ythhgdndjnflklaa
set_option linter.unusedVariables false
set_option linter.unusedSimpArgs false

/-- Reached from s over stones that g does not mark. -/
inductive Rch (n : Nat) (nx : Nat → Nat → Bool) (g : Nat → Bool) (s : Nat) : Nat → Prop
  | start : Rch n nx g s s
  | step {u v : Nat} : Rch n nx g s u → nx u v = true → v < n → g v = false → Rch n nx g s v
/-- A component has been marked, of so many stones. -/
structure Comp (n : Nat) (nx : Nat → Nat → Bool) (g : Nat → Bool) (s : Nat) (g' : Nat → Bool) (c : Nat) : Prop where
  sub : ∀ v, g v = true → g' v = true
  st : g' s = true
  rch : ∀ v, g' v = true → g v = true ∨ Rch n nx g s v
  clo : ∀ v u, g' v = true → g v = false → nx v u = true → u < n → g' u = true
  num : cnt g' n = cnt g n + c
theorem Comp.of_rch {n : Nat} {nx : Nat → Nat → Bool} {g g' : Nat → Bool} {s c : Nat} (h : Comp n nx g s g' c) (hs : g s = false) : ∀ v, Rch n nx g s v → g' v = true ∧ g v = false := by
  intro v hv
  induction hv with
  | start => exact ⟨h.st, hs⟩
  | step hu hx hv hg ih => exact ⟨h.clo _ _ ih.1 ih.2 hx hv, hg⟩
theorem Comp.unique {n : Nat} {nx : Nat → Nat → Bool} {g g1 g2 : Nat → Bool} {s c1 c2 : Nat} (hs : g s = false) (h1 : Comp n nx g s g1 c1) (h2 : Comp n nx g s g2 c2) : g1 = g2 ∧ c1 = c2 := by
  have h : g1 = g2 := by
    funext v
    cases e1 : g1 v with
    | true =>
      rcases h1.rch v e1 with h | h
      · exact (h2.sub v h).symm
      · exact (h2.of_rch hs v h).1.symm
    | false =>
      cases e2 : g2 v with
      | false => rfl
      | true =>
        rcases h2.rch v e2 with h | h
        · rw [h1.sub v h] at e1; exact absurd e1 (by simp)
        · rw [(h1.of_rch hs v h).1] at e1; exact absurd e1 (by simp)
  refine ⟨h, ?_⟩
  have := h1.num
  have := h2.num
  subst h
  omega
theorem cnt_upd {n s : Nat} {g : Nat → Bool} (hs : s < n) (hg : g s = false) : cnt (upd g s true) n = cnt g n + 1 := by
  rw [cnt_out (p := upd g s true) (a := s) hs (by simp [upd])]
  congr 1
  refine cnt_congr (fun i hi => ?_)
  by_cases h : i = s
  · subst h; simp [hg]
  · simp [upd, h, beq_eq_false_iff_ne.mpr h]
theorem upd_is {f : Nat → Bool} {i : Nat} {v : Bool} : upd f i v i = v := by simp [upd]
theorem upd_no {f : Nat → Bool} {i j : Nat} {v : Bool} (h : j ≠ i) : upd f i v j = f j := by simp [upd, h]

/-- What the loop has done at t. -/
structure Part (n : Nat) (nx : Nat → Nat → Bool) (g : Nat → Bool) (s : Nat) (h : Nat → Bool) (c t : Nat) : Prop where
  sub : ∀ v, g v = true → h v = true
  st : h s = true
  rch : ∀ v, h v = true → g v = true ∨ Rch n nx g s v
  clo : ∀ v u, h v = true → g v = false → v ≠ s → nx v u = true → u < n → h u = true
  near : ∀ u, u < t → nx s u = true → h u = true
  num : cnt h n = cnt g n + c
theorem grp_ok {n : Nat} {nx : Nat → Nat → Bool} (hn : n ≤ 24) {rec_ : Nat → (Nat → Bool) → Option (Nat × (Nat → Bool))} {g : Nat → Bool} {s : Nat} (hgs : g s = false) (U : Nat)
    (hrec : ∀ t h, t < n → h t = false → n - cnt h n ≤ U → ∃ c h', rec_ t h = some (c, h') ∧ Comp n nx h t h' c) : ∀ (d t c : Nat) (h : Nat → Bool), t + d = n → n - cnt h n ≤ U → Part n nx g s h c t →
    ∃ c' h', grpL nx rec_ s d t c h = some (c', h') ∧ Comp n nx g s h' c'
  | 0, t, c, h, ht, hU, hP => ⟨c, h, rfl, hP.sub, hP.st, hP.rch, fun v u hv hg hx hu => by
      by_cases hvs : v = s
      · subst hvs; exact hP.near u (by omega) hx
      · exact hP.clo v u hv hg hvs hx hu, hP.num⟩
  | d + 1, t, c, h, ht, hU, hP => by
    simp only [grpL]
    by_cases hc : nx s t = true ∧ h t = false
    · rw [if_pos hc]
      obtain ⟨c1, h1, he, hC⟩ := hrec t h (by omega) hc.2 hU
      have hc1 : c1 ≤ 24 := by
        have := hC.num
        have := cnt_le h1 n
        omega
      have hcc : c ≤ 24 := by
        have := hP.num
        have := cnt_le h n
        omega
      rw [he, Option.bind_some, if_pos (by show c + c1 < 1000000; omega)]
      have hUU : n - cnt h1 n ≤ U := by have := hC.num; omega
      have hgt : g t = false := by
        cases hh : g t with
        | false => rfl
        | true => have := hP.sub t hh; rw [hc.2] at this; exact absurd this (by simp)
      have hRt : Rch n nx g s t := Rch.step Rch.start hc.1 (by omega) hgt
      have hR : ∀ v, Rch n nx h t v → Rch n nx g s v := by
        intro v hv
        induction hv with
        | start => exact hRt
        | step hu hx hv hg ih =>
          refine Rch.step ih hx hv ?_
          cases hh : g _ with
          | false => rfl
          | true => have := hP.sub _ hh; rw [hg] at this; exact absurd this (by simp)
      refine grp_ok hn hgs U hrec d (t + 1) (c + c1) h1 (by omega) hUU ⟨fun v hv => hC.sub v (hP.sub v hv), hC.sub s hP.st, fun v hv => ?_, fun v u hv hg hvs hx hu => ?_, fun u hu hx => ?_, ?_⟩
      · rcases hC.rch v hv with hh | hh
        · exact hP.rch v hh
        · exact Or.inr (hR v hh)
      · cases hh : h v with
        | true => exact hC.sub u (hP.clo v u hh hg hvs hx hu)
        | false => exact hC.clo v u hv hh hx hu
      · by_cases hut : u = t
        · subst hut; exact hC.st
        · exact hC.sub u (hP.near u (by omega) hx)
      · have := hC.num
        have := hP.num
        omega
    · rw [if_neg hc]
      refine grp_ok hn hgs U hrec d (t + 1) c h (by omega) hU ⟨hP.sub, hP.st, hP.rch, hP.clo, fun u hu hx => ?_, hP.num⟩
      by_cases hut : u = t
      · subst hut
        cases hh : h u with
        | true => rfl
        | false => exact absurd ⟨hx, hh⟩ hc
      · exact hP.near u (by omega) hx
theorem group_ok {n : Nat} {nx : Nat → Nat → Bool} (hn : n ≤ 24) : ∀ (k s : Nat) (g : Nat → Bool), s < n → g s = false → n - cnt g n ≤ k → ∃ c g', groupS n nx k s g = some (c, g') ∧ Comp n nx g s g' c
  | 0, s, g, hs, hg, hk => by
    have h1 := cnt_out (p := fun i => !g i) (a := s) hs (by show (!g s) = true; rw [hg]; rfl)
    have h2 := cnt_split (fun _ => true) g n
    rw [cnt_all] at h2
    simp only [Bool.true_and] at h2
    have h3 : cnt (fun i => g i) n = cnt g n := rfl
    omega
  | k + 1, s, g, hs, hg, hk => by
    simp only [groupS]
    rw [if_pos hs]
    have h1 := cnt_upd hs hg
    refine grp_ok hn hg k (fun t h ht hh hU => group_ok hn k t h ht hh hU) n 0 1 (upd g s true) (by omega) (by omega) ⟨fun v hv => ?_, upd_is, fun v hv => ?_, fun v u hv hgv hvs hx hu => ?_, fun u hu _ => absurd hu (by omega), h1⟩
    · by_cases h : v = s
      · subst h; exact upd_is
      · rw [upd_no h]; exact hv
    · by_cases h : v = s
      · subst h; exact Or.inr Rch.start
      · rw [upd_no h] at hv; exact Or.inl hv
    · rw [upd_no hvs, hgv] at hv
      exact absurd hv (by simp)
end Go.Proofs.Ythhgdndjnflklaa
