/- Settle and the reference agree. Plain. No conditions. -/
import Derived.Test.YtnbdfmdjedakcaaF7
namespace Go.Proofs.Ytnbdfmdjedakcaa
open Go.RowKit Go.Proofs.YtnbdfmdjedakcaaW.PrintWords Go.Proofs.YtnbdfmdjedakcaaW.PrintLast Go.Proofs.YtnbdfmdjedakcaaW.PrintMore PP
set_option linter.unusedVariables false
set_option linter.unusedSimpArgs false
def hiR (l : List S38) (z : Int) (i : Nat) : Bool := decide ((qAt l i).f1 ≥ z)
theorem hIn_form (l : List S38) (i : Nat) (c : Nat → Nat → Int) : ∀ k u v, hIn l i c k u v = if u = i ∧ v < k ∧ i ≠ v ∧ belowG (qAt l i).f0 (qAt l v).f0 = true then 1099511627776 else c u v
  | 0, u, v => by rw [if_neg (fun h => by omega)]; rfl
  | k + 1, u, v => by
    rw [hIn]
    by_cases e : i ≠ k ∧ belowG (qAt l i).f0 (qAt l k).f0 = true
    · rw [if_pos e]
      unfold put2'
      by_cases e2 : u = i ∧ v = k
      · rw [if_pos e2, if_pos ⟨e2.1, by omega, by rw [e2.2]; exact e.1, by rw [e2.2]; exact e.2⟩]
      · rw [if_neg e2, hIn_form l i c k u v]
        by_cases e3 : u = i ∧ v < k ∧ i ≠ v ∧ belowG (qAt l i).f0 (qAt l v).f0 = true
        · rw [if_pos e3, if_pos ⟨e3.1, by omega, e3.2.2⟩]
        · rw [if_neg e3, if_neg (fun h => e3 ⟨h.1, by have := h.2.1; have : v ≠ k := fun e4 => e2 ⟨h.1, e4⟩; omega, h.2.2⟩)]
    · rw [if_neg e, hIn_form l i c k u v]
      by_cases e3 : u = i ∧ v < k ∧ i ≠ v ∧ belowG (qAt l i).f0 (qAt l v).f0 = true
      · rw [if_pos e3, if_pos ⟨e3.1, by omega, e3.2.2⟩]
      · rw [if_neg e3, if_neg (fun h => e3 ⟨h.1, by
          have h1 := h.2.1
          have : v ≠ k := fun e4 => e (by rw [← e4]; exact h.2.2)
          omega, h.2.2⟩)]
theorem hOut_form (l : List S38) (z : Int) : ∀ i, i ≤ l.length → ∀ u v, hOut l z i u v = if u = l.length then (if v < i ∧ hiR l z v = true then wA l v else 0) else if v = l.length + 1 then (if u < i ∧ hiR l z u = false then wA l u else 0) else if u < i ∧ v < l.length ∧ u ≠ v ∧ bA l u v = true then 1099511627776 else 0
  | 0, _, u, v => by
    show (0 : Int) = _
    rw [if_neg (fun h => by omega : ¬ (v < 0 ∧ hiR l z v = true)), if_neg (fun h => by omega : ¬ (u < 0 ∧ hiR l z u = false)), if_neg (fun h => by omega : ¬ (u < 0 ∧ v < l.length ∧ u ≠ v ∧ bA l u v = true))]
    split <;> (try split) <;> rfl
  | i + 1, hi, u, v => by
    have ih := hOut_form l z i (by omega)
    rw [hOut, hIn_form]
    have hf : ∀ a b, hFirst l z i (hOut l z i) a b = if (qAt l i).f1 ≥ z then (if a = l.length ∧ b = i then wA l i else hOut l z i a b) else (if a = i ∧ b = l.length + 1 then wA l i else hOut l z i a b) := fun a b => by
      unfold hFirst put2' wA; split <;> rfl
    rw [hf, ih u v]
    have ho : hiR l z i = true ↔ (qAt l i).f1 ≥ z := by unfold hiR; exact decide_eq_true_iff
    have ho2 : hiR l z i = false ↔ ¬ (qAt l i).f1 ≥ z := by unfold hiR; exact decide_eq_false_iff_not
    by_cases hu : u = l.length
    · subst hu
      rw [if_neg (fun h => by omega : ¬ (l.length = i ∧ v < l.length ∧ i ≠ v ∧ belowG (qAt l i).f0 (qAt l v).f0 = true)), if_pos rfl, if_pos rfl]
      by_cases hp : (qAt l i).f1 ≥ z
      · rw [if_pos hp]
        by_cases e : v = i
        · subst e
          rw [if_pos ⟨rfl, rfl⟩, if_pos ⟨by omega, ho.2 hp⟩]
        · rw [if_neg (fun h => e h.2)]
          by_cases e2 : v < i ∧ hiR l z v = true
          · rw [if_pos e2, if_pos ⟨by omega, e2.2⟩]
          · rw [if_neg e2, if_neg (fun h => e2 ⟨by omega, h.2⟩)]
      · rw [if_neg hp, if_neg (fun h => by omega : ¬ (l.length = i ∧ v = l.length + 1))]
        by_cases e2 : v < i ∧ hiR l z v = true
        · rw [if_pos e2, if_pos ⟨by omega, e2.2⟩]
        · rw [if_neg e2, if_neg (fun h => e2 ⟨by
            have : v ≠ i := fun e => hp (ho.1 (by rw [← e]; exact h.2))
            omega, h.2⟩)]
    · rw [if_neg hu, if_neg hu]
      by_cases hv : v = l.length + 1
      · subst hv
        rw [if_neg (fun h => by omega : ¬ (u = i ∧ l.length + 1 < l.length ∧ i ≠ l.length + 1 ∧ belowG (qAt l i).f0 (qAt l (l.length + 1)).f0 = true)), if_pos rfl, if_pos rfl]
        by_cases hp : (qAt l i).f1 ≥ z
        · rw [if_pos hp, if_neg (fun h => hu h.1)]
          by_cases e2 : u < i ∧ hiR l z u = false
          · rw [if_pos e2, if_pos ⟨by omega, e2.2⟩]
          · rw [if_neg e2, if_neg (fun h => e2 ⟨by
              have : u ≠ i := fun e => absurd hp (ho2.1 (by rw [← e]; exact h.2))
              omega, h.2⟩)]
        · rw [if_neg hp]
          by_cases e : u = i
          · subst e
            rw [if_pos ⟨rfl, rfl⟩, if_pos ⟨by omega, ho2.2 hp⟩]
          · rw [if_neg (fun h => e h.1)]
            by_cases e2 : u < i ∧ hiR l z u = false
            · rw [if_pos e2, if_pos ⟨by omega, e2.2⟩]
            · rw [if_neg e2, if_neg (fun h => e2 ⟨by omega, h.2⟩)]
      · rw [if_neg hv, if_neg hv]
        have e0 : (if (qAt l i).f1 ≥ z then (if u = l.length ∧ v = i then wA l i else if u < i ∧ v < l.length ∧ u ≠ v ∧ bA l u v = true then (1099511627776 : Int) else 0) else (if u = i ∧ v = l.length + 1 then wA l i else if u < i ∧ v < l.length ∧ u ≠ v ∧ bA l u v = true then 1099511627776 else 0)) = if u < i ∧ v < l.length ∧ u ≠ v ∧ bA l u v = true then 1099511627776 else 0 := by
          rw [if_neg (fun h => hu h.1 : ¬ (u = l.length ∧ v = i)), if_neg (fun h => hv h.2 : ¬ (u = i ∧ v = l.length + 1))]
          split <;> rfl
        rw [e0]
        by_cases e : u = i ∧ v < l.length ∧ i ≠ v ∧ belowG (qAt l i).f0 (qAt l v).f0 = true
        · rw [if_pos e, if_pos ⟨by omega, e.2.1, by rw [e.1]; exact e.2.2.1, by rw [e.1]; exact e.2.2.2⟩]
        · rw [if_neg e]
          by_cases e2 : u < i ∧ v < l.length ∧ u ≠ v ∧ bA l u v = true
          · rw [if_pos e2, if_pos ⟨by omega, e2.2⟩]
          · rw [if_neg e2, if_neg (fun h => by
              by_cases e3 : u = i
              · exact e ⟨e3, h.2.1, by rw [← e3]; exact h.2.2.1, by rw [← e3]; exact h.2.2.2⟩
              · exact e2 ⟨by omega, h.2⟩)]
theorem sm_bound {f : Nat → Int} {K : Int} : ∀ n, (∀ i, i < n → f i ≤ K) → sm n f ≤ K * n
  | 0, _ => by simp [sm]
  | n + 1, h => by
    have ih := sm_bound n (fun i hi => h i (by omega))
    have h1 := h n (by omega)
    rw [sm]
    have : K * ((n + 1 : Nat) : Int) = K * n + K := by rw [Int.natCast_add, Int.mul_add]; simp
    omega
section
variable {l : List S38} (hok : ∀ i, i < l.length → okQ (qA l i)) (hn : l.length ≤ 24)
include hok in
theorem wA_pos (i : Nat) (hi : i < l.length) : 1 ≤ wA l i ∧ wA l i ≤ 1048576 := by
  obtain ⟨_, _, _, h3, h4⟩ := hok i hi
  exact ⟨h3, h4⟩
include hok in
theorem net_range {s t : Nat} {hi : Nat → Bool} {inf : Int} (h0 : 0 ≤ inf) (h1 : inf ≤ 1152921504606846976) (h2 : 1048576 ≤ inf) (u v : Nat) : 0 ≤ netC l.length s t hi (wA l) (bA l) inf u v ∧ netC l.length s t hi (wA l) (bA l) inf u v ≤ 1152921504606846976 := by
  unfold netC
  split
  · split
    · next h => have := wA_pos hok v h.1; omega
    · omega
  · split
    · split
      · next h => have := wA_pos hok u h.1; omega
      · omega
    · split <;> omega
include hok hn in
theorem wA_sum {inf : Int} (h : 1099511627776 ≤ inf) : sm l.length (wA l) < inf := by
  have := sm_bound (f := wA l) (K := 1048576) l.length (fun i hi => (wA_pos hok i hi).2)
  omega
include hok hn in
theorem low_grade (z : Int) : ∃ F, (∃ f r2, fullN 26 24 25 1152921504606846976 f (gOut l z l.length) = some (F, r2)) ∧ LowS l.length (overB (prA l) z) (wA l) (bA l) (nz F) := by
  have e : gOut l z l.length = netC l.length 24 25 (overB (prA l) z) (wA l) (bA l) 1152921504606846976 := by
    funext u v
    rw [gOut_form l hn z l.length (Nat.le_refl _) u v]
    rfl
  have hr : ∀ u v, 0 ≤ netC l.length 24 25 (overB (prA l) z) (wA l) (bA l) 1152921504606846976 u v ∧ netC l.length 24 25 (overB (prA l) z) (wA l) (bA l) 1152921504606846976 u v ≤ 1152921504606846976 := net_range hok (by omega) (by omega) (by omega)
  rw [e]
  obtain ⟨F, r2, h1, h2, h3⟩ := full_ok (N := 26) (s := 24) (t := 25) (c := netC l.length 24 25 (overB (prA l) z) (wA l) (bA l) 1152921504606846976) (fun x y _ _ => by have := hr x y; have := hr y x; omega) (by omega) (by omega) (by omega) (by omega) 1152921504606846976 (by omega) ((rowS 26 (netC l.length 24 25 (overB (prA l) z) (wA l) (bA l) 1152921504606846976) 24).toNat + 1) _ (Res.start (fun u v _ _ => (hr u v).1)) (by omega)
  exact ⟨F, ⟨_, r2, h1⟩, net_low hn (by omega) (by omega) (by omega) (by omega) (by omega) (fun i hi => by have := wA_pos hok i hi; omega) (wA_sum hok hn (by omega)) h2⟩
include hok hn in
theorem low_ref (z : Int) : ∃ S, (∃ f r2 f2, fullR (l.length + 2) l.length (l.length + 1) f (hOut l z l.length) = some r2 ∧ snN (l.length + 2) r2 f2 (upd (fun _ => false) l.length true) = some S) ∧ LowS l.length (hiR l z) (wA l) (bA l) S := by
  have e : hOut l z l.length = netC l.length l.length (l.length + 1) (hiR l z) (wA l) (bA l) 1099511627776 := by
    funext u v
    rw [hOut_form l z l.length (Nat.le_refl _) u v]
    rfl
  have hr : ∀ u v, 0 ≤ netC l.length l.length (l.length + 1) (hiR l z) (wA l) (bA l) 1099511627776 u v ∧ netC l.length l.length (l.length + 1) (hiR l z) (wA l) (bA l) 1099511627776 u v ≤ 1152921504606846976 := net_range hok (by omega) (by omega) (by omega)
  rw [e]
  obtain ⟨r2, h1, h2, h3⟩ := fullR_ok (N := l.length + 2) (s := l.length) (t := l.length + 1) (c := netC l.length l.length (l.length + 1) (hiR l z) (wA l) (bA l) 1099511627776) (fun x y _ _ => by have := hr x y; have := hr y x; omega) (by omega) (by omega) (by omega) (by omega) ((rowS (l.length + 2) (netC l.length l.length (l.length + 1) (hiR l z) (wA l) (bA l) 1099511627776) l.length).toNat + 1) _ (Res.start (fun u v _ _ => (hr u v).1)) (by omega)
  have only : ∀ v, upd (fun _ => false) l.length true v = true → v = l.length := fun v hv => by
    unfold upd at hv
    split at hv
    · next h => exact h
    · exact absurd hv (by simp)
  obtain ⟨S, h4, h5⟩ := snN_ok (N := l.length + 2) (s := l.length) (r := r2) (by omega) (l.length + 3) (upd (fun _ => false) l.length true) (fun v _ hv => by rw [only v hv]; exact .base) (upd_same _ _ _) (by omega)
  refine ⟨S, ⟨_, r2, _, h1, h4⟩, net_low (Nat.le_refl _) (by omega) (by omega) (by omega) (by omega) (by omega) (fun i hi => by have := wA_pos hok i hi; omega) (wA_sum hok hn (by omega)) (h2.low (by omega) (fun u hu => h5 u hu) ?_)⟩
  cases h6 : S (l.length + 1)
  · rfl
  · exact absurd ((h5 _ (by omega)).1 h6) h3
end
/-- What is above a price. -/
noncomputable def FFof (l : List S38) (z : Int) : Nat → Int := Classical.epsilon (fun F => (∃ f r2, fullN 26 24 25 1152921504606846976 f (gOut l z l.length) = some (F, r2)) ∧ LowS l.length (overB (prA l) z) (wA l) (bA l) (nz F))
noncomputable def SSof (l : List S38) (z : Int) : Nat → Bool := Classical.epsilon (fun S => (∃ f r2 f2, fullR (l.length + 2) l.length (l.length + 1) f (hOut l z l.length) = some r2 ∧ snN (l.length + 2) r2 f2 (upd (fun _ => false) l.length true) = some S) ∧ LowS l.length (hiR l z) (wA l) (bA l) S)
noncomputable def fitF (l : List S38) : Nat → Int := ftOut l.length (psS l) (FFof l) (psS l).length
noncomputable def lossOf (l : List S38) : Int := lossF l (fitF l) l.length
theorem ftIn_form (ps : List Int) (F : Nat → Int) (m : Nat) (f : Nat → Int) (i : Nat) : ∀ k, ftIn ps F m f k i = if i < k then (if F i ≠ 0 ∧ m + 1 < ps.length then ps.getD (m + 1) 0 else if m = 0 then ps.getD m 0 else f i) else f i
  | 0 => by rw [if_neg (by omega)]; rfl
  | k + 1 => by
    have ih := ftIn_form ps F m f i k
    rw [ftIn]
    by_cases e : i = k
    · subst e
      rw [if_neg (by omega)] at ih
      rw [if_pos (show i < i + 1 by omega)]
      by_cases h1 : F i ≠ 0 ∧ m + 1 < ps.length
      · rw [if_pos h1, if_pos h1, upd_same]
      · rw [if_neg h1, if_neg h1]
        by_cases h2 : m = 0
        · rw [if_pos h2, if_pos h2, upd_same]
        · rw [if_neg h2, if_neg h2, ih]
    · have e1 : (if F k ≠ 0 ∧ m + 1 < ps.length then upd (ftIn ps F m f k) k (ps.getD (m + 1) 0) else if m = 0 then upd (ftIn ps F m f k) k (ps.getD m 0) else ftIn ps F m f k) i = ftIn ps F m f k i := by
        split
        · rw [upd_ne _ _ e]
        · split
          · rw [upd_ne _ _ e]
          · rfl
      rw [e1, ih]
      by_cases h : i < k
      · rw [if_pos h, if_pos (show i < k + 1 by omega)]
      · rw [if_neg h, if_neg (show ¬ i < k + 1 by omega)]
theorem ftOut_form (l : List S38) (i : Nat) (hi : i < l.length) : ∀ m, ftOut l.length (psS l) (FFof l) m i = fitG (pA l) (psS l).length (fun q => nz (FFof l (pA l q))) m i
  | 0 => rfl
  | m + 1 => by
    rw [ftOut, ftIn_form, if_pos hi, fitG, ftOut_form l i hi m]
    have e : (nz (FFof l (pA l m)) i = true ∧ m + 1 < (psS l).length) ↔ (FFof l ((psS l).getD m 0) i ≠ 0 ∧ m + 1 < (psS l).length) := by
      unfold nz pA; rw [decide_eq_true_iff]
    by_cases h : FFof l ((psS l).getD m 0) i ≠ 0 ∧ m + 1 < (psS l).length
    · rw [if_pos h, if_pos (e.2 h)]; rfl
    · rw [if_neg h, if_neg (fun hh => h (e.1 hh))]
      by_cases h2 : m = 0
      · subst h2; rfl
      · rw [if_neg h2, if_neg h2]
section
variable {l : List S38} (hok : ∀ i, i < l.length → okQ (qA l i)) (hn : l.length ≤ 24)
include hok hn in
theorem FF_spec (z : Int) : (∃ f r2, fullN 26 24 25 1152921504606846976 f (gOut l z l.length) = some (FFof l z, r2)) ∧ LowS l.length (overB (prA l) z) (wA l) (bA l) (nz (FFof l z)) := Classical.epsilon_spec (low_grade hok hn z)
include hok hn in
theorem SS_spec (z : Int) : (∃ f r2 f2, fullR (l.length + 2) l.length (l.length + 1) f (hOut l z l.length) = some r2 ∧ snN (l.length + 2) r2 f2 (upd (fun _ => false) l.length true) = some (SSof l z)) ∧ LowS l.length (hiR l z) (wA l) (bA l) (SSof l z) := Classical.epsilon_spec (low_ref hok hn z)
include hok hn in
/-- Settle's numbers: each is one of the prices; above each price stands the least of the cheapest. -/
theorem fitF_low (z : Int) : LowS l.length (overB (prA l) z) (wA l) (bA l) (overB (fitF l) z) := by
  by_cases h0 : 0 < l.length
  · have h := fitG_low (w := wA l) (b := bA l) (prices_ok l h0) (fun i hi => by have := wA_pos hok i hi; omega) (ins := fun q => nz (FFof l (pA l q))) (fun m _ => (FF_spec hok hn (pA l m)).2) z
    refine h.congr (fun i hi => rfl) (fun i hi => ?_)
    unfold overB fitF
    rw [ftOut_form l i hi]
  · exact ⟨fun i j hi => by omega, fun V _ => by
      have : l.length = 0 := by omega
      unfold costS; rw [this]; exact Int.le_refl _, fun V _ _ i hi => by omega⟩
theorem fitF_price (i : Nat) (hi : i < l.length) : ∃ k, k < l.length ∧ fitF l i = prA l k := by
  unfold fitF
  rw [ftOut_form l i hi]
  obtain ⟨a, ha, e⟩ := fitG_range (prices_ok l (by omega)) (fun q => nz (FFof l (pA l q))) i
  rw [e]
  exact (psS_mem l _).1 (pA_mem l ha)
include hok in
theorem fitF_range (i : Nat) (hi : i < l.length) : 0 ≤ fitF l i ∧ fitF l i ≤ 1073741824 := by
  obtain ⟨k, hk, e⟩ := fitF_price i hi
  obtain ⟨_, h1, h2, _⟩ := hok k hk
  rw [e]
  exact ⟨h1, h2⟩
include hok hn in
/-- The reference's set at a price is that of the numbers that reach it. -/
theorem SS_fit (v : Int) (i : Nat) (hi : i < l.length) : SSof l v i = decide (fitF l i ≥ v) := by
  have h1 := (SS_spec hok hn v).2
  have h2 := (fitF_low hok hn (v - 1)).congr (hi' := hiR l v) (U' := fun i => decide (fitF l i ≥ v)) (fun i _ => by
    unfold overB hiR prA; rw [decide_eq_decide]; omega) (fun i _ => by unfold overB; rw [decide_eq_decide]; omega)
  exact h1.one h2 hi
end
end Go.Proofs.Ytnbdfmdjedakcaa
