/- The way from an even stone to the root, flipped; a graph with a super root. No conditions. -/
import Derived.Test.YthhgdndjnflklaaEE
namespace Go.Proofs.Ythhgdndjnflklaa
set_option linter.unusedVariables false
set_option linter.unusedSimpArgs false
/-- A matching that misses an even stone and covers the root instead. -/
theorem FI.flip {n : Nat} {nx : Nat → Nat → Bool} {M : Nat → Nat} {root : Nat} {ρ : Nat → Nat} {pa : Nat → Int} {ba : Nat → Nat} {us : Nat → Bool} (hG : Gr n nx) (hM : Mat n nx M) (hroot : M root = n) (f : FI n nx M root ρ pa ba us)
    {x : Nat} (hx : us x = true) (hxr : x ≠ root) : ∃ N, Mat n nx N ∧ ∀ v, v < n → (N v < n ↔ (M v < n ∧ v ≠ x) ∨ v = root) := by
  obtain ⟨l, ht, hX⟩ := f.tr x hx
  have hus := f.used ht hx
  have hxn := f.ub x hx
  have hMx := f.mlt hx hxr
  have hback := hM.back x hxn hMx
  have hne := hM.ne hG hxn hMx
  have hp := (f.up x hx hxr).1
  obtain ⟨t, rfl⟩ := ht.head
  obtain ⟨_, h1⟩ := ht.inv rfl
  rcases h1 with ⟨_, h1⟩ | ⟨_, ht2⟩
  · exact absurd h1 hxr
  have hxt : x ∉ t := (List.nodup_cons.mp ht.nodup).1
  have hMxt : M x ∉ t := fun h => hX x List.mem_cons_self hxr (List.mem_cons_of_mem _ h)
  obtain ⟨M', _, h2, h3⟩ := aug_ok (Cv := fun v => M v < n ∧ v ≠ x) hG hM hroot (f.ub _ f.rt.1) t (t.length + 1) (M x) (upd M x n) (by omega) hMx hp ht2
    (fun z hz hr hm => hX z (List.mem_cons_of_mem _ hz) hr (List.mem_cons_of_mem _ hm)) (fun z hz => f.ub z (hus z (List.mem_cons_of_mem _ hz)))
    (fun z hz hr => by
      have hu := hus z (List.mem_cons_of_mem _ hz)
      have h4 := f.mlt hu hr
      have h5 := (f.up z hu hr).1
      exact ⟨h4, h5, (f.adj _ h4 h5).2.2.2⟩) (f.adj _ hMx hp).2.2.2 hMxt (fun z hz => upd_no_ (fun e => hxt (e ▸ hz))) ⟨by rw [hback]; exact hxn, hne⟩
    (fun v hv hvw => by
      by_cases hvx : v = x
      · rw [hvx, upd_is_]
        exact ⟨Nat.le_refl _, fun h => absurd h (Nat.lt_irrefl _)⟩
      · rw [upd_no_ hvx]
        refine ⟨hM.le v hv, fun hlt => ?_⟩
        have h4 := hM.back v hv hlt
        have h5 : M v ≠ x := fun e => hvw (by rw [← e, h4])
        have h6 : M v ≠ M x := fun e => hvx (hM.inj hv hxn hlt e)
        rw [upd_no_ h5]
        exact ⟨h6, h4, hM.near v hv hlt⟩)
    (fun v hv hvw => by
      by_cases hvx : v = x
      · rw [hvx, upd_is_]
        exact ⟨fun h => absurd h (Nat.lt_irrefl _), fun h => absurd rfl h.2⟩
      · rw [upd_no_ hvx]
        exact ⟨fun h => ⟨h, hvx⟩, fun h => h.1⟩)
  exact ⟨M', h2, h3⟩
/-- The graph with a super root n, and a stone n + 1 + j between it and each single stone j. -/
def sgE (n : Nat) (nx : Nat → Nat → Bool) (M : Nat → Nat) (x y : Nat) : Bool :=
  if x < n ∧ y < n then nx x y else (decide (x = n) && (decide (n < y ∧ y < 2 * n + 1) && (M (y - (n + 1)) == n))) || (decide (x < n) && (decide (y = n + 1 + x) && (M x == n)))
def sg (n : Nat) (nx : Nat → Nat → Bool) (M : Nat → Nat) (x y : Nat) : Bool := if x < n ∧ y < n then nx x y else sgE n nx M x y || sgE n nx M y x
def sgM (n : Nat) (M : Nat → Nat) (v : Nat) : Nat :=
  if v < n then (if M v < n then M v else n + 1 + v) else if v = n then 2 * n + 1 else if M (v - (n + 1)) = n then v - (n + 1) else 2 * n + 1
section
variable {n : Nat} {nx : Nat → Nat → Bool} {M : Nat → Nat}
theorem sg_old {x y : Nat} (hx : x < n) (hy : y < n) : sg n nx M x y = nx x y := if_pos ⟨hx, hy⟩
theorem sg_root {y : Nat} : sg n nx M n y = true ↔ ∃ j, j < n ∧ M j = n ∧ y = n + 1 + j := by
  unfold sg sgE
  rw [if_neg (fun h => Nat.lt_irrefl _ h.1), if_neg (fun h => Nat.lt_irrefl _ h.1), if_neg (fun h => Nat.lt_irrefl _ h.2)]
  simp only [Bool.or_eq_true, Bool.and_eq_true, decide_eq_true_eq, beq_iff_eq]
  constructor
  · rintro ((⟨_, ⟨h1, h2⟩, h3⟩ | ⟨h1, _⟩) | (⟨_, ⟨h1, _⟩, _⟩ | ⟨h1, h2, _⟩))
    · exact ⟨y - (n + 1), by omega, h3, by omega⟩
    · omega
    · omega
    · omega
  · rintro ⟨j, h1, h2, rfl⟩
    refine Or.inl (Or.inl ⟨by first | trivial | rfl, ⟨by omega, by omega⟩, ?_⟩)
    rw [show n + 1 + j - (n + 1) = j by omega]
    exact h2
theorem sg_leg {x j : Nat} (hj : j < n) : sg n nx M x (n + 1 + j) = true ↔ M j = n ∧ (x = n ∨ x = j) := by
  unfold sg sgE
  rw [if_neg (fun h => by omega), if_neg (fun h => by omega), if_neg (fun h => by omega)]
  simp only [Bool.or_eq_true, Bool.and_eq_true, decide_eq_true_eq, beq_iff_eq]
  rw [show n + 1 + j - (n + 1) = j by omega]
  constructor
  · rintro ((⟨h0, ⟨h1, h2⟩, h3⟩ | ⟨h1, h2, h3⟩) | (⟨h0, _⟩ | ⟨h1, h2, _⟩))
    · exact ⟨h3, Or.inl h0⟩
    · have : x = j := by omega
      exact ⟨this ▸ h3, Or.inr this⟩
    · omega
    · omega
  · rintro ⟨h1, h2 | h2⟩
    · exact Or.inl (Or.inl ⟨h2, ⟨by omega, by omega⟩, h1⟩)
    · exact Or.inl (Or.inr ⟨by omega, by omega, by rw [h2]; exact h1⟩)
theorem sg_gr (hG : Gr n nx) : Gr (2 * n + 1) (sg n nx M) := by
  refine ⟨fun a b => ?_, fun a => ?_⟩
  · unfold sg
    by_cases h : a < n ∧ b < n
    · rw [if_pos h, if_pos ⟨h.2, h.1⟩, hG.sym]
    · rw [if_neg h, if_neg (fun hh => h ⟨hh.2, hh.1⟩), Bool.or_comm]
  · by_cases h : a < n
    · rw [sg_old h h, hG.irr]
    · cases hh : sg n nx M a a with
      | false => rfl
      | true =>
        by_cases h2 : a = n
        · rw [h2] at hh
          obtain ⟨j, h3, h4, h5⟩ := sg_root.mp hh
          omega
        · by_cases h3 : a < 2 * n + 1
          · have h4 : a = n + 1 + (a - (n + 1)) := by omega
            rw [h4] at hh
            obtain ⟨_, h5⟩ := (sg_leg (by omega)).mp hh
            omega
          · unfold sg sgE at hh
            rw [if_neg (fun h => by omega), if_neg (fun h => by omega)] at hh
            simp only [Bool.or_eq_true, Bool.and_eq_true, decide_eq_true_eq] at hh
            omega
theorem sgM_old {v : Nat} (h : v < n) (h2 : M v < n) : sgM n M v = M v := by
  unfold sgM
  rw [if_pos h, if_pos h2]
theorem sgM_one {v : Nat} (h : v < n) (h2 : ¬ M v < n) : sgM n M v = n + 1 + v := by
  unfold sgM
  rw [if_pos h, if_neg h2]
theorem sgM_root : sgM n M n = 2 * n + 1 := by
  unfold sgM
  rw [if_neg (Nat.lt_irrefl _), if_pos rfl]
theorem sgM_leg {j : Nat} (h : M j = n) : sgM n M (n + 1 + j) = j := by
  unfold sgM
  rw [if_neg (by omega), if_neg (by omega), show n + 1 + j - (n + 1) = j by omega, if_pos h]
theorem sgM_off {j : Nat} (h : M j ≠ n) : sgM n M (n + 1 + j) = 2 * n + 1 := by
  unfold sgM
  rw [if_neg (by omega), if_neg (by omega), show n + 1 + j - (n + 1) = j by omega, if_neg h]
theorem sg_mat (hG : Gr n nx) (hM : Mat n nx M) : Mat (2 * n + 1) (sg n nx M) (sgM n M) := by
  have cases3 : ∀ v, v < 2 * n + 1 → (v < n ∧ M v < n) ∨ (v < n ∧ M v = n) ∨ v = n ∨ ∃ j, j < n ∧ v = n + 1 + j := fun v hv => by
    by_cases h1 : v < n
    · have := hM.le v h1
      by_cases h2 : M v < n
      · exact Or.inl ⟨h1, h2⟩
      · exact Or.inr (Or.inl ⟨h1, by omega⟩)
    · by_cases h2 : v = n
      · exact Or.inr (Or.inr (Or.inl h2))
      · exact Or.inr (Or.inr (Or.inr ⟨v - (n + 1), by omega, by omega⟩))
  refine ⟨fun v hv => ?_, fun v hv hlt => ?_, fun v hv hlt => ?_⟩
  · rcases cases3 v hv with ⟨h1, h2⟩ | ⟨h1, h2⟩ | rfl | ⟨j, h1, rfl⟩
    · rw [sgM_old h1 h2]; omega
    · rw [sgM_one h1 (by omega)]; omega
    · rw [sgM_root]; exact Nat.le_refl _
    · by_cases h2 : M j = n
      · rw [sgM_leg h2]; omega
      · rw [sgM_off h2]; exact Nat.le_refl _
  · rcases cases3 v hv with ⟨h1, h2⟩ | ⟨h1, h2⟩ | rfl | ⟨j, h1, rfl⟩
    · rw [sgM_old h1 h2, sgM_old h2 (by rw [hM.back v h1 h2]; exact h1), hM.back v h1 h2]
    · rw [sgM_one h1 (by omega), sgM_leg h2]
    · rw [sgM_root] at hlt; omega
    · by_cases h2 : M j = n
      · rw [sgM_leg h2, sgM_one h1 (by omega)]
      · rw [sgM_off h2] at hlt; omega
  · rcases cases3 v hv with ⟨h1, h2⟩ | ⟨h1, h2⟩ | rfl | ⟨j, h1, rfl⟩
    · rw [sgM_old h1 h2, sg_old h1 h2]; exact hM.near v h1 h2
    · rw [sgM_one h1 (by omega)]; exact (sg_leg h1).mpr ⟨h2, Or.inr rfl⟩
    · rw [sgM_root] at hlt; omega
    · by_cases h2 : M j = n
      · rw [sgM_leg h2, (sg_gr hG).sym]; exact (sg_leg h1).mpr ⟨h2, Or.inr rfl⟩
      · rw [sgM_off h2] at hlt; omega
end
end Go.Proofs.Ythhgdndjnflklaa
