/- The reference's rounds: the search ends where the sink is reached. Plain. No conditions. -/
import Derived.Test.YtnbdfmdjedakcaaF5
namespace Go.Proofs.Ytnbdfmdjedakcaa
set_option linter.unusedVariables false
def bfsE (N : Nat) (r : Nat → Nat → Int) (t : Nat) : Nat → (Nat → Int) → List Int → Option (Nat → Int)
  | 0, _, _ => none
  | f + 1, F, q => if F t ≠ 0 then some F else match q with
    | [] => some F
    | x :: q => if 0 ≤ x ∧ x < N ∧ q.length ≤ 1000000 then bfsE N r t f (bf1 r x.toNat (F, q) N).1 (bf1 r x.toNat (F, q) N).2 else none
/-- One call of push: what went through, and the rooms that are left. -/
def pushR (N s t : Nat) (r : Nat → Nat → Int) : Option (Int × (Nat → Nat → Int)) :=
  match bfsE N r t (N + 2) (upd (fun _ => 0) s ((s : Int) + 1)) [(s : Int)] with
  | none => none
  | some F => if F t = 0 then some (0, r) else match leastP F r s N (N + 1) t 1099511627776 with
    | none => none
    | some L => match pushP F s N L (N + 1) t r with
      | none => none
      | some r2 => some (L, r2)
/-- As often as something goes through. -/
def fullR (N s t : Nat) : Nat → (Nat → Nat → Int) → Option (Nat → Nat → Int)
  | 0, _ => none
  | f + 1, r => match pushR N s t r with
    | none => none
    | some (m, r2) => if m > 0 then fullR N s t f r2 else some r2
section
variable {N s t : Nat} {r c : Nat → Nat → Int}
theorem bfsE_inv (hN : N ≤ 1000000) : ∀ f F q p cur rk, BI N r s p cur N F q rk → N < f + p → ∃ F' q' p' cur' rk', bfsE N r t f F q = some F' ∧ BI N r s p' cur' N F' q' rk' ∧ (F' t = 0 → q' = []) := by
  intro f
  induction f with
  | zero =>
    intro F q p cur rk h hf
    have := h.g
    have := card_le N (nz F)
    omega
  | succ f ih =>
    intro F q p cur rk h hf
    by_cases hF : F t = 0
    · cases q with
      | nil => exact ⟨F, [], p, cur, rk, by rw [bfsE, if_neg (fun hh => hh hF)], h, fun _ => rfl⟩
      | cons y q =>
        obtain ⟨x, rfl, hx, hFx⟩ := h.qs y List.mem_cons_self
        have hg := h.g
        have hle := card_le N (nz F)
        rw [List.length_cons] at hg
        rw [bfsE, if_neg (fun hh => hh hF)]
        rw [if_pos ⟨by omega, by omega, by omega⟩, Int.toNat_natCast]
        have h1 : BI N r s (p + 1) x 0 F q rk := by
          refine ⟨h.rg, h.up, h.rc, h.fs, fun z hz hF => ?_, fun z hz => h.qs z (List.mem_cons_of_mem _ hz), h.lt, by omega⟩
          rcases h.don z hz hF with h1 | ⟨_, h1⟩ | h1
          · rcases List.mem_cons.1 h1 with h2 | h2
            · exact .inr (.inl ⟨by omega, fun k hk => by omega⟩)
            · exact .inl h2
          · exact .inr (.inr h1)
          · exact .inr (.inr h1)
        obtain ⟨rk', h2, _⟩ := bf1_inv hx hFx h1 N (Nat.le_refl _)
        exact ih _ _ _ _ _ h2 (by omega)
    · exact ⟨F, q, p, cur, rk, by cases q <;> rw [bfsE, if_pos hF], h, fun h9 => absurd h9 hF⟩
theorem bfsE_tree (hN : N ≤ 1000000) (hs : s < N) (t : Nat) : ∃ F rk, bfsE N r t (N + 2) (upd (fun _ => 0) s ((s : Int) + 1)) [(s : Int)] = some F ∧ Tr N r s F rk ∧ (∀ v, v < N → F v ≠ 0 → rk v < N + 1) ∧ (F t = 0 → ∀ v, v < N → (F v ≠ 0 ↔ Rch N r s v)) := by
  have sm : upd (fun _ => (0 : Int)) s ((s : Int) + 1) s = (s : Int) + 1 := upd_same _ _ _
  have ot : ∀ v, v ≠ s → upd (fun _ => (0 : Int)) s ((s : Int) + 1) v = 0 := fun v hv => upd_ne _ _ hv
  have cz : card N (fun _ => false) = 0 := by
    have : ∀ n, card n (fun _ : Nat => false) = 0 := fun n => by
      induction n with
      | zero => rfl
      | succ n ih => rw [card, ih]; rfl
    exact this N
  have c1 := card_one (n := N) (P := fun _ => false) (Q := nz (upd (fun _ => (0 : Int)) s ((s : Int) + 1))) hs rfl (by unfold nz; rw [sm]; exact decide_eq_true (by omega)) (fun x _ hne => by unfold nz; rw [ot x hne]; rfl)
  have only : ∀ v, upd (fun _ => (0 : Int)) s ((s : Int) + 1) v ≠ 0 → v = s := fun v hv => Classical.byContradiction fun e => hv (ot v e)
  have h0 : BI N r s 0 s N (upd (fun _ => 0) s ((s : Int) + 1)) [(s : Int)] (fun _ => 0) := by
    refine ⟨fun v hv => ?_, fun v _ hvs hF => absurd (only v hF) hvs, fun v _ hF => by rw [only v hF]; exact .base, by rw [sm]; omega, fun u _ hF => .inl (by rw [only u hF]; simp), fun y hy => ⟨s, List.mem_singleton.1 hy, hs, by rw [sm]; omega⟩, fun v _ _ => by omega, by rw [c1, cz]; rfl⟩
    by_cases e : v = s
    · subst e; rw [sm]; omega
    · rw [ot v e]; omega
  obtain ⟨F, q, p, cur, rk, h1, h2, h9⟩ := bfsE_inv (t := t) hN (N + 2) _ _ _ _ _ h0 (by omega)
  refine ⟨F, fun v => card N (fun u => nz F u && decide (rk u < rk v)), h1, ⟨h2.rg, fun v hv hvs hF => ?_⟩, fun v _ _ => by have := card_le N (fun u => nz F u && decide (rk u < rk v)); show card N _ < _; omega, fun h0 v hv => ⟨h2.rc v hv, fun hr => ?_⟩⟩
  · obtain ⟨a1, a2, a3⟩ := h2.up v hv hvs hF
    have hp : par F v < N := by have := h2.rg v hv; unfold par; omega
    refine ⟨a1, ?_, a3⟩
    refine card_lt (fun x _ hx => ?_) hp ?_ ?_
    · simp only [Bool.and_eq_true, decide_eq_true_eq] at hx ⊢
      exact ⟨hx.1, by omega⟩
    · simp
    · unfold nz; simp [a1, a2]
  · have h3 := h9 h0
    subst h3
    have cl : ∀ u, u < N → F u ≠ 0 → ∀ v, v < N → 0 < r u v → F v ≠ 0 := fun u hu hF => by
      rcases h2.don u hu hF with h3 | ⟨_, h3⟩ | h3
      · exact absurd h3 (by simp)
      · exact h3
      · exact h3
    clear hv
    induction hr with
    | base => exact h2.fs
    | step ha hb hp ih => exact cl _ (ha.lt hs) ih _ hb hp
theorem fullR_ok (hC : ∀ x y, x < N → y < N → c x y + c y x ≤ 4611686018427387904) (hN : N ≤ 1000000) (hs : s < N) (ht : t < N) (hst : s ≠ t) : ∀ (f : Nat) (r : Nat → Nat → Int), Res N c r s t → rowS N r s < f → ∃ r2, fullR N s t f r = some r2 ∧ Res N c r2 s t ∧ ¬ Rch N r2 s t := by
  intro f
  induction f with
  | zero =>
    intro r hR hf
    have := sm_nonneg (n := N) (f := r s) (fun v hv => hR.pos s v hs hv)
    have h2 : rowS N r s = sm N (r s) := rfl
    omega
  | succ f ih =>
    intro r hR hf
    obtain ⟨F, rk, h1, h2, h3, h5⟩ := bfsE_tree (r := r) hN hs t
    rw [fullR, pushR, h1]
    simp only
    by_cases h4 : F t = 0
    · rw [if_pos h4]
      simp only
      rw [if_neg (by omega)]
      exact ⟨r, rfl, hR, fun hr => (h5 h4 t ht).2 hr h4⟩
    · rw [if_neg h4]
      obtain ⟨L, r2, e1, e2, e3, e4, e5, e6⟩ := Res.round hC hR h2 hst hs ht h4 (N + 1) (h3 t ht h4) 1099511627776 (by omega)
      rw [e1]
      simp only [e4]
      rw [if_pos (by omega)]
      exact ih r2 e5 (by omega)
end
/-- What is seen from the source, row by row. -/
def sn1 (r : Nat → Nat → Int) (i : Nat) (s : (Nat → Bool) × Bool) : Nat → (Nat → Bool) × Bool
  | 0 => s
  | k + 1 => let q := sn1 r i s k
    if q.1 i = true ∧ q.1 k = false ∧ 0 < r i k then (upd q.1 k true, true) else q
def sn2 (N : Nat) (r : Nat → Nat → Int) (s : (Nat → Bool) × Bool) : Nat → (Nat → Bool) × Bool
  | 0 => s
  | i + 1 => sn1 r i (sn2 N r s i) N
def snN (N : Nat) (r : Nat → Nat → Int) : Nat → (Nat → Bool) → Option (Nat → Bool)
  | 0, _ => none
  | f + 1, S => if (sn2 N r (S, false) N).2 = true then snN N r f (sn2 N r (S, false) N).1 else some (sn2 N r (S, false) N).1
section
variable {N s : Nat} {r : Nat → Nat → Int}
/-- What holds in the midst of a row: more is seen, all of it reached; and if nothing was added, nothing was lacking. -/
structure SnI (N : Nat) (r : Nat → Nat → Int) (s : Nat) (S0 : Nat → Bool) (i k : Nat) (q : (Nat → Bool) × Bool) : Prop where
  up : ∀ v, S0 v = true → q.1 v = true
  rc : ∀ v, v < N → q.1 v = true → Rch N r s v
  no : q.2 = false → q.1 = S0 ∧ (∀ u v, u < i → v < N → S0 u = true → 0 < r u v → S0 v = true) ∧ ∀ v, v < k → S0 i = true → 0 < r i v → S0 v = true
  mo : q.2 = true → ∃ v, v < N ∧ S0 v = false ∧ q.1 v = true
theorem sn1_inv {S0 : Nat → Bool} {i : Nat} (hi : i < N) {q0 : (Nat → Bool) × Bool} (h : SnI N r s S0 i 0 q0) : ∀ k, k ≤ N → SnI N r s S0 i k (sn1 r i q0 k)
  | 0, _ => h
  | k + 1, hk => by
    have ih := sn1_inv hi h k (by omega)
    rw [sn1]
    generalize sn1 r i q0 k = q at ih
    by_cases e : q.1 i = true ∧ q.1 k = false ∧ 0 < r i k
    · rw [if_pos e]
      refine ⟨fun v hv => ?_, fun v hv hq => ?_, fun h9 => absurd h9 (by simp), fun _ => ⟨k, by omega, ?_, upd_same _ _ _⟩⟩
      · show upd q.1 k true v = true
        unfold upd; split
        · rfl
        · exact ih.up v hv
      · have hq : upd q.1 k true v = true := hq
        unfold upd at hq
        split at hq
        · next e2 => rw [e2]; exact .step (ih.rc i hi e.1) (by omega) e.2.2
        · exact ih.rc v hv hq
      · cases h9 : S0 k
        · rfl
        · have := ih.up k h9; rw [e.2.1] at this; exact absurd this (by simp)
    · rw [if_neg e]
      refine ⟨ih.up, ih.rc, fun h9 => ?_, ih.mo⟩
      obtain ⟨a1, a2, a3⟩ := ih.no h9
      refine ⟨a1, a2, fun v hv hS hr => ?_⟩
      by_cases e2 : v = k
      · subst e2
        cases h8 : S0 v
        · exact absurd ⟨by rw [a1]; exact hS, by rw [a1]; exact h8, hr⟩ e
        · rfl
      · exact a3 v (by omega) hS hr
theorem sn2_inv {S0 : Nat → Bool} {q0 : (Nat → Bool) × Bool} (h : SnI N r s S0 0 0 q0) : ∀ i, i ≤ N → SnI N r s S0 i 0 (sn2 N r q0 i)
  | 0, _ => h
  | i + 1, hi => by
    have ih := sn2_inv h i (by omega)
    have h1 := sn1_inv (by omega) ih N (Nat.le_refl _)
    rw [sn2]
    refine ⟨h1.up, h1.rc, fun h9 => ?_, h1.mo⟩
    obtain ⟨a1, a2, a3⟩ := h1.no h9
    refine ⟨a1, fun u v hu hv hS hr => ?_, fun v hv => by omega⟩
    by_cases e : u = i
    · subst e; exact a3 v hv hS hr
    · exact a2 u v (by omega) hv hS hr
theorem snN_ok (hs : s < N) : ∀ f (S : Nat → Bool), (∀ v, v < N → S v = true → Rch N r s v) → S s = true → N < f + card N S → ∃ S', snN N r f S = some S' ∧ ∀ v, v < N → (S' v = true ↔ Rch N r s v) := by
  intro f
  induction f with
  | zero => intro S _ _ h; have := card_le N S; omega
  | succ f ih =>
    intro S hS h1 hf
    have hI : SnI N r s S N 0 (sn2 N r (S, false) N) := sn2_inv (S0 := S) (q0 := (S, false)) ⟨fun _ h => h, hS, fun _ => ⟨rfl, fun u v hu => by omega, fun v hv => by omega⟩, fun h => absurd h (by simp)⟩ N (Nat.le_refl _)
    rw [snN]
    generalize sn2 N r (S, false) N = q at hI
    cases hq : q.2 with
    | true =>
      rw [if_pos rfl]
      obtain ⟨v, hv, h2, h3⟩ := hI.mo hq
      exact ih _ hI.rc (hI.up s h1) (by have := card_lt (n := N) (P := S) (Q := q.1) (fun x _ hx => hI.up x hx) hv h2 h3; omega)
    | false =>
      rw [if_neg (by decide)]
      obtain ⟨a1, a2, _⟩ := hI.no hq
      refine ⟨_, rfl, fun v hv => ⟨hI.rc v hv, fun hr => ?_⟩⟩
      rw [a1]
      clear hv
      induction hr with
      | base => exact h1
      | step ha hb hp ih => exact a2 _ _ (ha.lt hs) hb ih hp
end
end Go.Proofs.Ytnbdfmdjedakcaa
