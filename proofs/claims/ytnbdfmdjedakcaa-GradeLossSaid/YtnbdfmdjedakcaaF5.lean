/- The source's tree, by breadth. Plain. No conditions. -/
import Derived.Test.YtnbdfmdjedakcaaDC
import Derived.Test.YtnbdfmdjedakcaaF0
namespace Go.Proofs.Ytnbdfmdjedakcaa
set_option linter.unusedVariables false
section
/-- From a node, all of which there is room. -/
def bf1 (r : Nat → Nat → Int) (u : Nat) (s : (Nat → Int) × List Int) : Nat → (Nat → Int) × List Int
  | 0 => s
  | j + 1 => let q := bf1 r u s j
    if 0 < r u j ∧ q.1 j = 0 then (upd q.1 j ((u : Int) + 1), q.2 ++ [(j : Int)]) else q
def bfs (N : Nat) (r : Nat → Nat → Int) : Nat → (Nat → Int) → List Int → Option (Nat → Int)
  | 0, _, _ => none
  | _ + 1, F, [] => some F
  | f + 1, F, x :: q => if 0 ≤ x ∧ x < N ∧ q.length ≤ 1000000 then bfs N r f (bf1 r x.toNat (F, q) N).1 (bf1 r x.toNat (F, q) N).2 else none
def nz (F : Nat → Int) (v : Nat) : Bool := decide (F v ≠ 0)
structure BI (N : Nat) (r : Nat → Nat → Int) (s p cur j : Nat) (F : Nat → Int) (q : List Int) (rk : Nat → Nat) : Prop where
  rg : ∀ v, v < N → 0 ≤ F v ∧ F v ≤ N
  up : ∀ v, v < N → v ≠ s → F v ≠ 0 → F (par F v) ≠ 0 ∧ rk (par F v) < rk v ∧ 0 < r (par F v) v
  rc : ∀ v, v < N → F v ≠ 0 → Rch N r s v
  fs : F s ≠ 0
  don : ∀ u, u < N → F u ≠ 0 → (u : Int) ∈ q ∨ (u = cur ∧ ∀ v, v < j → 0 < r u v → F v ≠ 0) ∨ ∀ v, v < N → 0 < r u v → F v ≠ 0
  qs : ∀ y ∈ q, ∃ x : Nat, y = (x : Int) ∧ x < N ∧ F x ≠ 0
  lt : ∀ v, v < N → F v ≠ 0 → rk v < card N (nz F)
  g : q.length + p = card N (nz F)
variable {N s : Nat} {r : Nat → Nat → Int}
theorem BI.skip {p cur j : Nat} {F : Nat → Int} {q : List Int} {rk : Nat → Nat} (h : BI N r s p cur j F q rk) (hj : 0 < r cur j → F j ≠ 0) : BI N r s p cur (j + 1) F q rk := by
  refine ⟨h.rg, h.up, h.rc, h.fs, fun u hu hF => ?_, h.qs, h.lt, h.g⟩
  rcases h.don u hu hF with h1 | ⟨rfl, h1⟩ | h1
  · exact .inl h1
  · refine .inr (.inl ⟨rfl, fun v hv hr => ?_⟩)
    by_cases e : v = j
    · subst e; exact hj hr
    · exact h1 v (by omega) hr
  · exact .inr (.inr h1)
theorem BI.more {p cur j : Nat} {F : Nat → Int} {q : List Int} {rk : Nat → Nat} (h : BI N r s p cur j F q rk) (hcn : cur < N) (hc : F cur ≠ 0) (hj : j < N) (hr : 0 < r cur j) (h0 : F j = 0) : BI N r s p cur (j + 1) (upd F j ((cur : Int) + 1)) (q ++ [(j : Int)]) (upd rk j (card N (nz F))) := by
  have js : j ≠ s := fun e => by subst e; exact h.fs h0
  have sm : upd F j ((cur : Int) + 1) j = (cur : Int) + 1 := upd_same _ _ _
  have ot : ∀ v, v ≠ j → upd F j ((cur : Int) + 1) v = F v := fun v hv => upd_ne _ _ hv
  have keep : ∀ v, F v ≠ 0 → upd F j ((cur : Int) + 1) v ≠ 0 := fun v hv => by
    by_cases e : v = j
    · subst e; exact absurd h0 hv
    · rw [ot v e]; exact hv
  have cj : cur ≠ j := fun e => by subst e; exact hc h0
  have c1 := card_one (n := N) (P := nz F) (Q := nz (upd F j ((cur : Int) + 1))) hj (by unfold nz; simp [h0]) (by unfold nz; rw [sm]; exact decide_eq_true (by omega)) (fun x _ hne => by unfold nz; rw [ot x hne])
  have kr : ∀ v, v ≠ j → upd rk j (card N (nz F)) v = rk v := fun v hv => upd_ne _ _ hv
  have kj : upd rk j (card N (nz F)) j = card N (nz F) := upd_same _ _ _
  refine BI.skip ⟨fun v hv => ?_, fun v hv hvs hF => ?_, fun v hv hF => ?_, keep s h.fs, fun u hu hF => ?_, fun y hy => ?_, fun v hv hF => ?_, ?_⟩ (fun _ => by rw [sm]; omega)
  · by_cases e : v = j
    · subst e; rw [sm]; omega
    · rw [ot v e]; exact h.rg v hv
  · by_cases e : v = j
    · subst e
      have ep : par (upd F v ((cur : Int) + 1)) v = cur := by unfold par; rw [sm]; omega
      rw [ep]
      refine ⟨keep cur hc, ?_, hr⟩
      rw [kr cur cj, kj]
      exact h.lt cur hcn hc
    · rw [ot v e] at hF
      obtain ⟨a1, a2, a3⟩ := h.up v hv hvs hF
      have ep : par (upd F j ((cur : Int) + 1)) v = par F v := by unfold par; rw [ot v e]
      rw [ep]
      refine ⟨keep _ a1, ?_, a3⟩
      rw [kr v e, kr (par F v) (fun e2 => a1 (by rw [e2]; exact h0))]
      exact a2
  · by_cases e : v = j
    · subst e; exact .step (h.rc cur hcn hc) hv hr
    · rw [ot v e] at hF; exact h.rc v hv hF
  · by_cases e : u = j
    · subst e; exact .inl (by simp)
    · rw [ot u e] at hF
      rcases h.don u hu hF with h1 | ⟨rfl, h1⟩ | h1
      · exact .inl (List.mem_append_left _ h1)
      · exact .inr (.inl ⟨rfl, fun v hv hr => keep v (h1 v hv hr)⟩)
      · exact .inr (.inr fun v hv hr => keep v (h1 v hv hr))
  · rcases List.mem_append.1 hy with h1 | h1
    · obtain ⟨x, a, b, c⟩ := h.qs y h1
      exact ⟨x, a, b, keep x c⟩
    · exact ⟨j, List.mem_singleton.1 h1, hj, by rw [sm]; omega⟩
  · by_cases e : v = j
    · subst e; rw [kj]; omega
    · rw [ot v e] at hF
      rw [kr v e]
      have := h.lt v hv hF
      omega
  · have := h.g
    rw [List.length_append, List.length_singleton]; omega
theorem bf1_inv {p cur : Nat} {F : Nat → Int} {q : List Int} {rk : Nat → Nat} (hcn : cur < N) (hc : F cur ≠ 0) (h : BI N r s p cur 0 F q rk) : ∀ j, j ≤ N → ∃ rk', BI N r s p cur j (bf1 r cur (F, q) j).1 (bf1 r cur (F, q) j).2 rk' ∧ (bf1 r cur (F, q) j).1 cur ≠ 0
  | 0, _ => ⟨rk, h, hc⟩
  | j + 1, hj => by
    obtain ⟨rk', ih, hk⟩ := bf1_inv hcn hc h j (by omega)
    rw [bf1]
    generalize bf1 r cur (F, q) j = z at ih hk
    obtain ⟨F1, q1⟩ := z
    simp only at ih hk ⊢
    by_cases h1 : 0 < r cur j ∧ F1 j = 0
    · rw [if_pos h1]
      refine ⟨_, ih.more hcn hk (by omega) h1.1 h1.2, ?_⟩
      show upd F1 j ((cur : Int) + 1) cur ≠ 0
      rw [upd_ne F1 _ (show cur ≠ j from fun e => hk (by rw [e]; exact h1.2))]
      exact hk
    · rw [if_neg h1]
      exact ⟨rk', ih.skip fun h2 h3 => h1 ⟨h2, h3⟩, hk⟩
theorem bfs_inv (hN : N ≤ 1000000) : ∀ f F q p cur rk, BI N r s p cur N F q rk → N < f + p → ∃ F' p' cur' rk', bfs N r f F q = some F' ∧ BI N r s p' cur' N F' [] rk' := by
  intro f
  induction f with
  | zero =>
    intro F q p cur rk h hf
    have := h.g
    have := card_le N (nz F)
    omega
  | succ f ih =>
    intro F q p cur rk h hf
    cases q with
    | nil => exact ⟨F, p, cur, rk, rfl, h⟩
    | cons y q =>
      obtain ⟨x, rfl, hx, hFx⟩ := h.qs y List.mem_cons_self
      have hg := h.g
      have hle := card_le N (nz F)
      rw [List.length_cons] at hg
      rw [bfs, if_pos ⟨by omega, by omega, by omega⟩, Int.toNat_natCast]
      have h1 : BI N r s (p + 1) x 0 F q rk := by
        refine ⟨h.rg, h.up, h.rc, h.fs, fun z hz hF => ?_, fun z hz => h.qs z (List.mem_cons_of_mem _ hz), h.lt, by omega⟩
        rcases h.don z hz hF with h1 | ⟨_, h1⟩ | h1
        · rcases List.mem_cons.1 h1 with h2 | h2
          · exact .inr (.inl ⟨by omega, fun k hk => by omega⟩)
          · exact .inl h2
        · exact .inr (.inr h1)
        · exact .inr (.inr h1)
      obtain ⟨rk', h2, _⟩ := bf1_inv hx hFx h1 N (Nat.le_refl _)
      exact ih _ _ _ _ _ h2 (by omega)
/-- The source's tree. -/
theorem bfs_tree (hN : N ≤ 1000000) (hs : s < N) : ∃ F rk, bfs N r (N + 1) (upd (fun _ => 0) s ((s : Int) + 1)) [(s : Int)] = some F ∧ Tree N r s F rk := by
  have sm : upd (fun _ => (0 : Int)) s ((s : Int) + 1) s = (s : Int) + 1 := upd_same _ _ _
  have ot : ∀ v, v ≠ s → upd (fun _ => (0 : Int)) s ((s : Int) + 1) v = 0 := fun v hv => upd_ne _ _ hv
  have cz : card N (fun _ => false) = 0 := by
    have : ∀ n, card n (fun _ : Nat => false) = 0 := fun n => by
      induction n with
      | zero => rfl
      | succ n ih => rw [card, ih]; rfl
    exact this N
  have c1 := card_one (n := N) (P := fun _ => false) (Q := nz (upd (fun _ => (0 : Int)) s ((s : Int) + 1))) hs rfl (by unfold nz; rw [sm]; exact decide_eq_true (by omega)) (fun x _ hne => by unfold nz; rw [ot x hne]; rfl)
  have only : ∀ v, upd (fun _ => (0 : Int)) s ((s : Int) + 1) v ≠ 0 → v = s := fun v hv => Classical.byContradiction fun e => hv (ot v e)
  have h0 : BI N r s 0 s N (upd (fun _ => 0) s ((s : Int) + 1)) [(s : Int)] (fun _ => 0) := by
    refine ⟨fun v hv => ?_, fun v _ hvs hF => absurd (only v hF) hvs, fun v _ hF => by rw [only v hF]; exact .base, by rw [sm]; omega, fun u _ hF => .inl (by rw [only u hF]; simp), fun y hy => ⟨s, List.mem_singleton.1 hy, hs, by rw [sm]; omega⟩, fun v _ _ => by omega, by rw [c1, cz]; rfl⟩
    by_cases e : v = s
    · subst e; rw [sm]; omega
    · rw [ot v e]; omega
  obtain ⟨F, p, cur, rk, h1, h2⟩ := bfs_inv hN (N + 1) _ _ _ _ _ h0 (by omega)
  have cl : ∀ u, u < N → F u ≠ 0 → ∀ v, v < N → 0 < r u v → F v ≠ 0 := fun u hu hF => by
    rcases h2.don u hu hF with h3 | ⟨_, h3⟩ | h3
    · exact absurd h3 (by simp)
    · exact h3
    · exact h3
  refine ⟨F, rk, h1, ⟨h2.rg, h2.up⟩, fun v hv => ⟨h2.rc v hv, fun hr => ?_⟩⟩
  clear hv
  induction hr with
  | base => exact h2.fs
  | step ha hb hp ih => exact cl _ (ha.lt hs) ih _ hb hp
end
section
/-- As much as can go goes through; what the source reaches then, and the rooms that are left. -/
def fullN (N s t : Nat) (big : Int) : Nat → (Nat → Nat → Int) → Option ((Nat → Int) × (Nat → Nat → Int))
  | 0, _ => none
  | f + 1, r => match bfs N r (N + 1) (upd (fun _ => 0) s ((s : Int) + 1)) [(s : Int)] with
    | none => none
    | some F => if F t = 0 then some (F, r) else match leastP F r s N (N + 1) t big with
      | none => none
      | some L => match pushP F s N L (N + 1) t r with
        | none => none
        | some r2 => fullN N s t big f r2
variable {N s t : Nat} {r c : Nat → Nat → Int}
theorem bfs_tree2 (hN : N ≤ 1000000) (hs : s < N) : ∃ F rk, bfs N r (N + 1) (upd (fun _ => 0) s ((s : Int) + 1)) [(s : Int)] = some F ∧ Tree N r s F rk ∧ ∀ v, v < N → F v ≠ 0 → rk v < N + 1 := by
  obtain ⟨F, rk, h1, h2⟩ := bfs_tree (r := r) hN hs
  -- the rank of a tree can be taken as the number of those of lesser rank
  refine ⟨F, fun v => card N (fun u => nz F u && decide (rk u < rk v)), h1, ⟨⟨h2.tr.rg, fun v hv hvs hF => ?_⟩, h2.rc⟩, fun v _ _ => by have := card_le N (fun u => nz F u && decide (rk u < rk v)); show card N _ < _; omega⟩
  obtain ⟨a1, a2, a3⟩ := h2.tr.up v hv hvs hF
  have hp := h2.tr.par_lt hv hF
  refine ⟨a1, ?_, a3⟩
  refine card_lt (fun x _ hx => ?_) hp.1 ?_ ?_
  · simp only [Bool.and_eq_true, decide_eq_true_eq] at hx ⊢
    exact ⟨hx.1, by omega⟩
  · simp
  · unfold nz; simp [a1, a2]
theorem full_ok (hC : ∀ x y, x < N → y < N → c x y + c y x ≤ 4611686018427387904) (hN : N ≤ 1000000) (hs : s < N) (ht : t < N) (hst : s ≠ t) (big : Int) (hb : 1 ≤ big) : ∀ (f : Nat) (r : Nat → Nat → Int), Res N c r s t → rowS N r s < f → ∃ F r2, fullN N s t big f r = some (F, r2) ∧ LowCut N c s t (nz F) ∧ F t = 0 := by
  intro f
  induction f with
  | zero =>
    intro r hR hf
    have := sm_nonneg (n := N) (f := r s) (fun v hv => hR.pos s v hs hv)
    have h2 : rowS N r s = sm N (r s) := rfl
    omega
  | succ f ih =>
    intro r hR hf
    obtain ⟨F, rk, h1, h2, h3⟩ := bfs_tree2 (r := r) hN hs
    rw [fullN, h1]
    simp only
    by_cases h4 : F t = 0
    · rw [if_pos h4]
      exact ⟨F, r, rfl, hR.done h2 hs ht h4, h4⟩
    · rw [if_neg h4]
      obtain ⟨L, r2, e1, e2, e3, e4, e5, e6⟩ := Res.round hC hR h2.tr hst hs ht h4 (N + 1) (h3 t ht h4) big hb
      rw [e1]
      simp only [e4]
      exact ih r2 e5 (by omega)
end
end Go.Proofs.Ytnbdfmdjedakcaa
