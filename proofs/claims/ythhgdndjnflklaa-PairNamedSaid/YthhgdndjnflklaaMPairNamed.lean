/- The law PairNamed, as plain Lean: at every input some fuel gives true. No conditions. -/
import Derived.Test.YthhgdndjnflklaaK4
import Derived.Test.YthhgdndjnflklaaK5
import Derived.Test.YthhgdndjnflklaaE9
import Derived.Test.YthhgdndjnflklaaQ26
namespace Go.Proofs.Ythhgdndjnflklaa.PP
open Go.RowKit Go.Proofs.YthhgdndjnflklaaW.PrintWords Go.Proofs.YthhgdndjnflklaaW.PrintLast Go.Proofs.YthhgdndjnflklaaW.PrintMore
set_option linter.unusedVariables false
set_option linter.unusedSimpArgs false
theorem leO_le_ {α : Type} {f : Nat → Option α} (h : ∀ k, LeO (f k) (f (k + 1))) {k k' : Nat} (hk : k ≤ k') {r : α} (hr : f k = some r) : f k' = some r := by
  induction hk with
  | refl => exact hr
  | step _ ih => exact h _ _ ih
theorem rdI (l : List Int) (i : Nat) : rd l (i : Int) = l.getD i 0 := by
  unfold rd
  rw [Int.toNat_natCast]
theorem ilist_len (n : Nat) (f : Nat → Nat) : (ilist n f).length = n := by simp [ilist]
theorem ilist_get (n : Nat) (f : Nat → Nat) (i : Nat) (h : i < n) : (ilist n f).getD i 0 = (f i : Int) := by
  unfold ilist
  rw [List.getD_eq_getElem?_getD, List.getElem?_map, List.getElem?_range h]
  rfl
/-- The renamed edges. -/
def rnE (t : List Int) (e : S41) : S41 := ⟨rd t e.f1, rd t e.f0⟩
theorem named_edges {l1 : List S41} {m : Nat} {nx : Nat → Nat → Bool} (hc : chkL m (prs l1) (fun _ _ => false) = some nx) (hl : l1.length ≤ 140) (x10 : Int) (x12 t : List Int) (ht : t.length = m) (r : Bool)
    (hout : ∃ k, kimberlitelaw04_PairNamed.l0 k (m : Int) l1 x10 x12 t (l1.reverse.map (rnE t)) (-1) = some r) : ∀ (i : Nat), i ≤ l1.length → ∃ k, kimberlitelaw04_PairNamed.l0 k (m : Int) l1 x10 x12 t ((l1.drop i).reverse.map (rnE t)) ((i : Int) - 1) = some r
  | 0, _ => by
    rw [List.drop_zero]
    exact hout
  | i + 1, hi => by
    obtain ⟨k, hk⟩ := named_edges hc hl x10 x12 t ht r hout i (by omega)
    rw [drop_cons l1 z41 i (by omega), List.reverse_cons, List.map_append, List.map_singleton] at hk
    refine ⟨k + 1, ?_⟩
    obtain ⟨_, _, h3⟩ := chkL_fact _ _ _ hc
    have hmem : l1.getD i z41 ∈ l1 := by
      rw [List.getD_eq_getElem?_getD, List.getElem?_eq_getElem (show i < l1.length by omega)]
      exact List.getElem_mem _
    obtain ⟨h4, h5, h6, h7, _⟩ := h3 _ (List.mem_map.mpr ⟨_, hmem, rfl⟩)
    simp only [kimberlitelaw04_PairNamed.l0]
    rw [show ((i + 1 : Nat) : Int) - 1 = (i : Int) by omega, rdT]
    rw [if_pos (by omega), if_pos (by omega), if_pos (by omega), if_pos h6, if_pos (by rw [ht]; exact h7), if_pos h4, if_pos (by rw [ht]; exact h5), if_pos (by rw [List.length_map, List.length_reverse, List.length_drop]; omega), w64 (by omega) (by omega)]
    exact hk
theorem named_parts {m : Nat} (hm : m ≤ 24) (p q : Nat → Nat) (t : List Int) (ht : t.length = m) (σ : Nat → Nat) (hσ : ∀ j, j < m → t.getD j 0 = (σ j : Int) ∧ σ j < m) (hpq : ∀ j, j < m → p j = q (σ j)) : ∀ (d i : Nat), i + d = m →
    ∃ k, kimberlitelaw04_PairNamed.l1 k (m : Int) (ilist m p) t (ilist m q) (i : Int) = some true
  | 0, i, hd => by
    obtain ⟨j, hj⟩ : ∃ j : Nat, 400 ≤ j := ⟨400, Nat.le_refl _⟩
    refine ⟨j + 1, ?_⟩
    simp only [kimberlitelaw04_PairNamed.l1]
    rw [if_neg (by omega), alive_eq j (by omega)]
    rfl
  | d + 1, i, hd => by
    obtain ⟨k, hk⟩ := named_parts hm p q t ht σ hσ hpq d (i + 1) (by omega)
    obtain ⟨h1, h2⟩ := hσ i (by omega)
    refine ⟨k + 1, ?_⟩
    simp only [kimberlitelaw04_PairNamed.l1]
    rw [if_pos (by omega), if_pos (by omega), if_pos (by rw [ilist_len]; omega), if_pos (by omega), rdI, rdI, h1, if_pos (by omega), if_pos (by rw [ilist_len]; omega), rdI, ilist_get _ _ _ (by omega), ilist_get _ _ _ h2, hpq i (by omega), if_pos rfl, w64s (by omega)]
    exact hk
theorem pure_PairNamed (a0 : Int) (l1 : List S41) (a2 a3 : Int) (w0 : (Lit.int .i64 a0).wf = true) (w2 : (Lit.int .u8 a2).wf = true) (w3 : (Lit.int .u8 a3).wf = true) : ∃ k, kimberlitelaw04_PairNamed.f k a0 l1 a2 a3 = some true := by
  by_cases hf : l1.length ≤ 140
  · -- the law from its first fork on
    have start : ∀ (k : Nat) (r p : List Int) (q x y : Int), pair_Match.f a0 l1 = some (r, q, x) → pair_Parts.f a0 l1 = some (p, y) → kimberlitelaw04_PairNamed.f k a0 l1 a2 a3 = (if x = 0 then (if y = 0 then kimberlitelaw04_PairNamed.j0 k a0 l1 a2 a3 q x p y (a0 == 0) else kimberlitelaw04_PairNamed.j0 k a0 l1 a2 a3 q x p y true) else kimberlitelaw04_PairNamed.j0 k a0 l1 a2 a3 q x p y true) := by
      intro k r p q x y h1 h2
      unfold kimberlitelaw04_PairNamed.f
      rw [few_eq]
      simp only [Option.bind_some]
      rw [decide_eq_true (show l1.length ≤ 140 ∧ ([] : List Int).length ≤ 140 from ⟨hf, by simp⟩), if_pos rfl, h1, h2]
      rfl
    have away : ∀ (k : Nat) (p : List Int) (q x : Int), kimberlitelaw04_PairNamed.j0 (400 + 1) a0 l1 a2 a3 q x p x true = some true := fun k p q x => by
      rw [kimberlitelaw04_PairNamed.j0]
      rw [if_pos rfl, if_pos rfl, alive_eq 400 (by omega)]
      rfl
    cases hc : chkS a0 (prs l1) with
    | error x =>
      refine ⟨400 + 1, ?_⟩
      rw [start (400 + 1) [] [] 0 x x (match_err hc) (parts_err hc), if_neg (chk_err_ne hc)]
      exact away 0 _ _ _
    | ok g =>
      obtain ⟨m, nx⟩ := g
      obtain ⟨hG, hm, hm0⟩ := chkS_gr' hc
      obtain ⟨_, _, hl128, hcl⟩ := chkS_ok hc
      obtain ⟨out, k, h1, hnu, _⟩ := match_tot hc
      obtain ⟨ps, h2, hps⟩ := parts_tot hc
      by_cases hz : a0 = 0
      · refine ⟨400 + 1, ?_⟩
        rw [start (400 + 1) _ _ _ _ _ h1 h2, if_pos rfl, if_pos rfl, beq_iff_eq.mpr hz]
        exact away 0 _ _ _
      · have hmpos : 0 < m := by omega
        have hu8 : ∀ a : Int, (Lit.int .u8 a).wf = true → 0 ≤ a ∧ a ≤ 255 := fun a ha => by
          have h := ha
          simp only [Lit.wf, Bool.and_eq_true, decide_eq_true_eq] at h
          have e1 : IntKind.u8.min = 0 := by decide
          have e2 : IntKind.u8.max = 255 := by decide
          rw [e1, e2] at h
          exact h
        obtain ⟨b2, c2⟩ := hu8 a2 w2
        obtain ⟨b3, c3⟩ := hu8 a3 w3
        obtain ⟨x1, rfl⟩ : ∃ x : Nat, a2 = (x : Int) := ⟨a2.toNat, by omega⟩
        obtain ⟨st, rfl⟩ : ∃ x : Nat, a3 = (x : Int) := ⟨a3.toNat, by omega⟩
        obtain ⟨kn, t, us', g', hn1, hN⟩ := names_ok m x1 st hmpos hm (by omega)
        -- the new names, and back
        have hσ : ∀ j, j < m → t.getD j 0 = ((t.getD j 0).toNat : Int) ∧ (t.getD j 0).toNat < m := fun j hj => by
          obtain ⟨s, h3, h4, _⟩ := hN.vals j hj
          rw [h4, Int.toNat_natCast]
          exact ⟨rfl, h3⟩
        have hall : ∀ s, s < m → g' s = true := fun s hs => by
          cases hg : g' s with
          | true => rfl
          | false =>
            have h3 := hN.num
            have h4 := cnt_split (fun _ => true) g' m
            rw [cnt_all] at h4
            have h5 := cnt_out (p := fun i => true && !g' i) (a := s) hs (by show (true && !g' s) = true; rw [hg]; rfl)
            have h6 : cnt (fun i => true && g' i) m = cnt g' m := cnt_congr (fun i _ => Bool.true_and _)
            omega
        have hτ : ∃ τ : Nat → Nat, ∀ s, s < m → τ s < m ∧ t.getD (τ s) 0 = (s : Int) := by
          have := Classical.axiomOfChoice (r := fun s j => s < m → j < m ∧ t.getD j 0 = (s : Int)) (fun s => by
            by_cases hs : s < m
            · obtain ⟨j, h3, h4⟩ := hN.has s hs (hall s hs)
              exact ⟨j, fun _ => ⟨h3, h4⟩⟩
            · exact ⟨0, fun h => absurd h hs⟩)
          exact this
        obtain ⟨τ, hτ⟩ := hτ
        generalize hσd : (fun j => (t.getD j 0).toNat) = σ at *
        have hσe : ∀ j, (t.getD j 0).toNat = σ j := fun j => by rw [← hσd]
        have hσ2 : ∀ j, j < m → t.getD j 0 = (σ j : Int) ∧ σ j < m := fun j hj => by
          have := hσ j hj
          rw [hσe] at this
          exact this
        have hlt : ∀ a, a < m → σ a < m ∧ τ (σ a) = a := fun a ha => by
          obtain ⟨h3, h4⟩ := hσ2 a ha
          obtain ⟨h5, h6⟩ := hτ (σ a) h4
          exact ⟨h4, hN.inj _ _ h5 ha (h6.trans h3.symm)⟩
        have hlt' : ∀ b, b < m → τ b < m ∧ σ (τ b) = b := fun b hb => by
          obtain ⟨h3, h4⟩ := hτ b hb
          refine ⟨h3, ?_⟩
          rw [← hσe, h4, Int.toNat_natCast]
        have hinj : ∀ a b, a < m → b < m → σ a = σ b → a = b := fun a b ha hb he => by rw [← (hlt a ha).2, ← (hlt b hb).2, he]
        -- the renamed graph
        obtain ⟨_, hf2, hf3⟩ := chkL_fact _ _ _ hcl
        have hE : ∀ e, e ∈ l1 → 0 ≤ e.f0 ∧ e.f0 < m ∧ 0 ≤ e.f1 ∧ e.f1 < m ∧ e.f0 ≠ e.f1 ∧ nx e.f0.toNat e.f1.toNat = true := fun e he => hf3 (e.f0, e.f1) (List.mem_map.mpr ⟨e, he, rfl⟩)
        have hrn : ∀ e, e ∈ l1 → rnE t e = ⟨(σ e.f1.toNat : Int), (σ e.f0.toNat : Int)⟩ := fun e he => by
          obtain ⟨h3, h4, h5, h6, _⟩ := hE e he
          unfold rnE rd
          rw [(hσ2 _ (show e.f1.toNat < m by omega)).1, (hσ2 _ (show e.f0.toNat < m by omega)).1]
        have hmemW : ∀ e', e' ∈ prs (l1.reverse.map (rnE t)) ↔ ∃ e, e ∈ l1 ∧ e' = ((σ e.f1.toNat : Int), (σ e.f0.toNat : Int)) := fun e' => by
          unfold prs
          rw [List.mem_map]
          constructor
          · rintro ⟨x, hx, rfl⟩
            obtain ⟨e, he, rfl⟩ := List.mem_map.mp hx
            have he := List.mem_reverse.mp he
            exact ⟨e, he, by rw [hrn e he]⟩
          · rintro ⟨e, he, rfl⟩
            exact ⟨rnE t e, List.mem_map.mpr ⟨e, List.mem_reverse.mpr he, rfl⟩, by rw [hrn e he]⟩
        obtain ⟨ny, hny⟩ := chkL_of (n := m) (prs (l1.reverse.map (rnE t))) (fun _ _ => false) (fun e' he' => by
          obtain ⟨e, he, rfl⟩ := (hmemW e').mp he'
          obtain ⟨h3, h4, h5, h6, h7, _⟩ := hE e he
          have h8 := (hlt e.f0.toNat (by omega)).1
          have h9 := (hlt e.f1.toNat (by omega)).1
          refine ⟨by show (0:Int) ≤ (σ e.f1.toNat : Int); omega, by show ((σ e.f1.toNat : Int)) < m; omega, by show (0:Int) ≤ (σ e.f0.toNat : Int); omega, by show ((σ e.f0.toNat : Int)) < m; omega, fun hh => ?_⟩
          have hh2 : (σ e.f1.toNat : Int) = (σ e.f0.toNat : Int) := hh
          have := hinj e.f1.toNat e.f0.toNat (by omega) (by omega) (by omega)
          omega)
        have hcW : chkS a0 (prs (l1.reverse.map (rnE t))) = .ok (m, ny) := by
          unfold chkS
          rw [if_neg (by omega), if_neg (by rw [prs_len, List.length_map, List.length_reverse]; rw [prs_len] at hl128; omega), show a0.toNat = m by omega, hny]
        obtain ⟨hG', _, _⟩ := chkS_gr' hcW
        obtain ⟨_, hy2, hy3⟩ := chkL_fact _ _ _ hny
        have hren : Ren m nx ny σ τ := ⟨hlt, hlt', fun a b ha hb => by
          have hab : ny (σ a) (σ b) = true ↔ nx a b = true := by
            constructor
            · intro hh
              rcases hy2 _ _ hh with h3 | ⟨e', he', h3⟩
              · exact absurd h3 (by decide)
              · obtain ⟨e, he, rfl⟩ := (hmemW e').mp he'
                obtain ⟨h4, h5, h6, h7, h8, h9⟩ := hE e he
                simp only [Int.toNat_natCast] at h3
                rcases h3 with ⟨h10, h11⟩ | ⟨h10, h11⟩
                · rw [hinj a e.f1.toNat ha (by omega) h10, hinj b e.f0.toNat hb (by omega) h11, hG.sym]
                  exact h9
                · rw [hinj a e.f0.toNat ha (by omega) h10, hinj b e.f1.toNat hb (by omega) h11]
                  exact h9
            · intro hh
              rcases hf2 _ _ hh with h3 | ⟨e', he', h3⟩
              · exact absurd h3 (by decide)
              · obtain ⟨e, he, rfl⟩ := List.mem_map.mp he'
                have h9 := (hy3 _ ((hmemW _).mpr ⟨e, he, rfl⟩)).2.2.2.2.2
                simp only [Int.toNat_natCast] at h9
                rcases h3 with ⟨h10, h11⟩ | ⟨h10, h11⟩
                · rw [h10, h11, hG'.sym]; exact h9
                · rw [h10, h11]; exact h9
          cases hx : nx a b with
          | true => exact hab.mpr hx
          | false =>
            cases hy : ny (σ a) (σ b) with
            | false => rfl
            | true => rw [hab.mp hy] at hx; exact absurd hx (by decide)⟩
        obtain ⟨out', k', h3, hnu', _⟩ := match_tot hcW
        obtain ⟨ps', h4, hps'⟩ := parts_tot hcW
        have hkk : k' = k := hnu'.uniq (hren.nu hG hG' hnu)
        have hpart : ∀ j, j < m → ps j = ps' (σ j) := fun j hj => (hren.part hG hG' hj (hps j hj)).uniq (hps' _ (hlt j hj).1)
        -- the law's rounds
        obtain ⟨k1, hk1⟩ := named_parts hm ps ps' t hN.lo σ hσ2 hpart m 0 (by omega)
        have hout : ∃ K, kimberlitelaw04_PairNamed.l0 K (m : Int) l1 (k : Int) (ilist m ps) t (l1.reverse.map (rnE t)) (-1) = some true := by
          refine ⟨k1 + 2, ?_⟩
          simp only [kimberlitelaw04_PairNamed.l0]
          rw [if_neg (by omega)]
          rw [show pair_Match.f (m : Int) (l1.reverse.map (rnE t)) = some (ilist m out', (k' : Int), 0) from by rw [← hm0]; exact h3, show pair_Parts.f (m : Int) (l1.reverse.map (rnE t)) = some (ilist m ps', 0) from by rw [← hm0]; exact h4]
          simp only [Option.bind_some]
          rw [if_pos trivial, if_pos trivial, if_pos (by rw [hkk]), if_pos (by rw [ilist_len])]
          simp only [kimberlitelaw04_PairNamed.j2]
          rw [if_neg (by rw [ilist_len]; simp)]
          exact hk1
        obtain ⟨k2, hk2⟩ := named_edges hcl hf (k : Int) (ilist m ps) t hN.lo true hout l1.length (Nat.le_refl _)
        rw [List.drop_length] at hk2
        refine ⟨kn + k2 + 1, ?_⟩
        rw [start (kn + k2 + 1) _ _ _ _ _ h1 h2, if_pos rfl, if_pos rfl, beq_eq_false_iff_ne.mpr hz]
        simp only [kimberlitelaw04_PairNamed.j0]
        rw [if_neg (by decide), w64 (by omega) (by omega), w64 (by omega) (by omega), hm0, leO_le_ (fun k => kimberlitelaw04_names.mono _ _ _ k) (show kn ≤ kn + k2 by omega) hn1, Option.bind_some, w64 (by omega) (by omega)]
        exact leO_le_ (fun k => (kimberlitelaw04_PairNamed.mono_l k).2.1 _ _ _ _ _ _ _) (show k2 ≤ kn + k2 by omega) hk2
  · refine ⟨400, ?_⟩
    unfold kimberlitelaw04_PairNamed.f
    rw [few_eq]
    simp only [Option.bind_some]
    rw [alive_eq 400 (by omega), decide_eq_false (fun h => hf h.1)]
    rfl
end Go.Proofs.Ythhgdndjnflklaa.PP
