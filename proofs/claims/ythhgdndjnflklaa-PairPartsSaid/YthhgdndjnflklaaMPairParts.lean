/- The law PairParts, as plain Lean: at every input some fuel gives true. No conditions. -/
import Derived.Test.YthhgdndjnflklaaK6
import Derived.Test.YthhgdndjnflklaaF1
import Derived.Test.YthhgdndjnflklaaQ20
namespace Go.Proofs.Ythhgdndjnflklaa.PP
open Go.RowKit Go.Proofs.YthhgdndjnflklaaW.PrintWords Go.Proofs.YthhgdndjnflklaaW.PrintLast Go.Proofs.YthhgdndjnflklaaW.PrintMore
set_option linter.unusedVariables false
set_option linter.unusedSimpArgs false
theorem errPa {n : Int} {es : List (Int × Int)} {x : Int} (h : chkS n es = .error x) : x ≠ 0 := by
  unfold chkS at h
  split at h
  · injection h with h; omega
  · split at h
    · injection h with h; omega
    · cases hc : chkL n.toNat es (fun _ _ => false) with
      | none => rw [hc] at h; injection h with h; omega
      | some ny => rw [hc] at h; injection h
/-- All stones. -/
theorem tok_all {n : Nat} {nx : Nat → Nat → Bool} {t : List Int} (hT : ∀ x, x < 2 ^ n → Tok n nx t x) : ∃ k : Nat, t.getD (2 ^ n - 1) 0 = (k : Int) ∧ Nu n nx k := by
  have hp := Nat.two_pow_pos n
  obtain ⟨k, h1, h2⟩ := hT (2 ^ n - 1) (by omega)
  refine ⟨k, h1, h2.same (fun x y hx hy => eqB ?_)⟩
  rw [gS_iff, Nat.testBit_two_pow_sub_one, Nat.testBit_two_pow_sub_one, decide_eq_true hx, decide_eq_true hy]
  exact ⟨fun h => h.1, fun h => ⟨h, rfl, rfl⟩⟩
theorem tok_but {n : Nat} {nx : Nat → Nat → Bool} {t : List Int} (hT : ∀ x, x < 2 ^ n → Tok n nx t x) {i : Nat} (hi : i < n) : 2 ^ i ≤ 2 ^ n - 1 ∧ ∃ k : Nat, t.getD (2 ^ n - 1 - 2 ^ i) 0 = (k : Int) ∧ Nu n (woS nx i) k := by
  have hp := Nat.two_pow_pos n
  have hb : (2 ^ n - 1).testBit i = true := by rw [Nat.testBit_two_pow_sub_one]; exact decide_eq_true hi
  have hpi := Nat.two_pow_pos i
  refine ⟨bitLe hb, ?_⟩
  obtain ⟨k, h1, h2⟩ := hT (2 ^ n - 1 - 2 ^ i) (by omega)
  refine ⟨k, h1, h2.same (fun x y hx hy => eqB ?_)⟩
  rw [gS_iff, bitClr hb, bitClr hb, Nat.testBit_two_pow_sub_one, Nat.testBit_two_pow_sub_one, decide_eq_true hx, decide_eq_true hy, woS_iff]
  simp
theorem Dd_iff {n k k' : Nat} {nx : Nat → Nat → Bool} {i : Nat} (hk : Nu n nx k) (hk' : Nu n (woS nx i) k') : Dd n nx i ↔ k' = k := by
  constructor
  · rintro ⟨z, h1, h2⟩
    exact (hk'.uniq h2).trans (h1.uniq hk)
  · intro h
    exact ⟨k, hk, h ▸ hk'⟩
/-- The list at stone i. -/
def Pr (m : Nat) (nx : Nat → Nat → Bool) (i : Nat) (r : List Int) : Prop := r.length = m ∧ ∀ v, v < m → ∃ p : Nat, r.getD v 0 = (p : Int) ∧ ((v < i ∧ PartIs m nx v p) ∨ (i ≤ v ∧ ((p = 0 ∧ Dd m nx v) ∨ (p = 2 ∧ ¬ Dd m nx v))))
theorem Pr.zero {m i : Nat} {nx : Nat → Nat → Bool} {r : List Int} (h : Pr m nx i r) {v : Nat} (hv : v < m) : r.getD v 0 = 0 ↔ Dd m nx v := by
  obtain ⟨p, h1, h2⟩ := h.2 v hv
  rw [h1]
  rcases h2 with ⟨_, h3⟩ | ⟨_, h3⟩
  · rcases h3 with ⟨h4, h5⟩ | ⟨h4, h5, _⟩ | ⟨h4, h5, _⟩
    · exact ⟨fun _ => h5, fun _ => by omega⟩
    · exact ⟨fun h => by omega, fun h => absurd h h5⟩
    · exact ⟨fun h => by omega, fun h => absurd h h5⟩
  · rcases h3 with ⟨h4, h5⟩ | ⟨h4, h5⟩
    · exact ⟨fun _ => h5, fun _ => by omega⟩
    · exact ⟨fun h => by omega, fun h => absurd h h5⟩
section
variable {m : Nat} {nx : Nat → Nat → Bool} {tb : List (List Bool)}
theorem parts_l2 (hm : m ≤ 14) (ht : Nr m nx tb) {i : Nat} (hi : i < m) (hnext : ∀ r : List Int, Pr m nx (i + 1) r → ∃ K z, kimberliteref04_Parts.l1 K (m : Int) tb r ((i + 1 : Nat) : Int) = some z ∧ Pr m nx m z) :
    ∀ (d j : Nat) (r : List Int), j + d = m → r.length = m → (∀ v, v < m → v ≠ i → ∃ p : Nat, r.getD v 0 = (p : Int) ∧ ((v < i ∧ PartIs m nx v p) ∨ (i ≤ v ∧ ((p = 0 ∧ Dd m nx v) ∨ (p = 2 ∧ ¬ Dd m nx v))))) →
    ((r.getD i 0 = 0 ∧ Dd m nx i) ∨ (r.getD i 0 = 1 ∧ PartIs m nx i 1) ∨ (r.getD i 0 = 2 ∧ ¬ Dd m nx i ∧ ∀ u, u < j → nx i u = true → ¬ Dd m nx u)) →
    ∃ K z, kimberliteref04_Parts.l2 K (m : Int) tb r (i : Int) (j : Int) = some z ∧ Pr m nx m z := by
  -- behind the row
  have away : ∀ (r : List Int) (j : Nat), r.length = m → (∀ v, v < m → v ≠ i → ∃ p : Nat, r.getD v 0 = (p : Int) ∧ ((v < i ∧ PartIs m nx v p) ∨ (i ≤ v ∧ ((p = 0 ∧ Dd m nx v) ∨ (p = 2 ∧ ¬ Dd m nx v))))) → (∃ p : Nat, r.getD i 0 = (p : Int) ∧ PartIs m nx i p) →
      ∃ K z, kimberliteref04_Parts.j3 K (m : Int) tb r (i : Int) (j : Int) false = some z ∧ Pr m nx m z := fun r j hl h1 h2 => by
    obtain ⟨K, z, hK, hz⟩ := hnext r ⟨hl, fun v hv => by
      by_cases hvi : v = i
      · obtain ⟨p, h3, h4⟩ := h2
        rw [hvi]
        exact ⟨p, h3, Or.inl ⟨by omega, h4⟩⟩
      · obtain ⟨p, h3, h4⟩ := h1 v hv hvi
        refine ⟨p, h3, ?_⟩
        rcases h4 with ⟨h5, h6⟩ | ⟨h5, h6⟩
        · exact Or.inl ⟨by omega, h6⟩
        · exact Or.inr ⟨by omega, h6⟩⟩
    refine ⟨K + 1, z, ?_, hz⟩
    simp only [kimberliteref04_Parts.j3]
    rw [if_neg (by decide), w64s (by omega)]
    exact hK
  intro d
  induction d with
  | zero =>
    intro j r hd hl h1 h2
    obtain ⟨K, z, hK, hz⟩ := away r j hl h1 (by
      rcases h2 with ⟨h3, h4⟩ | ⟨h3, h4⟩ | ⟨h3, h4, h5⟩
      · exact ⟨0, h3, Or.inl ⟨rfl, h4⟩⟩
      · exact ⟨1, h3, h4⟩
      · exact ⟨2, h3, Or.inr (Or.inr ⟨rfl, h4, fun u hu => h5 u (by omega)⟩)⟩)
    refine ⟨K + 1, z, ?_, hz⟩
    simp only [kimberliteref04_Parts.l2]
    rw [if_neg (by omega)]
    exact hK
  | succ d ih =>
    intro j r hd hl h1 h2
    have hj : j < m := by omega
    rcases h2 with ⟨h3, h4⟩ | ⟨h3, h4⟩ | ⟨h3, h4, h5⟩
    · obtain ⟨K, z, hK, hz⟩ := away r j hl h1 ⟨0, h3, Or.inl ⟨rfl, h4⟩⟩
      refine ⟨K + 1, z, ?_, hz⟩
      simp only [kimberliteref04_Parts.l2]
      rw [if_pos (by omega), if_pos (by omega), if_pos (by omega), rdM, h3]
      exact hK
    · obtain ⟨K, z, hK, hz⟩ := away r j hl h1 ⟨1, h3, h4⟩
      refine ⟨K + 1, z, ?_, hz⟩
      simp only [kimberliteref04_Parts.l2]
      rw [if_pos (by omega), if_pos (by omega), if_pos (by omega), rdM, h3]
      exact hK
    · obtain ⟨ht1, ht2⟩ := ht
      obtain ⟨ht3, ht4⟩ := ht2 i hi
      have hrd : rdOf false (tb.getD i []) (j : Int) = nx i j := by
        unfold rdOf
        rw [Int.toNat_natCast]
        exact ht4 j hj
      have go : ∀ r' : List Int, r'.length = m → (∀ v, v < m → v ≠ i → r'.getD v 0 = r.getD v 0) → ((r'.getD i 0 = 1 ∧ PartIs m nx i 1) ∨ (r'.getD i 0 = 2 ∧ ∀ u, u < j + 1 → nx i u = true → ¬ Dd m nx u)) →
          ∃ K z, kimberliteref04_Parts.l2 K (m : Int) tb r' (i : Int) ((j + 1 : Nat) : Int) = some z ∧ Pr m nx m z := fun r' hl' hr' h6 => by
        refine ih (j + 1) r' (by omega) hl' (fun v hv hvi => by rw [hr' v hv hvi]; exact h1 v hv hvi) ?_
        rcases h6 with h6 | ⟨h6, h7⟩
        · exact Or.inr (Or.inl h6)
        · exact Or.inr (Or.inr ⟨h6, h4, h7⟩)
      have hdd : r.getD j 0 = 0 ↔ Dd m nx j := by
        by_cases hji : j = i
        · rw [hji, h3]
          exact ⟨fun h => by omega, fun h => absurd h h4⟩
        · obtain ⟨p, h6, h7⟩ := h1 j hj hji
          rw [h6]
          rcases h7 with ⟨_, h8⟩ | ⟨_, h8⟩
          · rcases h8 with ⟨h9, h10⟩ | ⟨h9, h10, _⟩ | ⟨h9, h10, _⟩
            · exact ⟨fun _ => h10, fun _ => by omega⟩
            · exact ⟨fun h => by omega, fun h => absurd h h10⟩
            · exact ⟨fun h => by omega, fun h => absurd h h10⟩
          · rcases h8 with ⟨h9, h10⟩ | ⟨h9, h10⟩
            · exact ⟨fun _ => h10, fun _ => by omega⟩
            · exact ⟨fun h => by omega, fun h => absurd h h10⟩
      have keep : ¬ (nx i j = true ∧ Dd m nx j) → ∃ K z, kimberliteref04_Parts.l2 K (m : Int) tb r (i : Int) ((j + 1 : Nat) : Int) = some z ∧ Pr m nx m z := fun hno =>
        go r hl (fun _ _ _ => rfl) (Or.inr ⟨h3, fun u hu hx hD => by
          by_cases huj : u = j
          · rw [huj] at hx hD; exact hno ⟨hx, hD⟩
          · exact h5 u (by omega) hx hD⟩)
      cases hx : nx i j with
      | false =>
        obtain ⟨K, z, hK, hz⟩ := keep (fun h => by rw [hx] at h; exact absurd h.1 (by decide))
        refine ⟨K + 2, z, ?_, hz⟩
        simp only [kimberliteref04_Parts.l2, kimberliteref04_Parts.j3]
        rw [if_pos (by omega), if_pos (by omega), if_pos (by omega), rdM, h3, if_pos (by rfl), if_pos (by omega), if_pos (by omega), if_pos (by omega), rdL5, if_pos (by rw [ht3]; omega), hrd, hx, if_neg (by decide), w64s (by omega)]
        exact hK
      | true =>
        by_cases hz0 : r.getD j 0 = 0
        · have hD := hdd.mp hz0
          obtain ⟨K, z, hK, hz⟩ := go (r.set i 1) (by rw [List.length_set]; exact hl) (fun v hv hvi => by rw [getD_set_, if_neg (fun h => hvi h.1.symm)]) (Or.inl ⟨by rw [getD_set_, if_pos ⟨rfl, by omega⟩], Or.inr (Or.inl ⟨rfl, h4, j, hj, hx, hD⟩)⟩)
          refine ⟨K + 2, z, ?_, hz⟩
          simp only [kimberliteref04_Parts.l2, kimberliteref04_Parts.j3]
          rw [if_pos (by omega), if_pos (by omega), if_pos (by omega), rdM, h3, if_pos (by rfl), if_pos (by omega), if_pos (by omega), if_pos (by omega), rdL5, if_pos (by rw [ht3]; omega), hrd, hx, if_pos rfl, if_pos (by omega), rdM, if_pos hz0, if_pos (by omega), Int.toNat_natCast, w64s (by omega)]
          exact hK
        · obtain ⟨K, z, hK, hz⟩ := keep (fun h => hz0 (hdd.mpr h.2))
          refine ⟨K + 2, z, ?_, hz⟩
          simp only [kimberliteref04_Parts.l2, kimberliteref04_Parts.j3]
          rw [if_pos (by omega), if_pos (by omega), if_pos (by omega), rdM, h3, if_pos (by rfl), if_pos (by omega), if_pos (by omega), if_pos (by omega), rdL5, if_pos (by rw [ht3]; omega), hrd, hx, if_pos rfl, if_pos (by omega), rdM, if_neg hz0, w64s (by omega)]
          exact hK
theorem parts_l1 (hm : m ≤ 14) (ht : Nr m nx tb) : ∀ (d i : Nat) (r : List Int), i + d = m → Pr m nx i r → ∃ K z, kimberliteref04_Parts.l1 K (m : Int) tb r (i : Int) = some z ∧ Pr m nx m z
  | 0, i, r, hd, h => by
    obtain rfl : i = m := by omega
    refine ⟨1, r, ?_, h⟩
    simp only [kimberliteref04_Parts.l1]
    rw [if_neg (by omega)]
  | d + 1, i, r, hd, h => by
    have hi : i < m := by omega
    obtain ⟨K, z, hK, hz⟩ := parts_l2 hm ht hi (fun r' h' => parts_l1 hm ht d (i + 1) r' (by omega) h') m 0 r (by omega) h.1 (fun v hv _ => h.2 v hv) (by
      obtain ⟨p, h1, h2⟩ := h.2 i hi
      rw [h1]
      rcases h2 with ⟨h3, _⟩ | ⟨_, h3⟩
      · omega
      · rcases h3 with ⟨h4, h5⟩ | ⟨h4, h5⟩
        · exact Or.inl ⟨by omega, h5⟩
        · exact Or.inr (Or.inr ⟨by omega, h5, fun u hu => absurd hu (by omega)⟩))
    refine ⟨K + 1, z, ?_, hz⟩
    simp only [kimberliteref04_Parts.l1]
    rw [if_pos (by omega)]
    exact hK
theorem parts_l0 (hm : m ≤ 14) (ht : Nr m nx tb) {t : List Int} (htl : t.length = 2 ^ m) (hT : ∀ x, x < 2 ^ m → Tok m nx t x) : ∀ (d i : Nat) (r : List Int), i + d = m → r.length = m → (∀ v, v < i → (r.getD v 0 = 0 ∧ Dd m nx v) ∨ (r.getD v 0 = 2 ∧ ¬ Dd m nx v)) →
    ∃ K z, kimberliteref04_Parts.l0 K (m : Int) t tb ((2 ^ m - 1 : Nat) : Int) r (i : Int) = some z ∧ Pr m nx m z
  | 0, i, r, hd, hl, h => by
    obtain ⟨K, z, hK, hz⟩ := parts_l1 hm ht m 0 r (by omega) ⟨hl, fun v hv => by
      rcases h v (by omega) with ⟨h1, h2⟩ | ⟨h1, h2⟩
      · exact ⟨0, h1, Or.inr ⟨by omega, Or.inl ⟨rfl, h2⟩⟩⟩
      · exact ⟨2, h1, Or.inr ⟨by omega, Or.inr ⟨rfl, h2⟩⟩⟩⟩
    refine ⟨K + 1, z, ?_, hz⟩
    simp only [kimberliteref04_Parts.l0]
    rw [if_neg (by omega)]
    exact hK
  | d + 1, i, r, hd, hl, h => by
    have hi : i < m := by omega
    have hp := pow14 hm
    have hpp := Nat.two_pow_pos m
    have hpi := Nat.two_pow_pos i
    obtain ⟨k, h1, h2⟩ := tok_all hT
    obtain ⟨hle, k', h3, h4⟩ := tok_but hT hi
    have hdd := Dd_iff h2 h4
    have go : ∀ x : Int, ((x = 0 ∧ Dd m nx i) ∨ (x = 2 ∧ ¬ Dd m nx i)) → ∀ r' : List Int, r'.length = m → (∀ v, v < m → v ≠ i → r'.getD v 0 = r.getD v 0) → r'.getD i 0 = x → ∃ K z, kimberliteref04_Parts.l0 K (m : Int) t tb ((2 ^ m - 1 : Nat) : Int) r' ((i + 1 : Nat) : Int) = some z ∧ Pr m nx m z := fun x hx r' hl' hr' hri =>
      parts_l0 hm ht htl hT d (i + 1) r' (by omega) hl' (fun v hv => by
        by_cases hvi : v = i
        · rw [hvi, hri]; exact hx
        · rw [hr' v (by omega) hvi]; exact h v (by omega))
    by_cases hk : k' = k
    · obtain ⟨K, z, hK, hz⟩ := go 0 (Or.inl ⟨rfl, hdd.mpr hk⟩) ((r.set i 2).set i 0) (by rw [List.length_set, List.length_set]; exact hl) (fun v hv hvi => by rw [getD_set_, if_neg (fun h => hvi h.1.symm), getD_set_, if_neg (fun h => hvi h.1.symm)]) (by rw [getD_set_, if_pos ⟨rfl, by rw [List.length_set]; omega⟩])
      refine ⟨K + 1, z, ?_, hz⟩
      simp only [kimberliteref04_Parts.l0]
      rw [if_pos (by omega), if_pos (by omega), if_pos (by omega), Option.bind_some, shl1 (by omega), w64n hle (by omega), if_pos (by omega), if_pos (by omega), if_pos (by omega), if_pos (by omega), rdM, rdM, h1, h3, if_pos (by omega), Int.toNat_natCast, w64s (by omega)]
      exact hK
    · obtain ⟨K, z, hK, hz⟩ := go 2 (Or.inr ⟨rfl, fun h => hk (hdd.mp h)⟩) (r.set i 2) (by rw [List.length_set]; exact hl) (fun v hv hvi => by rw [getD_set_, if_neg (fun h => hvi h.1.symm)]) (by rw [getD_set_, if_pos ⟨rfl, by omega⟩])
      refine ⟨K + 1, z, ?_, hz⟩
      simp only [kimberliteref04_Parts.l0]
      rw [if_pos (by omega), if_pos (by omega), if_pos (by omega), Option.bind_some, shl1 (by omega), w64n hle (by omega), if_pos (by omega), if_pos (by omega), if_pos (by omega), if_pos (by omega), rdM, rdM, h1, h3, if_neg (by omega), Int.toNat_natCast, w64s (by omega)]
      exact hK
end
theorem ilist_of {m : Nat} {f : Nat → Nat} {r : List Int} (hl : r.length = m) (h : ∀ v, v < m → r.getD v 0 = (f v : Int)) : r = ilist m f := by
  refine List.ext_getElem (by rw [hl, ilist_len_]) (fun v h1 h2 => ?_)
  have h3 := h v (by omega)
  have h4 := ilist_get_ m f v (by omega)
  rw [List.getD_eq_getElem?_getD, List.getElem?_eq_getElem h1] at h3
  rw [List.getD_eq_getElem?_getD, List.getElem?_eq_getElem h2] at h4
  exact h3.trans h4.symm
theorem refParts_eq {a0 : Int} {l : List S41} {m : Nat} {nx : Nat → Nat → Bool} (h : chkS a0 (prs l) = .ok (m, nx)) (hm : m ≤ 14) {out : Nat → Nat} (hout : ∀ j, j < m → PartIs m nx j (out j)) : ∃ k0, ∀ k, k0 ≤ k → kimberliteref04_Parts.f k a0 l = some (ilist m out) := by
  obtain ⟨tb, h1, h2⟩ := near_eq h 200 (by omega)
  obtain ⟨_, _, hm0⟩ := chkS_gr' h
  obtain ⟨t, ⟨k0, hk0⟩, htl, hT⟩ := refMost_eq h hm
  obtain ⟨K, z, hK, hz⟩ := parts_l0 hm h2 htl hT m 0 (List.replicate m 0) (by omega) (by rw [List.length_replicate]) (fun v hv => absurd hv (by omega))
  have hzo : z = ilist m out := ilist_of hz.1 (fun v hv => by
    obtain ⟨p, h3, h4⟩ := hz.2 v hv
    rcases h4 with ⟨_, h5⟩ | ⟨h5, _⟩
    · rw [h3, h5.uniq (hout v hv)]
    · omega)
  have hp := pow14 hm
  have hpp := Nat.two_pow_pos m
  refine ⟨K + k0 + 200, fun k hk => ?_⟩
  unfold kimberliteref04_Parts.f
  rw [hk0 k (by omega), Option.bind_some, leM (fun k => kimberliteref04_Near.mono _ _ k) (show 200 ≤ k by omega) h1, Option.bind_some, if_pos (by omega), hm0, if_pos (by omega), shl1 hm, show wrap64 (((2 ^ m : Nat) : Int) - 1) = ((2 ^ m - 1 : Nat) : Int) from by rw [w64 (by omega) (by omega)]; omega, Int.toNat_natCast, ← hzo]
  exact leM (fun k => (kimberliteref04_Parts.mono_l k).1 _ _ _ _ _ _) (show K ≤ k by omega) hK
theorem pure_PairParts (a0 : Int) (l1 : List S41) (w0 : (Lit.int .i64 a0).wf = true) : ∃ k, kimberlitelaw04_PairParts.f k a0 l1 = some true := by
  by_cases hfew : l1.length ≤ 140
  · have hfl := decide_eq_true (show l1.length ≤ 140 ∧ ([] : List Int).length ≤ 140 from ⟨hfew, by simp⟩)
    obtain ⟨j, hj⟩ : ∃ j : Nat, 400 ≤ j := ⟨400, Nat.le_refl _⟩
    cases hc : chkS a0 (prs l1) with
    | error x =>
      refine ⟨j + 1, ?_⟩
      unfold kimberlitelaw04_PairParts.f
      rw [few_eq]
      simp only [Option.bind_some]
      rw [hfl, if_pos rfl]
      unfold pair_Parts.f
      rw [parts_err hc, Option.bind_some, graph_eq _ _ _ (by omega), Option.bind_some]
      dsimp only
      rw [show errG a0 l1 = x from by unfold errG; rw [hc], if_pos rfl, if_neg (errPa hc)]
      simp only [kimberlitelaw04_PairParts.j0]
      rw [if_pos trivial, if_neg (errPa hc), if_pos (by simp), alive_eq j (by omega)]
      rfl
    | ok g =>
      obtain ⟨m, nx⟩ := g
      obtain ⟨hG, hm, hm0⟩ := chkS_gr' hc
      obtain ⟨out, h2, hps⟩ := parts_tot hc
      by_cases hf : m ≤ 14
      · obtain ⟨k0, hk0⟩ := refParts_eq hc hf hps
        refine ⟨j + k0 + 1, ?_⟩
        unfold kimberlitelaw04_PairParts.f
        rw [few_eq]
        simp only [Option.bind_some]
        rw [hfl, if_pos rfl]
        unfold pair_Parts.f
        rw [h2, Option.bind_some, graph_eq _ _ _ (by omega), Option.bind_some]
        dsimp only
        rw [show errG a0 l1 = 0 from by unfold errG; rw [hc], if_pos rfl, if_pos rfl, decide_eq_false (by omega)]
        simp only [kimberlitelaw04_PairParts.j0]
        rw [if_neg (by decide), hk0 _ (by omega), Option.bind_some, same_refl _ _ (by rw [ilist_len_]; omega) (by rw [ilist_len_]; omega), Option.bind_some, if_pos rfl, alive_eq _ (by omega)]
        rfl
      · refine ⟨j + 1, ?_⟩
        unfold kimberlitelaw04_PairParts.f
        rw [few_eq]
        simp only [Option.bind_some]
        rw [hfl, if_pos rfl]
        unfold pair_Parts.f
        rw [h2, Option.bind_some, graph_eq _ _ _ (by omega), Option.bind_some]
        dsimp only
        rw [show errG a0 l1 = 0 from by unfold errG; rw [hc], if_pos rfl, if_pos rfl, decide_eq_true (by omega)]
        simp only [kimberlitelaw04_PairParts.j0]
        rw [if_pos trivial, if_pos trivial, alive_eq _ (by omega)]
        rfl
  · refine ⟨400, ?_⟩
    unfold kimberlitelaw04_PairParts.f
    rw [few_eq]
    simp only [Option.bind_some]
    rw [alive_eq 400 (by omega), decide_eq_false (fun h => hfew h.1)]
    rfl
end Go.Proofs.Ythhgdndjnflklaa.PP
