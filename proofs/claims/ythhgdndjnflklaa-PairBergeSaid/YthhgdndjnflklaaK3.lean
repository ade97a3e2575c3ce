/- Plain facts of the reference's Without and Odd. No conditions. -/
import Derived.Test.YthhgdndjnflklaaK1
import Derived.Test.YthhgdndjnflklaaCC
import Derived.Test.YthhgdndjnflklaaQ36
import Derived.Test.YthhgdndjnflklaaQ37
namespace Go.Proofs.Ythhgdndjnflklaa.PP
open Go.RowKit Go.Proofs.YthhgdndjnflklaaW.PrintWords Go.Proofs.YthhgdndjnflklaaW.PrintLast Go.Proofs.YthhgdndjnflklaaW.PrintMore
set_option linter.unusedVariables false
set_option linter.unusedSimpArgs false

theorem rdInt (l : List Int) (i : Nat) : rd l (i : Int) = l.getD i 0 := by
  unfold rd
  rw [Int.toNat_natCast]
theorem without_loop (n : Nat) (zs : List Int) (hl : zs.length < 1000000000) : ∀ (d k i : Nat) (g : Nat → Bool), zs.length = i + d → d < k → kimberliteref04_Without.l0 k (n : Int) zs (i : Int) = some (okC (oddA n zs d i g))
  | d, 0, i, g, _, hk => by omega
  | 0, k + 1, i, g, h, _ => by
    simp only [kimberliteref04_Without.l0, oddA]
    rw [if_neg (by omega)]
    rfl
  | d + 1, k + 1, i, g, h, hk => by
    simp only [kimberliteref04_Without.l0, oddA]
    rw [if_pos (by omega), if_pos (by omega), rdInt, w64s (by omega)]
    by_cases c1 : zs.getD i 0 < 0
    · rw [if_pos c1, if_pos c1]; rfl
    rw [if_neg c1, if_neg c1]
    by_cases c2 : zs.getD i 0 ≥ (n : Int)
    · rw [if_pos c2, if_pos c2]; rfl
    rw [if_neg c2, if_neg c2]
    by_cases c3 : i = 0
    · rw [if_neg (by omega), if_neg (by omega)]
      exact without_loop n zs hl d k (i + 1) _ (by omega) (by omega)
    · obtain ⟨j, rfl⟩ : ∃ j, i = j + 1 := ⟨i - 1, by omega⟩
      have hw : wrap64 (((j + 1 : Nat) : Int) - 1) = (j : Int) := by rw [w64 (by omega) (by omega)]; omega
      rw [hw, rdInt, if_pos (by omega), if_pos (by omega), if_pos (by omega)]
      simp only [Nat.add_sub_cancel]
      by_cases c4 : zs.getD j 0 ≥ zs.getD (j + 1) 0
      · rw [if_pos c4, if_pos ⟨by omega, c4⟩]; rfl
      · rw [if_neg c4, if_neg (fun h => c4 h.2)]
        exact without_loop n zs hl d k (j + 1 + 1) _ (by omega) (by omega)
theorem without_eq (n : Nat) (zs : List Int) (k : Nat) (hl : zs.length < 1000000000) (hk : zs.length < k) : kimberliteref04_Without.f k (n : Int) zs = some (okC (oddA n zs zs.length 0 (fun _ => false))) :=
  without_loop n zs hl zs.length k 0 _ (by omega) hk

/-- The list tells the marks. -/
def Ls (n : Nat) (l : List Bool) (g : Nat → Bool) : Prop := l.length = n ∧ ∀ v, l.getD v false = g v
theorem Ls.put {n : Nat} {l : List Bool} {g : Nat → Bool} (h : Ls n l g) (i : Nat) (hi : i < n) : Ls n (l.set i true) (upd g i true) := by
  refine ⟨by rw [List.length_set]; exact h.1, fun v => ?_⟩
  rw [getD_set_]
  by_cases hv : i = v
  · subst hv
    rw [if_pos ⟨rfl, by rw [h.1]; exact hi⟩, upd_is]
  · rw [if_neg (fun x => hv x.1), upd_no (fun x => hv x.symm)]
    exact h.2 v
theorem Ls.rd {n : Nat} {l : List Bool} {g : Nat → Bool} (h : Ls n l g) (i : Nat) : rdOf false l (i : Int) = g i := by
  unfold rdOf
  rw [Int.toNat_natCast]
  exact h.2 i

structure Bfs (n : Nat) (nx : Nat → Nat → Bool) (g0 : Nat → Bool) (s : Nat) (g : Nat → Bool) (L : List Int) (p t : Nat) : Prop where
  sub : ∀ v, g0 v = true → g v = true
  st : g s = true
  rch : ∀ v, g v = true → g0 v = true ∨ Rch n nx g0 s v
  mem : ∀ q, q < L.length → ∃ v : Nat, v < n ∧ L.getD q 0 = (v : Int) ∧ g v = true ∧ g0 v = false
  has : ∀ v : Nat, g v = true → g0 v = false → ∃ q, q < L.length ∧ L.getD q 0 = (v : Int)
  clo : ∀ q, q < p → ∀ v : Nat, L.getD q 0 = (v : Int) → ∀ u, u < n → nx v u = true → g u = true
  near : ∀ v : Nat, L.getD p 0 = (v : Int) → ∀ u, u < t → nx v u = true → g u = true
  num : cnt g n = cnt g0 n + L.length
  ple : p ≤ L.length
theorem getD_app (L : List Int) (x : Int) (q : Nat) (h : q < L.length) : (L ++ [x]).getD q 0 = L.getD q 0 := by
  rw [List.getD_eq_getElem?_getD, List.getD_eq_getElem?_getD, List.getElem?_append_left h]
theorem getD_end (L : List Int) (x : Int) : (L ++ [x]).getD L.length 0 = x := by
  rw [List.getD_eq_getElem?_getD, List.getElem?_append_right (Nat.le_refl _), Nat.sub_self]
  rfl

theorem bfs_scan (n : Nat) (hn : n ≤ 24) (nx : Nat → Nat → Bool) (tb : List (List Bool)) (ht : Nr n nx tb) (g0 : Nat → Bool) (s o r p : Nat) (hg0 : g0 s = false)
    (hnext : ∀ (gone : List Bool) (g : Nat → Bool) (L : List Int), Ls n gone g → Bfs n nx g0 s g L (p + 1) 0 → ∃ k, kimberliteref04_Odd.l2 k (n : Int) tb gone (o : Int) (s : Int) L ((p + 1 : Nat) : Int) = some (r : Int)) :
    ∀ (d t : Nat) (gone : List Bool) (g : Nat → Bool) (L : List Int), t + d = n → p < L.length → Ls n gone g → Bfs n nx g0 s g L p t → ∃ k, kimberliteref04_Odd.l3 k (n : Int) tb gone (o : Int) (s : Int) L (p : Int) (t : Int) = some (r : Int)
  | 0, t, gone, g, L, hd, hp, hL, hB => by
    have hlen : L.length ≤ 24 := by have := hB.num; have := cnt_le g n; omega
    obtain ⟨k, hk⟩ := hnext gone g L hL ⟨hB.sub, hB.st, hB.rch, hB.mem, hB.has, fun q hq v hv u hu hx => by
      by_cases hqp : q = p
      · subst hqp; exact hB.near v hv u (by omega) hx
      · exact hB.clo q (by omega) v hv u hu hx, fun v _ u hu _ => absurd hu (by omega), hB.num, by omega⟩
    refine ⟨k + 1, ?_⟩
    simp only [kimberliteref04_Odd.l3]
    rw [if_neg (by omega), w64s (by omega)]
    exact hk
  | d + 1, t, gone, g, L, hd, hp, hL, hB => by
    have hlen : L.length ≤ 24 := by have := hB.num; have := cnt_le g n; omega
    obtain ⟨v, hv, hLv, hgv, hg0v⟩ := hB.mem p hp
    have hrow := ht.2 v hv
    cases hgt : g t with
    | true =>
      obtain ⟨k, hk⟩ := bfs_scan n hn nx tb ht g0 s o r p hg0 hnext d (t + 1) gone g L (by omega) hp hL ⟨hB.sub, hB.st, hB.rch, hB.mem, hB.has, hB.clo, fun w hw u hu hx => by
        by_cases hut : u = t
        · subst hut; exact hgt
        · exact hB.near w hw u (by omega) hx, hB.num, hB.ple⟩
      refine ⟨k + 1, ?_⟩
      simp only [kimberliteref04_Odd.l3]
      rw [if_pos (by omega), if_pos (by omega), if_pos (by rw [hL.1]; omega), hL.rd, hgt, if_pos rfl, w64s (by omega)]
      exact hk
    | false =>
      cases hx : nx v t with
      | false =>
        obtain ⟨k, hk⟩ := bfs_scan n hn nx tb ht g0 s o r p hg0 hnext d (t + 1) gone g L (by omega) hp hL ⟨hB.sub, hB.st, hB.rch, hB.mem, hB.has, hB.clo, fun w hw u hu hxu => by
          by_cases hut : u = t
          · subst hut
            have : w = v := by omega
            subst this
            rw [hx] at hxu
            exact absurd hxu (by simp)
          · exact hB.near w hw u (by omega) hxu, hB.num, hB.ple⟩
        refine ⟨k + 1, ?_⟩
        simp only [kimberliteref04_Odd.l3]
        rw [if_pos (by omega), if_pos (by omega), if_pos (by rw [hL.1]; omega), hL.rd, hgt, if_neg (by decide), if_pos (by omega), if_pos (by omega), rdInt, hLv, if_pos (by omega), if_pos (by rw [ht.1]; omega), rdL5, if_pos (by rw [hrow.1]; omega)]
        rw [show rdOf false (tb.getD v []) ((t : Nat) : Int) = nx v t from by unfold rdOf; rw [Int.toNat_natCast]; exact hrow.2 t (by omega), hx, if_neg (by decide), w64s (by omega)]
        exact hk
      | true =>
        have htn : t < n := by omega
        have hg0t : g0 t = false := by
          cases hh : g0 t with
          | false => rfl
          | true => have := hB.sub t hh; rw [hgt] at this; exact absurd this (by simp)
        have hRv : Rch n nx g0 s v := by
          rcases hB.rch v hgv with h | h
          · rw [hg0v] at h; exact absurd h (by simp)
          · exact h
        have hmono : ∀ u, g u = true → upd g t true u = true := fun u hu => by
          by_cases h : u = t
          · subst h; exact upd_is
          · rw [upd_no h]; exact hu
        obtain ⟨k, hk⟩ := bfs_scan n hn nx tb ht g0 s o r p hg0 hnext d (t + 1) (gone.set t true) (upd g t true) (L ++ [(t : Int)]) (by omega) (by rw [List.length_append]; omega) (hL.put t htn)
          ⟨fun u hu => hmono u (hB.sub u hu), hmono s hB.st, fun u hu => by
            by_cases h : u = t
            · subst h; exact Or.inr (Rch.step hRv hx htn hg0t)
            · rw [upd_no h] at hu; exact hB.rch u hu, fun q hq => by
            rw [List.length_append, List.length_singleton] at hq
            by_cases hqe : q = L.length
            · subst hqe
              exact ⟨t, htn, getD_end L _, upd_is, hg0t⟩
            · obtain ⟨u, h1, h2, h3, h4⟩ := hB.mem q (by omega)
              exact ⟨u, h1, by rw [getD_app _ _ _ (by omega)]; exact h2, hmono u h3, h4⟩, fun u hu hu0 => by
            by_cases h : u = t
            · subst h
              exact ⟨L.length, by rw [List.length_append, List.length_singleton]; omega, getD_end L _⟩
            · rw [upd_no h] at hu
              obtain ⟨q, h1, h2⟩ := hB.has u hu hu0
              exact ⟨q, by rw [List.length_append, List.length_singleton]; omega, by rw [getD_app _ _ _ h1]; exact h2⟩, fun q hq w hw u hu hxu => by
            rw [getD_app _ _ _ (by omega)] at hw
            exact hmono u (hB.clo q hq w hw u hu hxu), fun w hw u hu hxu => by
            rw [getD_app _ _ _ hp] at hw
            by_cases hut : u = t
            · subst hut; exact upd_is
            · exact hmono u (hB.near w hw u (by omega) hxu), by
            rw [cnt_upd htn hgt, hB.num, List.length_append, List.length_singleton]
            omega, by rw [List.length_append]; omega⟩
        refine ⟨k + 1, ?_⟩
        simp only [kimberliteref04_Odd.l3]
        rw [if_pos (by omega), if_pos (by omega), if_pos (by rw [hL.1]; omega), hL.rd, hgt, if_neg (by decide), if_pos (by omega), if_pos (by omega), rdInt, hLv, if_pos (by omega), if_pos (by rw [ht.1]; omega), rdL5, if_pos (by rw [hrow.1]; omega)]
        rw [show rdOf false (tb.getD v []) ((t : Nat) : Int) = nx v t from by unfold rdOf; rw [Int.toNat_natCast]; exact hrow.2 t (by omega), hx, if_pos rfl, if_pos (by omega), Int.toNat_natCast, w64s (by omega)]
        exact hk

theorem bfs_all (n : Nat) (hn : n ≤ 24) (nx : Nat → Nat → Bool) (tb : List (List Bool)) (ht : Nr n nx tb) (g0 : Nat → Bool) (s o r c : Nat) (ho : o ≤ 24) (hs : s < n) (hg0 : g0 s = false) (g' : Nat → Bool) (hC : Comp n nx g0 s g' c)
    (hnext : ∀ (gone : List Bool), Ls n gone g' → ∃ k, kimberliteref04_Odd.l1 k (n : Int) tb gone ((o + c % 2 : Nat) : Int) ((s + 1 : Nat) : Int) = some (r : Int)) :
    ∀ (d p : Nat) (gone : List Bool) (g : Nat → Bool) (L : List Int), n < p + d → Ls n gone g → Bfs n nx g0 s g L p 0 → ∃ k, kimberliteref04_Odd.l2 k (n : Int) tb gone (o : Int) (s : Int) L (p : Int) = some (r : Int)
  | 0, p, gone, g, L, hd, hL, hB => by
    have := hB.num
    have := cnt_le g n
    have := hB.ple
    omega
  | d + 1, p, gone, g, L, hd, hL, hB => by
    have hlen : L.length ≤ 24 := by have := hB.num; have := cnt_le g n; omega
    by_cases hp : p < L.length
    · obtain ⟨k, hk⟩ := bfs_scan n hn nx tb ht g0 s o r p hg0 (fun gone g L h1 h2 => bfs_all n hn nx tb ht g0 s o r c ho hs hg0 g' hC hnext d (p + 1) gone g L (by omega) h1 h2) n 0 gone g L (by omega) hp hL hB
      refine ⟨k + 1, ?_⟩
      simp only [kimberliteref04_Odd.l2]
      rw [if_pos (by omega)]
      exact hk
    · have hpe : p = L.length := by have := hB.ple; omega
      have hC2 : Comp n nx g0 s g L.length := ⟨hB.sub, hB.st, hB.rch, fun v u hv hg hx hu => by
        obtain ⟨q, h1, h2⟩ := hB.has v hv hg
        exact hB.clo q (by omega) v h2 u hu hx, hB.num⟩
      obtain ⟨h1, h2⟩ := hC2.unique hg0 hC
      subst h1
      subst h2
      obtain ⟨k, hk⟩ := hnext gone hL
      refine ⟨k + 1, ?_⟩
      simp only [kimberliteref04_Odd.l2]
      rw [if_neg (by omega), w64s (by omega), w64 (by omega) (by omega)]
      rw [show (o : Int) + (L.length : Int) % 2 = ((o + L.length % 2 : Nat) : Int) by omega]
      exact hk
theorem odd_rounds (n : Nat) (hn : n ≤ 24) (nx : Nat → Nat → Bool) (tb : List (List Bool)) (ht : Nr n nx tb) (r : Nat) : ∀ (d s o : Nat) (gone : List Bool) (g : Nat → Bool), n = s + d → o ≤ s → Ls n gone g → oddB n nx d s o g = some r →
    ∃ k, kimberliteref04_Odd.l1 k (n : Int) tb gone (o : Int) (s : Int) = some (r : Int)
  | 0, s, o, gone, g, hd, ho, hL, h => by
    simp only [oddB, Option.some.injEq] at h
    subst h
    refine ⟨1, ?_⟩
    simp only [kimberliteref04_Odd.l1]
    rw [if_neg (by omega)]
  | d + 1, s, o, gone, g, hd, ho, hL, h => by
    simp only [oddB] at h
    cases hg : g s with
    | true =>
      rw [if_pos hg] at h
      obtain ⟨k, hk⟩ := odd_rounds n hn nx tb ht r d (s + 1) o gone g (by omega) (by omega) hL h
      refine ⟨k + 1, ?_⟩
      simp only [kimberliteref04_Odd.l1]
      rw [if_pos (by omega), if_pos (by omega), if_pos (by rw [hL.1]; omega), hL.rd, hg, if_pos rfl, w64s (by omega)]
      exact hk
    | false =>
      rw [if_neg (by rw [hg]; decide)] at h
      have hs : s < n := by omega
      obtain ⟨c, g', he, hC⟩ := group_ok (nx := nx) hn K0 s g hs hg (by unfold K0; omega)
      rw [he, Option.bind_some] at h
      obtain ⟨k, hk⟩ := bfs_all n hn nx tb ht g s o r c (by omega) hs hg g' hC (fun gone' hL' => odd_rounds n hn nx tb ht r d (s + 1) (o + c % 2) gone' g' (by omega) (by omega) hL' h) (n + 1) 0 (gone.set s true) (upd g s true) [(s : Int)] (by omega) (hL.put s hs)
        ⟨fun v hv => by
          by_cases h : v = s
          · subst h; exact upd_is
          · rw [upd_no h]; exact hv, upd_is, fun v hv => by
          by_cases h : v = s
          · subst h; exact Or.inr Rch.start
          · rw [upd_no h] at hv; exact Or.inl hv, fun q hq => by
          obtain rfl : q = 0 := by simpa using hq
          exact ⟨s, hs, rfl, upd_is, hg⟩, fun v hv hv0 => by
          by_cases h : v = s
          · subst h; exact ⟨0, by simp, rfl⟩
          · rw [upd_no h, hv0] at hv; exact absurd hv (by simp), fun q hq => absurd hq (by omega), fun v _ u hu _ => absurd hu (by omega), cnt_upd hs hg, by simp⟩
      refine ⟨k + 1, ?_⟩
      simp only [kimberliteref04_Odd.l1]
      rw [if_pos (by omega), if_pos (by omega), if_pos (by rw [hL.1]; omega), hL.rd, hg, if_neg (by decide), Int.toNat_natCast]
      exact hk
theorem odd_marks (n : Nat) (hn : n ≤ 24) (tb : List (List Bool)) (zs : List Int) (hz : zs.length < 1000000000) (r : Nat) (g' : Nat → Bool)
    (hnext : ∀ (gone : List Bool), Ls n gone g' → ∃ k, kimberliteref04_Odd.l1 k (n : Int) tb gone 0 0 = some (r : Int)) : ∀ (d i : Nat) (gone : List Bool) (g : Nat → Bool), zs.length = i + d → Ls n gone g → oddA n zs d i g = some g' →
    ∃ k, kimberliteref04_Odd.l0 k (n : Int) zs tb gone (i : Int) = some (r : Int)
  | 0, i, gone, g, hd, hL, h => by
    simp only [oddA, Option.some.injEq] at h
    subst h
    obtain ⟨k, hk⟩ := hnext gone hL
    refine ⟨k + 1, ?_⟩
    simp only [kimberliteref04_Odd.l0]
    rw [if_neg (by omega)]
    exact hk
  | d + 1, i, gone, g, hd, hL, h => by
    simp only [oddA] at h
    split at h
    · exact absurd h (by simp)
    split at h
    · exact absurd h (by simp)
    split at h
    · exact absurd h (by simp)
    rename_i c1 c2 c3
    obtain ⟨k, hk⟩ := odd_marks n hn tb zs hz r g' hnext d (i + 1) (gone.set (zs.getD i 0).toNat true) _ (by omega) (hL.put (zs.getD i 0).toNat (by omega)) h
    refine ⟨k + 1, ?_⟩
    simp only [kimberliteref04_Odd.l0]
    rw [if_pos (by omega), if_pos (by omega), rdInt, if_pos (by omega), if_pos (by rw [hL.1]; omega), w64s (by omega)]
    exact hk
theorem odd_le {α : Type} {f : Nat → Option α} (h : ∀ k, LeO (f k) (f (k + 1))) {k k' : Nat} (hk : k ≤ k') {r : α} (hr : f k = some r) : f k' = some r := by
  induction hk with
  | refl => exact hr
  | step _ ih => exact h _ _ ih
/-- The program's count always comes out. -/
theorem oddB_ok {n : Nat} {nx : Nat → Nat → Bool} (hn : n ≤ 24) : ∀ (d s o : Nat) (g : Nat → Bool), n = s + d → ∃ r, oddB n nx d s o g = some r
  | 0, s, o, g, _ => ⟨o, rfl⟩
  | d + 1, s, o, g, h => by
    simp only [oddB]
    cases hg : g s with
    | true =>
      rw [if_pos rfl]
      exact oddB_ok hn d (s + 1) o g (by omega)
    | false =>
      rw [if_neg (by decide)]
      obtain ⟨c, g', he, _⟩ := group_ok (nx := nx) hn K0 s g (by omega) hg (by unfold K0; omega)
      rw [he, Option.bind_some]
      exact oddB_ok hn d (s + 1) _ g' (by omega)
theorem refOdd_eq {a0 : Int} {l : List S41} {m : Nat} {nx : Nat → Nat → Bool} (h : chkS a0 (prs l) = .ok (m, nx)) (zs : List Int) (hz : zs.length < 1000000000) {g : Nat → Bool} (hg : oddA m zs zs.length 0 (fun _ => false) = some g) {r : Nat} (hr : oddB m nx m 0 0 g = some r) :
    ∃ k0, ∀ k, k0 ≤ k → kimberliteref04_Odd.f k a0 l zs = some (r : Int) := by
  obtain ⟨t, ht, hN⟩ := near_eq h 200 (by omega)
  obtain ⟨rfl, hm, hl, hc⟩ := chkS_ok h
  obtain ⟨k1, hk1⟩ := odd_marks m hm t zs hz r g (fun gone hL => odd_rounds m hm nx t hN r m 0 0 gone g (by omega) (by omega) hL hr) zs.length 0 (List.replicate m false) (fun _ => false) (by omega) ⟨by rw [List.length_replicate], fun v => by
    by_cases hv : v < m
    · exact getD_rep _ _ _ _ hv
    · rw [List.getD_eq_getElem?_getD, List.getElem?_eq_none (by rw [List.length_replicate]; omega)]; rfl⟩ hg
  refine ⟨k1 + 200, fun k hk => ?_⟩
  unfold kimberliteref04_Odd.f
  rw [odd_le (fun k => kimberliteref04_Near.mono _ _ k) (show 200 ≤ k by omega) ht]
  simp only [Option.bind_some]
  rw [if_pos (by omega), if_pos (by omega), Int.toNat_natCast]
  exact odd_le (fun k => (kimberliteref04_Odd.mono_l k).1 _ _ _ _ _) (show k1 ≤ k by omega) hk1
end Go.Proofs.Ythhgdndjnflklaa.PP
