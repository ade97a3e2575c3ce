/- The law PairGallai, as plain Lean: at every input some fuel gives true. No conditions. -/
import Derived.Test.YthhgdndjnflklaaF8
import Derived.Test.YthhgdndjnflklaaK2
import Derived.Test.YthhgdndjnflklaaK7
import Derived.Test.YthhgdndjnflklaaQ22
namespace Go.Proofs.Ythhgdndjnflklaa.PP
open Go.Proofs.Ythhgdndjnflklaa.PP.Small Go.RowKit Go.Proofs.YthhgdndjnflklaaW.PrintWords Go.Proofs.YthhgdndjnflklaaW.PrintLast Go.Proofs.YthhgdndjnflklaaW.PrintMore
set_option linter.unusedVariables false
set_option linter.unusedSimpArgs false
theorem errGa {n : Int} {es : List (Int × Int)} {x : Int} (h : chkS n es = .error x) : x ≠ 0 := by
  unfold chkS at h
  split at h
  · injection h with h; omega
  · split at h
    · injection h with h; omega
    · cases hc : chkL n.toNat es (fun _ _ => false) with
      | none => rw [hc] at h; injection h with h; omega
      | some ny => rw [hc] at h; injection h
theorem rdIl (n : Nat) (f : Nat → Nat) (i : Nat) (h : i < n) : rd (ilist n f) (i : Int) = (f i : Int) := by
  rw [rdInt, ilist_get_ n f i h]
/-- The group so far. -/
structure Gq (n i : Nat) (U : Nat → Bool) (ba : Nat → Nat) (L : List Int) (inn : List Bool) (c : Nat → Bool) : Prop where
  ls : Ls n inn c
  num : ∀ q : Nat → Bool, (L.countP fun x => q x.toNat) = cnt (fun v => c v && q v) n
  el : ∀ t, t < L.length → ∃ v : Nat, v < n ∧ L.getD t 0 = (v : Int) ∧ c v = true
  st : c i = true
  u : ∀ v, v < n → c v = true → U v = true ∧ ba v = ba i
theorem Gq.len {n i : Nat} {U : Nat → Bool} {ba : Nat → Nat} {L : List Int} {inn : List Bool} {c : Nat → Bool} (h : Gq n i U ba L inn c) : L.length ≤ n := by
  have h1 := h.num (fun _ => true)
  have h2 := cnt_le (fun v => c v && true) n
  rw [List.countP_true] at h1
  omega
theorem Gq.mem {n i : Nat} {U : Nat → Bool} {ba : Nat → Nat} {L : List Int} {inn : List Bool} {c : Nat → Bool} (h : Gq n i U ba L inn c) {v : Nat} (hv : v < n) (hc : c v = true) : ∃ t, t < L.length ∧ L.getD t 0 = (v : Int) := by
  have h1 := h.num (fun x => x == v)
  have h2 := cnt_out (p := fun x => c x && (x == v)) (a := v) hv (by show (c v && (v == v)) = true; rw [hc, beq_self_eq_true]; rfl)
  have h3 : 0 < L.countP (fun x => x.toNat == v) := by omega
  obtain ⟨x, h4, h5⟩ := List.countP_pos_iff.mp h3
  obtain ⟨t, h6, h7⟩ := List.getElem_of_mem h4
  refine ⟨t, h6, ?_⟩
  obtain ⟨w, h8, h9, _⟩ := h.el t h6
  have h10 : L.getD t 0 = x := by rw [List.getD_eq_getElem?_getD, List.getElem?_eq_getElem h6]; exact h7
  rw [h10] at h9 ⊢
  have h11 := beq_iff_eq.mp h5
  omega
theorem Gq.push {n i : Nat} {U : Nat → Bool} {ba : Nat → Nat} {L : List Int} {inn : List Bool} {c : Nat → Bool} (h : Gq n i U ba L inn c) {j : Nat} (hj : j < n) (hc : c j = false) (hu : U j = true) (hb : ba j = ba i) : Gq n i U ba (L ++ [(j : Int)]) (inn.set j true) (upd c j true) := by
  refine ⟨h.ls.put j hj, fun q => ?_, fun t ht => ?_, ?_, fun v hv hcv => ?_⟩
  · rw [List.countP_append, h.num q, List.countP_singleton, Int.toNat_natCast]
    have h2 : cnt (fun v => (upd c j true v && q v) && !(v == j)) n = cnt (fun v => c v && q v) n := cnt_congr (fun v hv => by
      by_cases hvj : v = j
      · rw [hvj, hc, beq_self_eq_true]; simp
      · rw [upd_no hvj, beq_eq_false_iff_ne.mpr hvj]; simp)
    cases hq : q j with
    | true =>
      have h1 := cnt_out (p := fun v => upd c j true v && q v) (a := j) hj (by show (upd c j true j && q j) = true; rw [upd_is, hq]; rfl)
      rw [if_pos rfl]
      omega
    | false =>
      rw [if_neg (by decide), ← h2]
      refine cnt_congr (fun v hv => ?_)
      by_cases hvj : v = j
      · rw [hvj, hq, beq_self_eq_true]; simp
      · rw [beq_eq_false_iff_ne.mpr hvj]; simp
  · rw [List.length_append, List.length_singleton] at ht
    by_cases htl : t < L.length
    · obtain ⟨v, h1, h2, h3⟩ := h.el t htl
      refine ⟨v, h1, by rw [getD_app _ _ _ htl]; exact h2, ?_⟩
      by_cases hvj : v = j
      · rw [hvj, upd_is]
      · rw [upd_no hvj]; exact h3
    · refine ⟨j, hj, by rw [show t = L.length by omega, getD_end], upd_is⟩
  · by_cases hij : i = j
    · rw [hij, upd_is]
    · rw [upd_no hij]; exact h.st
  · by_cases hvj : v = j
    · rw [hvj]; exact ⟨hu, hb⟩
    · rw [upd_no hvj] at hcv; exact h.u v hv hcv
section
variable {m : Nat} {nx : Nat → Nat → Bool} {M mt p : Nat → Nat} {U I : Nat → Bool} {ba : Nat → Nat} {tb : List (List Bool)}
/-- The rounds behind this one return true. -/
def Nxt (m : Nat) (mt p : Nat → Nat) (tb : List (List Bool)) (i : Nat) : Prop := ∀ seen : List Bool, seen.length = m → ∃ K, kimberlitelaw04_PairGallai.l0 K (m : Int) (ilist m mt) (ilist m p) tb seen ((i + 1 : Nat) : Int) = some true
theorem gal_l3 (hm : m ≤ 24) (hle : ∀ v, v < m → mt v ≤ m) {i : Nat} (hnext : Nxt m mt p tb i) (hi : i < m) {L : List Int} {inn : List Bool} {c : Nat → Bool} (h : Gq m i U ba L inn c) (h1 : cnt (fun v => c v && exC m c mt v) m = 1) :
    ∀ (d t : Nat) (seen : List Bool), t + d = L.length → seen.length = m → ∃ K, kimberlitelaw04_PairGallai.l3 K (m : Int) (ilist m mt) (ilist m p) tb seen (i : Int) L inn (((L.take t).countP fun x => exC m c mt x.toNat : Nat) : Int) (t : Int) = some true
  | 0, t, seen, hd, hs => by
    obtain ⟨K, hK⟩ := hnext seen hs
    refine ⟨K + 1, ?_⟩
    simp only [kimberlitelaw04_PairGallai.l3]
    rw [if_neg (by omega), List.take_of_length_le (by omega), h.num, h1, if_pos (by decide), w64s (by omega)]
    exact hK
  | d + 1, t, seen, hd, hs => by
    have htl : t < L.length := by omega
    obtain ⟨v, h2, h3, h4⟩ := h.el t htl
    have hlen := h.len
    obtain ⟨K, hK⟩ := gal_l3 hm hle hnext hi h h1 d (t + 1) (seen.set v true) (by omega) (by rw [List.length_set]; exact hs)
    have hget : L[t] = (v : Int) := by rw [List.getD_eq_getElem?_getD, List.getElem?_eq_getElem htl] at h3; exact h3
    rw [List.take_succ_eq_append_getElem htl, List.countP_append, List.countP_singleton, hget, Int.toNat_natCast] at hK
    have hcl : (L.take t).countP (fun x => exC m c mt x.toNat) ≤ t := by
      have := List.countP_le_length (p := fun x : Int => exC m c mt x.toNat) (l := L.take t)
      rw [List.length_take] at this
      omega
    generalize (L.take t).countP (fun x => exC m c mt x.toNat) = z at hK hcl ⊢
    refine ⟨K + 1, ?_⟩
    have hv := hle v h2
    simp only [kimberlitelaw04_PairGallai.l3]
    rw [if_pos (by omega), if_pos (by omega), rdInt, h3, if_pos (by omega), if_pos (by omega), Option.bind_some, Int.toNat_natCast, if_pos (by rw [ilist_len_]; omega), rdIl _ _ _ h2, w64s (by omega), w64s (by omega)]
    by_cases hmv : mt v < m
    · rw [if_neg (by omega), if_pos (by omega), if_pos (by rw [h.ls.1]; omega), h.ls.rd]
      cases hcm : c (mt v) with
      | true =>
        rw [if_pos rfl]
        have : exC m c mt v = false := by unfold exC; rw [decide_eq_true hmv, hcm]; rfl
        rw [this, if_neg (by decide), Nat.add_zero] at hK
        exact hK
      | false =>
        rw [if_neg (by decide)]
        have : exC m c mt v = true := by unfold exC; rw [decide_eq_true hmv, hcm]; rfl
        rw [this, if_pos rfl] at hK
        exact hK
    · rw [if_pos (by omega)]
      have : exC m c mt v = true := by unfold exC; rw [decide_eq_false hmv]; rfl
      rw [this, if_pos rfl] at hK
      exact hK
/-- One stone's neighbours. -/
theorem gal_l2 (hm : m ≤ 24) (ht : Nr m nx tb) (hp : ∀ v, v < m → (p v = 0 ↔ U v = true)) (e : GE m nx M U I ba) {i kk : Nat} {seen : List Bool}
    (hend : ∀ (L : List Int) (inn : List Bool) (c : Nat → Bool), Gq m i U ba L inn c → kk + 1 ≤ L.length → (∀ t, t < kk + 1 → ∀ u, u < m → nx (L.getD t 0).toNat u = true → U u = true → c u = true) → ∃ K, kimberlitelaw04_PairGallai.l1 K (m : Int) (ilist m mt) (ilist m p) tb seen (i : Int) L inn ((kk + 1 : Nat) : Int) = some true) :
    ∀ (d j : Nat) (L : List Int) (inn : List Bool) (c : Nat → Bool), j + d = m → Gq m i U ba L inn c → kk < L.length → (∀ t, t < kk → ∀ u, u < m → nx (L.getD t 0).toNat u = true → U u = true → c u = true) → (∀ u, u < j → nx (L.getD kk 0).toNat u = true → U u = true → c u = true) →
    ∃ K, kimberlitelaw04_PairGallai.l2 K (m : Int) (ilist m mt) (ilist m p) tb seen (i : Int) L inn (kk : Int) (j : Int) = some true
  | 0, j, L, inn, c, hd, h, hk, h1, h2 => by
    have hlen := h.len
    obtain ⟨K, hK⟩ := hend L inn c h (by omega) (fun t ht u hu => by
      by_cases htk : t = kk
      · rw [htk]; exact h2 u (by omega)
      · exact h1 t (by omega) u hu)
    refine ⟨K + 1, ?_⟩
    simp only [kimberlitelaw04_PairGallai.l2]
    rw [if_neg (by omega), w64s (by omega)]
    exact hK
  | d + 1, j, L, inn, c, hd, h, hk, h1, h2 => by
    have hj : j < m := by omega
    have hlen := h.len
    obtain ⟨v, h3, h4, h5⟩ := h.el kk hk
    have hget : (L.getD kk 0).toNat = v := by rw [h4, Int.toNat_natCast]
    obtain ⟨htl, htr⟩ := ht
    obtain ⟨htl2, htv⟩ := htr v h3
    have hrd : rdOf false (tb.getD v []) (j : Int) = nx v j := by
      unfold rdOf
      rw [Int.toNat_natCast]
      exact htv j hj
    have go : ∀ (L' : List Int) (inn' : List Bool) (c' : Nat → Bool), Gq m i U ba L' inn' c' → kk < L'.length → (∀ t, t ≤ kk → L'.getD t 0 = L.getD t 0) → (∀ x, c x = true → c' x = true) → (nx v j = true → U j = true → c' j = true) →
        ∃ K, kimberlitelaw04_PairGallai.l2 K (m : Int) (ilist m mt) (ilist m p) tb seen (i : Int) L' inn' (kk : Int) ((j + 1 : Nat) : Int) = some true := fun L' inn' c' h' hk' hL hc hjn =>
      gal_l2 hm ⟨htl, htr⟩ hp e hend d (j + 1) L' inn' c' (by omega) h' hk' (fun t ht u hu hx hu2 => by rw [hL t (by omega)] at hx; exact hc u (h1 t ht u hu hx hu2)) (fun u hu hx hu2 => by
        rw [hL kk (Nat.le_refl _)] at hx
        by_cases huj : u = j
        · rw [huj] at hx hu2 ⊢; rw [hget] at hx; exact hjn hx hu2
        · exact hc u (h2 u (by omega) hx hu2))
    have step : ∀ (r : Option Bool) (K : Nat), (if nx v j = true then (if p j = 0 then (if c j = true then kimberlitelaw04_PairGallai.l2 K (m : Int) (ilist m mt) (ilist m p) tb seen (i : Int) L inn (kk : Int) ((j + 1 : Nat) : Int) else kimberlitelaw04_PairGallai.l2 K (m : Int) (ilist m mt) (ilist m p) tb seen (i : Int) (L ++ [(j : Int)]) (inn.set j true) (kk : Int) ((j + 1 : Nat) : Int)) else kimberlitelaw04_PairGallai.l2 K (m : Int) (ilist m mt) (ilist m p) tb seen (i : Int) L inn (kk : Int) ((j + 1 : Nat) : Int)) else kimberlitelaw04_PairGallai.l2 K (m : Int) (ilist m mt) (ilist m p) tb seen (i : Int) L inn (kk : Int) ((j + 1 : Nat) : Int)) = r → kimberlitelaw04_PairGallai.l2 (K + 1) (m : Int) (ilist m mt) (ilist m p) tb seen (i : Int) L inn (kk : Int) (j : Int) = r := by
      intro r K hr
      simp only [kimberlitelaw04_PairGallai.l2]
      rw [if_pos (by omega), if_pos (by omega), if_pos (by omega), rdInt, h4, if_pos (by omega), if_pos (by omega), if_pos (by omega), rdL5, if_pos (by rw [htl2]; omega), hrd, w64s (by omega)]
      cases hnx : nx v j with
      | false =>
        rw [hnx, if_neg (by decide)] at hr
        rw [if_neg (by decide)]
        exact hr
      | true =>
        rw [hnx, if_pos rfl] at hr
        rw [if_pos rfl, if_pos (by rw [ilist_len_]; omega), rdIl _ _ _ hj]
        by_cases hpj : p j = 0
        · rw [if_pos hpj] at hr
          rw [if_pos (by omega), if_pos (by rw [h.ls.1]; omega), h.ls.rd]
          cases hcj : c j with
          | true =>
            rw [hcj, if_pos rfl] at hr
            rw [if_pos rfl]
            exact hr
          | false =>
            rw [hcj, if_neg (by decide)] at hr
            rw [if_neg (by decide), if_pos (by omega), Int.toNat_natCast]
            exact hr
        · rw [if_neg hpj] at hr
          rw [if_neg (by omega)]
          exact hr
    cases hnx : nx v j with
    | false =>
      obtain ⟨K, hK⟩ := go L inn c h hk (fun _ _ => rfl) (fun _ hx => hx) (fun hx => by rw [hnx] at hx; exact absurd hx (by decide))
      exact ⟨K + 1, step _ K (by rw [hnx, if_neg (by decide)]; exact hK)⟩
    | true =>
      by_cases hpj : p j = 0
      · cases hcj : c j with
        | true =>
          obtain ⟨K, hK⟩ := go L inn c h hk (fun _ _ => rfl) (fun _ hx => hx) (fun _ _ => hcj)
          exact ⟨K + 1, step _ K (by rw [hnx, if_pos rfl, if_pos hpj, hcj, if_pos rfl]; exact hK)⟩
        | false =>
          have huj := (hp j hj).mp hpj
          obtain ⟨h6, h7⟩ := h.u v h3 h5
          have hb : ba j = ba i := by
            rcases e.nbr v j h3 hj h6 hnx with ⟨_, h8⟩ | h8
            · exact h8.trans h7
            · exact (tf huj (e.ui j h8)).elim
          obtain ⟨K, hK⟩ := go (L ++ [(j : Int)]) (inn.set j true) (upd c j true) (h.push hj hcj huj hb) (by rw [List.length_append]; omega) (fun t ht => getD_app _ _ _ (by omega)) (fun x hx => by
            by_cases hxj : x = j
            · rw [hxj, upd_is]
            · rw [upd_no hxj]; exact hx) (fun _ _ => upd_is)
          exact ⟨K + 1, step _ K (by rw [hnx, if_pos rfl, if_pos hpj, hcj, if_neg (by decide)]; exact hK)⟩
      · obtain ⟨K, hK⟩ := go L inn c h hk (fun _ _ => rfl) (fun _ hx => hx) (fun _ hu => absurd ((hp j hj).mpr hu) hpj)
        exact ⟨K + 1, step _ K (by rw [hnx, if_pos rfl, if_neg hpj]; exact hK)⟩
theorem gal_l1 (hm : m ≤ 24) (hG : Gr m nx) (hM : Mat m nx M) (hmt : Mat m nx mt) (hc : cov m M ≤ cov m mt) (ht : Nr m nx tb) (hp : ∀ v, v < m → (p v = 0 ↔ U v = true)) (e : GE m nx M U I ba) {i : Nat} (hi : i < m) (hnext : Nxt m mt p tb i) {seen : List Bool} (hs : seen.length = m) :
    ∀ (d kk : Nat) (L : List Int) (inn : List Bool) (c : Nat → Bool), kk + d = m + 1 → kk ≤ L.length → Gq m i U ba L inn c → (∀ t, t < kk → ∀ u, u < m → nx (L.getD t 0).toNat u = true → U u = true → c u = true) →
    ∃ K, kimberlitelaw04_PairGallai.l1 K (m : Int) (ilist m mt) (ilist m p) tb seen (i : Int) L inn (kk : Int) = some true
  | 0, kk, L, inn, c, hd, hk, h, h1 => by
    have := h.len
    omega
  | d + 1, kk, L, inn, c, hd, hk, h, h1 => by
    by_cases hkl : kk < L.length
    · obtain ⟨K, hK⟩ := gal_l2 (mt := mt) (p := p) (seen := seen) hm ht hp e (i := i) (kk := kk) (fun L' inn' c' h' hk' h1' => gal_l1 hm hG hM hmt hc ht hp e hi hnext hs d (kk + 1) L' inn' c' (by omega) hk' h' h1') m 0 L inn c (by omega) h hkl h1 (fun u hu => absurd hu (by omega))
      refine ⟨K + 1, ?_⟩
      simp only [kimberlitelaw04_PairGallai.l1]
      rw [if_pos (by omega)]
      exact hK
    · have hcl : ∀ v u, v < m → u < m → c v = true → nx v u = true → U u = true → c u = true := fun v u hv hu hcv hx hu2 => by
        obtain ⟨t, h2, h3⟩ := h.mem hv hcv
        exact h1 t (by omega) u hu (by rw [h3, Int.toNat_natCast]; exact hx) hu2
      have hone := e.lone hG hM hi h.st (fun v hv hcv => h.u v hv hcv) hcl hmt hc
      obtain ⟨K, hK⟩ := gal_l3 (p := p) (tb := tb) hm hmt.le hnext hi h hone L.length 0 seen (by omega) hs
      refine ⟨K + 1, ?_⟩
      simp only [kimberlitelaw04_PairGallai.l1]
      rw [if_neg (by omega)]
      exact hK
theorem gal_l0 (hm : m ≤ 24) (hG : Gr m nx) (hM : Mat m nx M) (hmt : Mat m nx mt) (hc : cov m M ≤ cov m mt) (ht : Nr m nx tb) (e : GE m nx M U I ba)
    (hp : ∀ v, v < m → (p v = 0 ↔ U v = true) ∧ (p v = 1 ↔ I v = true) ∧ (p v = 2 ↔ U v = false ∧ I v = false)) : ∀ (d i : Nat) (seen : List Bool), i + d = m → seen.length = m → ∃ K, kimberlitelaw04_PairGallai.l0 K (m : Int) (ilist m mt) (ilist m p) tb seen (i : Int) = some true
  | 0, i, seen, hd, hs => by
    obtain ⟨j, hj⟩ : ∃ j : Nat, 400 ≤ j := ⟨400, Nat.le_refl _⟩
    refine ⟨j + 1, ?_⟩
    simp only [kimberlitelaw04_PairGallai.l0]
    rw [if_neg (by omega), alive_eq j (by omega)]
    rfl
  | d + 1, i, seen, hd, hs => by
    have hi : i < m := by omega
    have hnext : Nxt m mt p tb i := fun seen' hs' => gal_l0 hm hG hM hmt hc ht e hp d (i + 1) seen' (by omega) hs'
    obtain ⟨p0, p1, p2⟩ := hp i hi
    obtain ⟨r1, r2, r3⟩ := e.rest hG hM hmt hc
    -- behind the first test
    have hj4 : ∃ K, kimberlitelaw04_PairGallai.j4 K (m : Int) (ilist m mt) (ilist m p) tb seen (i : Int) true = some true := by
      obtain ⟨K, hK⟩ := hnext seen hs
      refine ⟨K + 1, ?_⟩
      simp only [kimberlitelaw04_PairGallai.j4]
      rw [if_pos trivial, w64s (by omega)]
      exact hK
    have hj3 : ∃ K, kimberlitelaw04_PairGallai.j3 K (m : Int) (ilist m mt) (ilist m p) tb seen (i : Int) false = some true := by
      by_cases hp0 : p i = 0
      · have hu := p0.mp hp0
        have hj4' : ∃ K, kimberlitelaw04_PairGallai.j4 K (m : Int) (ilist m mt) (ilist m p) tb seen (i : Int) (rdOf false seen (i : Int)) = some true := by
          cases hsi : rdOf false seen (i : Int) with
          | true => exact hj4
          | false =>
            have hG0 : Gq m i U ba [(i : Int)] ((List.replicate m false).set i true) (upd (fun _ => false) i true) := by
              have hls : Ls m (List.replicate m false) (fun _ => false) := ⟨by rw [List.length_replicate], fun v => by
                by_cases hv : v < m
                · exact getD_rep _ _ _ _ hv
                · rw [List.getD_eq_getElem?_getD, List.getElem?_eq_none (by rw [List.length_replicate]; omega)]; rfl⟩
              refine ⟨hls.put i hi, fun q => ?_, fun t ht => ?_, upd_is, fun v hv hcv => ?_⟩
              · rw [List.countP_singleton, Int.toNat_natCast]
                cases hq : q i with
                | true =>
                  have h1 := cnt_out (p := fun v => upd (fun _ => false) i true v && q v) (a := i) hi (by show (upd (fun _ => false) i true i && q i) = true; rw [upd_is, hq]; rfl)
                  have h2 : cnt (fun v => (upd (fun _ => false) i true v && q v) && !(v == i)) m = 0 := cnt_zero (fun v hv => by
                    by_cases hvi : v = i
                    · rw [hvi, beq_self_eq_true]; simp
                    · rw [upd_no hvi]; rfl)
                  rw [if_pos rfl]
                  omega
                | false =>
                  rw [if_neg (by decide)]
                  exact (cnt_zero (fun v hv => by
                    by_cases hvi : v = i
                    · rw [hvi, hq]; simp
                    · rw [upd_no hvi]; rfl)).symm
              · rw [List.length_singleton] at ht
                obtain rfl : t = 0 := by omega
                exact ⟨i, hi, rfl, upd_is⟩
              · by_cases hvi : v = i
                · rw [hvi]; exact ⟨hu, rfl⟩
                · rw [upd_no hvi] at hcv; exact absurd hcv (by decide)
            obtain ⟨K, hK⟩ := gal_l1 hm hG hM hmt hc ht (fun v hv => (hp v hv).1) e hi hnext hs (m + 1) 0 [(i : Int)] ((List.replicate m false).set i true) _ (by omega) (by omega) hG0 (fun t ht => absurd ht (by omega))
            refine ⟨K + 1, ?_⟩
            simp only [kimberlitelaw04_PairGallai.j4]
            rw [if_neg (by decide), if_pos (by omega), if_pos (by omega), Option.bind_some, if_pos (by omega), if_pos (by rw [List.length_replicate]; omega), Int.toNat_natCast, Int.toNat_natCast]
            exact hK
        obtain ⟨K, hK⟩ := hj4'
        refine ⟨K + 1, ?_⟩
        simp only [kimberlitelaw04_PairGallai.j3]
        rw [if_neg (by decide), if_pos (by omega), if_pos (by rw [ilist_len_]; omega), rdIl _ _ _ hi, if_pos (by omega), if_pos (by omega)]
        exact hK
      · obtain ⟨K, hK⟩ := hj4
        refine ⟨K + 1, ?_⟩
        simp only [kimberlitelaw04_PairGallai.j3]
        rw [if_neg (by decide), if_pos (by omega), if_pos (by rw [ilist_len_]; omega), rdIl _ _ _ hi, if_neg (by omega)]
        exact hK
    obtain ⟨K, hK⟩ := hj3
    refine ⟨K + 1, ?_⟩
    simp only [kimberlitelaw04_PairGallai.l0]
    rw [if_pos (by omega), if_pos (by omega), if_pos (by rw [ilist_len_]; omega), rdIl _ _ _ hi]
    by_cases hp1 : p i = 1
    · have hii := p1.mp hp1
      obtain ⟨h1, h2⟩ := r2 i hi hii
      have h3 := (hp _ h1).1.mpr h2
      rw [if_pos (by omega), if_pos (by rw [ilist_len_]; omega), rdIl _ _ _ hi, if_neg (by omega), if_pos (by omega), if_pos (by rw [ilist_len_]; omega), rdIl _ _ _ h1, if_pos (by omega), if_neg (by omega)]
      exact hK
    · rw [if_neg (by omega)]
      by_cases hp2 : p i = 2
      · obtain ⟨h1, h2⟩ := p2.mp hp2
        have h3 : mt i < m := by
          have := hmt.le i hi
          refine Classical.byContradiction (fun hh => ?_)
          exact tf (r1 i hi (by omega)) h1
        have h4 := hmt.near i hi h3
        have h5 := hmt.back i hi h3
        have h6 : U (mt i) = false := by
          cases hh : U (mt i) with
          | false => rfl
          | true =>
            rcases e.nbr _ i h3 hi hh (by rw [hG.sym]; exact h4) with ⟨h7, _⟩ | h7
            · exact (tf h7 h1).elim
            · exact (tf h7 h2).elim
        have h7 : I (mt i) = false := by
          cases hh : I (mt i) with
          | false => rfl
          | true =>
            have := (r2 _ h3 hh).2
            rw [h5] at this
            exact (tf this h1).elim
        have h8 := (hp _ h3).2.2.mpr ⟨h6, h7⟩
        rw [if_pos (by omega), if_pos (by rw [ilist_len_]; omega), rdIl _ _ _ hi, if_neg (by omega), if_pos (by omega), if_pos (by rw [ilist_len_]; omega), rdIl _ _ _ h3, h8]
        exact hK
      · rw [if_neg (by omega)]
        exact hK
end
theorem pure_PairGallai (a0 : Int) (l1 : List S41) (w0 : (Lit.int .i64 a0).wf = true) : ∃ k, kimberlitelaw04_PairGallai.f k a0 l1 = some true := by
  by_cases hfew : l1.length ≤ 140
  · cases hc : chkS a0 (prs l1) with
    | error x =>
      obtain ⟨j, hj⟩ : ∃ j : Nat, 400 ≤ j := ⟨400, Nat.le_refl _⟩
      refine ⟨j + 1, ?_⟩
      unfold kimberlitelaw04_PairGallai.f
      rw [few_eq]
      simp only [Option.bind_some]
      rw [decide_eq_true (show l1.length ≤ 140 ∧ ([] : List Int).length ≤ 140 from ⟨hfew, by simp⟩), if_pos rfl]
      unfold pair_Match.f pair_Parts.f
      rw [match_err hc, parts_err hc, Option.bind_some, Option.bind_some]
      dsimp only
      rw [if_neg (errGa hc)]
      simp only [kimberlitelaw04_PairGallai.j0]
      rw [if_pos trivial, if_pos trivial, alive_eq j (by omega)]
      rfl
    | ok g =>
      obtain ⟨m, nx⟩ := g
      obtain ⟨hG, hm, hm0⟩ := chkS_gr' hc
      obtain ⟨mt, k, h1, hk, hmt, hmtk, _⟩ := match_lex hc
      obtain ⟨p, h2, hps⟩ := parts_tot hc
      obtain ⟨tb, h3, hN⟩ := near_eq hc 200 (by omega)
      obtain ⟨U, I, ba, e⟩ := ge_ok hm hG hmt (fun N hN => by have := hk.2 N hN; omega)
      obtain ⟨K, hK⟩ := gal_l0 hm hG hmt hmt (Nat.le_refl _) hN e (fun v hv => e.part1 hG hmt hk hmtk hv (hps v hv)) m 0 (List.replicate m false) (by omega) (by rw [List.length_replicate])
      obtain ⟨j, hj⟩ : ∃ j : Nat, K + 200 ≤ j := ⟨K + 200, Nat.le_refl _⟩
      refine ⟨j + 1 + 1, ?_⟩
      unfold kimberlitelaw04_PairGallai.f
      rw [few_eq]
      simp only [Option.bind_some]
      rw [decide_eq_true (show l1.length ≤ 140 ∧ ([] : List Int).length ≤ 140 from ⟨hfew, by simp⟩), if_pos rfl]
      unfold pair_Match.f pair_Parts.f
      rw [h1, h2, Option.bind_some, Option.bind_some]
      dsimp only
      rw [if_pos rfl]
      simp only [kimberlitelaw04_PairGallai.j0]
      rw [if_neg (by decide), refPairs_eq hc _ _ (by omega), fits_ilist hmt, Option.bind_some]
      simp only [ansP]
      rw [if_pos trivial]
      simp only [kimberlitelaw04_PairGallai.j1]
      rw [show (((ilist m p).length : Int) != a0) = false from by rw [ilist_len_, hm0]; exact bne_self_eq_false _, if_neg (by decide), odd_le (fun k => kimberliteref04_Near.mono _ _ k) (show 200 ≤ j by omega) h3, Option.bind_some, if_pos (by omega), if_pos (by omega), hm0, Int.toNat_natCast]
      exact odd_le (fun k => (kimberlitelaw04_PairGallai.mono_l k).2.2.1 _ _ _ _ _ _) (show K ≤ j by omega) hK
  · refine ⟨400, ?_⟩
    unfold kimberlitelaw04_PairGallai.f
    rw [few_eq]
    simp only [Option.bind_some]
    rw [alive_eq 400 (by omega), decide_eq_false (fun h => hfew h.1)]
    rfl
end Go.Proofs.Ythhgdndjnflklaa.PP
