/- The law GradeSettles, as plain Lean: at every input some fuel gives true. No conditions. -/
import Derived.Test.YtnbdfmdjedakcaaJB
import Derived.Test.YtnbdfmdjedakcaaQ14
namespace Go.Proofs.Ytnbdfmdjedakcaa.PP
open Go.RowKit Go.Proofs.YtnbdfmdjedakcaaW.PrintWords Go.Proofs.YtnbdfmdjedakcaaW.PrintLast Go.Proofs.YtnbdfmdjedakcaaW.PrintMore Go.Proofs.Ytnbdfmdjedakcaa
set_option linter.unusedVariables false
set_option linter.unusedSimpArgs false
theorem refQuotesS_l0 (l : List S38) (hl : l.length ≤ 1000000) : ∀ k (j : Nat), kimberliteref02_Quotes.l0 k l (j : Int) = grade_quotes.l0 k l (l.length : Int) (j : Int)
  | 0, j => by rw [kimberliteref02_Quotes.l0, grade_quotes.l0]
  | k + 1, j => by
    rw [kimberliteref02_Quotes.l0, grade_quotes.l0]
    by_cases h1 : (j : Int) < (l.length : Int)
    · rw [if_pos h1, if_pos h1, if_pos (show (0 : Int) ≤ (j : Int) by omega), if_pos (show (0 : Int) ≤ (j : Int) by omega), if_pos h1, suc64 (n := 0) (by omega), refQuotesS_l0 l hl k (j + 1)]
      rfl
    · rw [if_neg h1, if_neg h1]
theorem refQuotesS (l : List S38) (hl : l.length ≤ 1000000) (k : Nat) : kimberliteref02_Quotes.f k l = grade_quotes.f k l := by
  unfold kimberliteref02_Quotes.f grade_quotes.f
  by_cases h : (l.length : Int) > 24
  · rw [if_pos h, if_pos h]
  · rw [if_neg h, if_neg h]
    exact refQuotesS_l0 l hl k 0
theorem sameS_l0 (x : List Int) : ∀ m (j : Nat), j + m = x.length → x.length ≤ 1000000 → Ev (fun k => kimberlitelaw02_same.l0 k x x (j : Int)) true
  | 0, j, hj, hx => by
    refine Ev.step (Ev.pure _) (fun k => ?_)
    show kimberlitelaw02_same.l0 (k + 1) x x (j : Int) = _
    rw [kimberlitelaw02_same.l0, if_neg (by omega)]
  | m + 1, j, hj, hx => by
    refine Ev.step (sameS_l0 x m (j + 1) (by omega) hx) (fun k => ?_)
    show kimberlitelaw02_same.l0 (k + 1) x x (j : Int) = _
    rw [kimberlitelaw02_same.l0, if_pos (by omega), if_pos (by omega), if_pos (by omega), if_pos rfl, suc64 (n := 0) (by omega)]
theorem sameS_ev (x : List Int) (hx : x.length ≤ 1000000) : Ev (fun k => kimberlitelaw02_same.f k x x) true := by
  unfold kimberlitelaw02_same.f
  simp only [if_true]
  exact sameS_l0 x x.length 0 (by omega) hx
abbrev atS (x : List Int) (i : Nat) : Int := x.getD i 0
theorem rd_atS (x : List Int) (i : Nat) : rd x (i : Int) = atS x i := by
  unfold rd
  rw [Int.toNat_natCast]
theorem atS_set (x : List Int) (i j : Nat) (v : Int) (hi : i < x.length) : atS (x.set i v) j = if j = i then v else atS x j := by
  unfold atS
  rw [List.getD_eq_getElem?_getD, List.getD_eq_getElem?_getD, List.getElem?_set]
  by_cases e : i = j
  · subst e; rw [if_pos rfl, if_pos hi, if_pos rfl]; rfl
  · rw [if_neg e, if_neg (fun h => e h.symm)]
theorem atS_map (n : Nat) (f : Nat → Int) (i : Nat) (hi : i < n) : atS ((List.range n).map f) i = f i := by
  unfold atS; simp [List.getD, hi]
noncomputable def fitL (l : List S38) : List Int := (List.range l.length).map (fitF l)
theorem fitL_len (l : List S38) : (fitL l).length = l.length := by simp [fitL]
section
variable {l : List S38} (hq : qErrF l = 0)
include hq in
theorem loss_l0 : ∀ m i, i + m = l.length → Ev (fun k => kimberliteref02_Loss.l0 k l (fitL l) (lossF l (fitF l) i) (i : Int)) (lossOf l)
  | 0, i, hi => by
    have e : i = l.length := by omega
    subst e
    refine Ev.step (Ev.pure (lossOf l)) (fun k => ?_)
    show kimberliteref02_Loss.l0 (k + 1) l (fitL l) (lossF l (fitF l) l.length) (l.length : Int) = _
    rw [kimberliteref02_Loss.l0, if_neg (by omega)]; rfl
  | m + 1, i, hi => by
    obtain ⟨hn, hok⟩ := qErrF_ok hq
    refine Ev.step (loss_l0 m (i + 1) (by omega)) (fun k => ?_)
    show kimberliteref02_Loss.l0 (k + 1) l (fitL l) (lossF l (fitF l) i) (i : Int) = _
    have hfi := fitF_range hok i (by omega)
    obtain ⟨_, h1, h2, h3, h4⟩ := hok i (by omega)
    have er : rd (fitL l) (i : Int) = fitF l i := by rw [rd_atS]; exact atS_map _ _ _ (by omega)
    have h6 := mul_range h3 h4 (b := max (fitF l i - (qA l i).f1) ((qA l i).f1 - fitF l i)) (by omega) (by omega)
    have h7 := lossF_range l (fitF l) hok (fun i hi => fitF_range hok i hi) i (by omega)
    have h8 := lossF_range l (fitF l) hok (fun i hi => fitF_range hok i hi) (i + 1) (by omega)
    have h9 : lossF l (fitF l) (i + 1) = lossF l (fitF l) i + (qA l i).f2 * max (fitF l i - (qA l i).f1) ((qA l i).f1 - fitF l i) := by rw [Int.max_comm]; rfl
    rw [kimberliteref02_Loss.l0, if_pos (by omega), if_pos (by rw [fitL_len]; omega), if_pos (by omega), er, suc64 (n := 0) (by omega)]
    show kimberliteref02_Loss.l0 k l (fitL l) (wrap64 (lossF l (fitF l) i + wrap64 ((qA l i).f2 * mx (wrap64 (fitF l i - (qA l i).f1)) (wrap64 ((qA l i).f1 - fitF l i))))) _ = _
    rw [w64 (x := fitF l i - (qA l i).f1) (by omega) (by omega), w64 (x := (qA l i).f1 - fitF l i) (by omega) (by omega), mx_max, w64 (x := (qA l i).f2 * max (fitF l i - (qA l i).f1) ((qA l i).f1 - fitF l i)) (by omega) (by omega), w64 (by omega) (by omega), ← h9]
include hq in
theorem loss_ev : Ev (fun k => kimberliteref02_Loss.f k l (fitL l)) (lossOf l) := loss_l0 hq l.length 0 (by omega)
/-- The numbers, while the reference raises them. -/
structure RaI (l : List S38) (x : List Int) (j : Nat) : Prop where
  len : x.length = l.length
  le : ∀ i, i < l.length → atS x i ≤ fitF l i
  ge : ∀ i, i < l.length → ∀ k, k < j → prA l k ≤ fitF l i → prA l k ≤ atS x i
include hq in
theorem settle_l3 (j : Nat) (hj : j < l.length) (hnext : ∀ x, RaI l x (j + 1) → Ev (fun k => kimberliteref02_Settle.l2 k l x ((j + 1 : Nat) : Int)) (fitL l, lossOf l, 0)) :
    ∀ m i x, i + m = l.length → RaI l x j → (∀ a, a < i → prA l j ≤ fitF l a → prA l j ≤ atS x a) → Ev (fun k => kimberliteref02_Settle.l3 k l x (j : Int) ((List.range (l.length + 2)).map (SSof l (prA l j))) (i : Int)) (fitL l, lossOf l, 0)
  | 0, i, x, hi, h, hg => by
    obtain ⟨hn, hok⟩ := qErrF_ok hq
    refine Ev.step (hnext x ⟨h.len, h.le, fun a ha k hk => ?_⟩) (fun k => ?_)
    · by_cases e : k = j
      · subst e; exact hg a (by omega)
      · exact h.ge a ha k (by omega)
    · show kimberliteref02_Settle.l3 (k + 1) l x (j : Int) _ (i : Int) = _
      rw [kimberliteref02_Settle.l3, if_neg (by omega), suc64 (n := 0) (by omega)]
  | m + 1, i, x, hi, h, hg => by
    obtain ⟨hn, hok⟩ := qErrF_ok hq
    have hS : rdOf false ((List.range (l.length + 2)).map (SSof l (prA l j))) (i : Int) = decide (fitF l i ≥ prA l j) := by
      rw [← SS_fit hok hn (prA l j) i (by omega)]
      unfold rdOf
      rw [Int.toNat_natCast]
      simp [List.getD, show i < l.length + 2 by omega]
    have e0 : ∀ k, kimberliteref02_Settle.l3 (k + 1) l x (j : Int) ((List.range (l.length + 2)).map (SSof l (prA l j))) (i : Int) = (if fitF l i ≥ prA l j then kimberliteref02_Settle.l3 k l (x.set i (max (atS x i) (prA l j))) (j : Int) ((List.range (l.length + 2)).map (SSof l (prA l j))) ((i + 1 : Nat) : Int) else kimberliteref02_Settle.l3 k l x (j : Int) ((List.range (l.length + 2)).map (SSof l (prA l j))) ((i + 1 : Nat) : Int)) := fun k => by
      have hlen : ((List.range (l.length + 2)).map (SSof l (prA l j))).length = l.length + 2 := by simp
      rw [kimberliteref02_Settle.l3, if_pos (by omega), if_pos (by omega), if_pos (by rw [hlen]; omega), hS, suc64 (n := 0) (by omega)]
      by_cases hp : fitF l i ≥ prA l j
      · rw [if_pos (decide_eq_true hp), if_pos hp, if_pos (by rw [h.len]; omega), if_pos (by omega), if_pos (by omega), rd_atS, mx_max, Int.toNat_natCast]
        rfl
      · rw [if_neg (by rw [decide_eq_true_iff]; exact hp), if_neg hp]
    by_cases hp : fitF l i ≥ prA l j
    · have hx : i < x.length := by rw [h.len]; omega
      have hle := h.le i (by omega)
      refine Ev.step (settle_l3 j hj hnext m (i + 1) (x.set i (max (atS x i) (prA l j))) (by omega) ⟨by rw [List.length_set]; exact h.len, fun a ha => ?_, fun a ha k hk hpk => ?_⟩ (fun a ha hpa => ?_)) (fun k => (e0 k).trans (if_pos hp))
      · rw [atS_set _ _ _ _ hx]
        split
        · next e => subst e; omega
        · exact h.le a ha
      · rw [atS_set _ _ _ _ hx]
        have := h.ge a ha k hk hpk
        split
        · next e => subst e; omega
        · exact this
      · rw [atS_set _ _ _ _ hx]
        split
        · omega
        · next e => exact hg a (by omega) hpa
    · refine Ev.step (settle_l3 j hj hnext m (i + 1) x (by omega) h (fun a ha hpa => ?_)) (fun k => (e0 k).trans (if_neg hp))
      by_cases e : a = i
      · subst e; exact absurd hpa hp
      · exact hg a (by omega) hpa
include hq in
theorem settle_l2 : ∀ m j x, j + m = l.length → RaI l x j → Ev (fun k => kimberliteref02_Settle.l2 k l x (j : Int)) (fitL l, lossOf l, 0)
  | 0, j, x, hj, h => by
    obtain ⟨hn, hok⟩ := qErrF_ok hq
    have ex : x = fitL l := by
      refine List.ext_getElem? fun i => ?_
      by_cases hi : i < l.length
      · obtain ⟨k, hk, e⟩ := fitF_price i hi
        have h1 := h.le i hi
        have h2 := h.ge i hi k (by omega) (by omega)
        have h3 : atS x i = fitF l i := by omega
        unfold atS at h3
        rw [List.getElem?_eq_getElem (by rw [h.len]; exact hi)]
        have h4 : x.getD i 0 = x[i]'(by rw [h.len]; exact hi) := by simp [List.getD, show i < x.length by rw [h.len]; exact hi]
        rw [← h4, h3]
        simp [fitL, hi]
      · rw [List.getElem?_eq_none (by rw [h.len]; omega), List.getElem?_eq_none (by rw [fitL_len]; omega)]
    subst ex
    refine Ev.step (G := fun k => (kimberliteref02_Loss.f k l (fitL l)).bind fun t => some (fitL l, t, 0)) (Ev.bind (loss_ev hq) (Ev.pure _)) (fun k => ?_)
    show kimberliteref02_Settle.l2 (k + 1) l (fitL l) (j : Int) = _
    rw [kimberliteref02_Settle.l2, if_neg (by omega)]
  | m + 1, j, x, hj, h => by
    refine Ev.step (settle_l3 hq j (by omega) (fun y hy => settle_l2 m (j + 1) y (by omega) hy) l.length 0 x (by omega) h (fun a ha => by omega)) (fun k => ?_)
    show kimberliteref02_Settle.l2 (k + 1) l x (j : Int) = _
    rw [kimberliteref02_Settle.l2, if_pos (by omega), if_pos (by omega), show (rd_T38 l (j : Int)).f1 = prA l j from rfl, atLeast_f hq]
    rfl
structure LoI (l : List S38) (x : List Int) (i : Nat) : Prop where
  len : x.length = l.length
  le : ∀ a, a < i → atS x a ≤ fitF l a
include hq in
theorem settle_l1 (i : Nat) (hi : i < l.length) (hnext : ∀ x, LoI l x (i + 1) → Ev (fun k => kimberliteref02_Settle.l0 k l x ((i + 1 : Nat) : Int)) (fitL l, lossOf l, 0)) :
    ∀ m j x, j + m = l.length → LoI l x i → (∀ k, k < j → atS x i ≤ prA l k) → Ev (fun k => kimberliteref02_Settle.l1 k l x (i : Int) (j : Int)) (fitL l, lossOf l, 0)
  | 0, j, x, hj, h, hg => by
    obtain ⟨hn, hok⟩ := qErrF_ok hq
    refine Ev.step (hnext x ⟨h.len, fun a ha => ?_⟩) (fun k => ?_)
    · by_cases e : a = i
      · subst e
        obtain ⟨k, hk, e2⟩ := fitF_price a hi
        rw [e2]; exact hg k (by omega)
      · exact h.le a (by omega)
    · show kimberliteref02_Settle.l1 (k + 1) l x (i : Int) (j : Int) = _
      rw [kimberliteref02_Settle.l1, if_neg (by omega), suc64 (n := 0) (by omega)]
  | m + 1, j, x, hj, h, hg => by
    obtain ⟨hn, hok⟩ := qErrF_ok hq
    have hx : i < x.length := by rw [h.len]; omega
    refine Ev.step (settle_l1 i hi hnext m (j + 1) (x.set i (mn (atS x i) (prA l j))) (by omega) ⟨by rw [List.length_set]; exact h.len, fun a ha => ?_⟩ (fun k hk => ?_)) (fun k => ?_)
    · rw [atS_set _ _ _ _ hx, if_neg (by omega)]; exact h.le a ha
    · rw [atS_set _ _ _ _ hx, if_pos rfl]
      unfold mn
      by_cases e : k = j
      · subst e; split <;> omega
      · have := hg k (by omega)
        split <;> omega
    · show kimberliteref02_Settle.l1 (k + 1) l x (i : Int) (j : Int) = _
      rw [kimberliteref02_Settle.l1, if_pos (by omega), if_pos (by omega), if_pos (by rw [h.len]; omega), if_pos (by omega), suc64 (n := 0) (by omega), rd_atS, Int.toNat_natCast]
      rfl
include hq in
theorem settle_l0 : ∀ m i x, i + m = l.length → LoI l x i → Ev (fun k => kimberliteref02_Settle.l0 k l x (i : Int)) (fitL l, lossOf l, 0)
  | 0, i, x, hi, h => by
    refine Ev.step (settle_l2 hq l.length 0 x (by omega) ⟨h.len, fun a ha => h.le a (by omega), fun a ha k hk => by omega⟩) (fun k => ?_)
    show kimberliteref02_Settle.l0 (k + 1) l x (i : Int) = _
    rw [kimberliteref02_Settle.l0, if_neg (by omega)]
    rfl
  | m + 1, i, x, hi, h => by
    obtain ⟨hn, hok⟩ := qErrF_ok hq
    have hx : i < x.length := by rw [h.len]; omega
    refine Ev.step (settle_l1 hq i (by omega) (fun y hy => settle_l0 m (i + 1) y (by omega) hy) l.length 0 (x.set i 1073741824) (by omega) ⟨by rw [List.length_set]; exact h.len, fun a ha => ?_⟩ (fun k hk => by omega)) (fun k => ?_)
    · rw [atS_set _ _ _ _ hx, if_neg (by omega)]; exact h.le a ha
    · show kimberliteref02_Settle.l0 (k + 1) l x (i : Int) = _
      rw [kimberliteref02_Settle.l0, if_pos (by omega), if_pos (by omega), if_pos (by rw [h.len]; omega), Int.toNat_natCast]
      rfl
end
theorem refSettle_ev (l : List S38) (hl : l.length ≤ 1000000) : Ev (fun k => kimberliteref02_Settle.f k l) (if qErrF l = 0 then (fitL l, lossOf l, 0) else ([], 0, qErrF l)) := by
  unfold kimberliteref02_Settle.f
  have hQ : Ev (fun k => kimberliteref02_Quotes.f k l) (qErrF l) := (quotes_ev l).same (fun k => refQuotesS l hl k)
  refine Ev.bind hQ ?_
  by_cases hq : qErrF l = 0
  · simp only [hq, if_true]
    have h1 : ((l.length : Int)).toNat ≤ 35184372088832 := by omega
    simp only [show (0 : Int) ≤ (l.length : Int) by omega, h1, if_true]
    exact settle_l0 hq l.length 0 _ (by omega) ⟨by rw [List.length_replicate]; omega, fun a ha => by omega⟩
  · simp only [hq, if_false]
    exact Ev.pure _
theorem settle_ev (l : List S38) : grade_Settle.f l = some (if qErrF l = 0 then (fitL l, lossOf l, 0) else ([], 0, qErrF l)) := by
  unfold grade_Settle.f
  split <;> rfl
theorem pure_GradeSettles (l : List S38) : ∃ k, kimberlitelaw02_GradeSettles.f k l = some true := by
  have main : Ev (fun k => kimberlitelaw02_GradeSettles.f k l) true := by
    unfold kimberlitelaw02_GradeSettles.f kimberlitelaw02_small.f
    simp only [Option.bind_some]
    by_cases hl : (l.length : Int) ≤ 30
    · simp only [hl, decide_true, if_true, settle_ev, Option.bind_some]
      have hlen : (if qErrF l = 0 then (fitL l, lossOf l, 0) else (([] : List Int), (0 : Int), qErrF l)).1.length ≤ 1000000 := by
        split
        · rw [fitL_len]; omega
        · simp
      generalize hX : (if qErrF l = 0 then (fitL l, lossOf l, 0) else (([] : List Int), (0 : Int), qErrF l)) = X at hlen
      have hr := refSettle_ev l (by omega)
      rw [hX] at hr
      refine Ev.bind hr (Ev.bind (sameS_ev X.1 hlen) ?_)
      simp only [if_true]
      exact Ev.bind alive_ev (Ev.pure _)
    · simp only [hl, decide_false, Bool.false_eq_true, if_false]
      exact Ev.bind alive_ev (Ev.pure _)
  obtain ⟨k, hk⟩ := main
  exact ⟨k, hk k (Nat.le_refl _)⟩
end Go.Proofs.Ytnbdfmdjedakcaa.PP
