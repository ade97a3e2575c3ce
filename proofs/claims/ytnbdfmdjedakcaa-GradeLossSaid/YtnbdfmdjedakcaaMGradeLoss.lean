/- The law GradeLoss, as plain Lean: at every input some fuel gives true. No conditions. -/
import Derived.Test.YtnbdfmdjedakcaaJ4
import Derived.Test.YtnbdfmdjedakcaaQ15
namespace Go.Proofs.Ytnbdfmdjedakcaa.PP
open Go.RowKit Go.Proofs.YtnbdfmdjedakcaaW.PrintWords Go.Proofs.YtnbdfmdjedakcaaW.PrintLast Go.Proofs.YtnbdfmdjedakcaaW.PrintMore Go.Proofs.Ytnbdfmdjedakcaa
set_option linter.unusedVariables false
set_option linter.unusedSimpArgs false
noncomputable def fitL (l : List S38) : List Int := (List.range l.length).map (fitF l)
theorem fitL_len (l : List S38) : (fitL l).length = l.length := by simp [fitL]
theorem fitL_at (l : List S38) (i : Nat) (hi : i < l.length) : at0 (fitL l) i = fitF l i := by unfold at0 fitL; simp [List.getD, hi]
theorem mul_range2 {a b : Int} (ha : 1 ≤ a) (ha2 : a ≤ 1048576) (hb : 0 ≤ b) (hb2 : b ≤ 8589934592) : 0 ≤ a * b ∧ a * b ≤ 9007199254740992 := by
  have h1 : 0 ≤ a * b := Int.mul_nonneg (by omega) hb
  have h2 : a * b ≤ 1048576 * 8589934592 := Int.mul_le_mul ha2 hb2 hb (by omega)
  omega
theorem lossF_range2 (l : List S38) (g : Nat → Int) (hok : ∀ i, i < l.length → okQ (qA l i)) (hg : ∀ i, i < l.length → -4294967296 ≤ g i ∧ g i ≤ 4294967296) : ∀ i, i ≤ l.length → 0 ≤ lossF l g i ∧ lossF l g i ≤ 9007199254740992 * i
  | 0, _ => ⟨Int.le_refl _, by show (0 : Int) ≤ _; omega⟩
  | i + 1, h => by
    have ih := lossF_range2 l g hok hg i (by omega)
    obtain ⟨_, h1, h2, h3, h4⟩ := hok i (by omega)
    have h5 := hg i (by omega)
    have e : qA l i = qAt l i := rfl
    rw [e] at h1 h2 h3 h4
    have h6 := mul_range2 h3 h4 (b := max ((qAt l i).f1 - g i) (g i - (qAt l i).f1)) (by omega) (by omega)
    rw [lossF]
    omega
section
variable {l : List S38} (hq : qErrF l = 0) {x : List Int} (hx : x.length = l.length) (ht : ∀ i, i < l.length → -4294967296 ≤ at0 x i ∧ at0 x i ≤ 4294967296)
include hq hx ht in
theorem lossL_l0 : ∀ m i, i + m = l.length → Ev (fun k => kimberliteref02_Loss.l0 k l x (lossF l (at0 x) i) (i : Int)) (lossF l (at0 x) l.length)
  | 0, i, hi => by
    have e : i = l.length := by omega
    subst e
    refine Ev.step (Ev.pure _) (fun k => ?_)
    show kimberliteref02_Loss.l0 (k + 1) l x (lossF l (at0 x) l.length) (l.length : Int) = _
    rw [kimberliteref02_Loss.l0, if_neg (by omega)]
  | m + 1, i, hi => by
    obtain ⟨hn, hok⟩ := qErrF_ok hq
    refine Ev.step (lossL_l0 m (i + 1) (by omega)) (fun k => ?_)
    show kimberliteref02_Loss.l0 (k + 1) l x (lossF l (at0 x) i) (i : Int) = _
    have hfi := ht i (by omega)
    obtain ⟨_, h1, h2, h3, h4⟩ := hok i (by omega)
    have h6 := mul_range2 h3 h4 (b := max (at0 x i - (qA l i).f1) ((qA l i).f1 - at0 x i)) (by omega) (by omega)
    have h7 := lossF_range2 l (at0 x) hok ht i (by omega)
    have h9 : lossF l (at0 x) (i + 1) = lossF l (at0 x) i + (qA l i).f2 * max (at0 x i - (qA l i).f1) ((qA l i).f1 - at0 x i) := by rw [Int.max_comm]; rfl
    rw [kimberliteref02_Loss.l0, if_pos (by omega), if_pos (by rw [hx]; omega), if_pos (by omega), rd_at, suc64 (n := 0) (by omega)]
    show kimberliteref02_Loss.l0 k l x (wrap64 (lossF l (at0 x) i + wrap64 ((qA l i).f2 * mx (wrap64 (at0 x i - (qA l i).f1)) (wrap64 ((qA l i).f1 - at0 x i))))) _ = _
    rw [w64 (x := at0 x i - (qA l i).f1) (by omega) (by omega), w64 (x := (qA l i).f1 - at0 x i) (by omega) (by omega), mx_max, w64 (x := (qA l i).f2 * max (at0 x i - (qA l i).f1) ((qA l i).f1 - at0 x i)) (by omega) (by omega), w64 (by omega) (by omega), ← h9]
include hq hx ht in
theorem lossL_ev : Ev (fun k => kimberliteref02_Loss.f k l x) (lossF l (at0 x) l.length) := lossL_l0 hq hx ht l.length 0 (by omega)
end
theorem lossF_congr (l : List S38) {f g : Nat → Int} : ∀ n, (∀ i, i < n → f i = g i) → lossF l f n = lossF l g n
  | 0, _ => rfl
  | n + 1, h => by rw [lossF, lossF, lossF_congr l n (fun i hi => h i (by omega)), h n (by omega)]
theorem lossF_S (l : List S38) (g : Nat → Int) : ∀ n, lossF l g n = lossS n (wA l) (prA l) g
  | 0 => rfl
  | n + 1 => by
    rw [lossF, lossF_S l g n]
    unfold lossS
    rw [sm, Int.max_comm]
    rfl
theorem tame_true (x : List Int) (hx : x.length ≤ 1000000) (ht : ∀ i, i < x.length → -4294967296 ≤ at0 x i ∧ at0 x i ≤ 4294967296) : ∀ m j, j + m = x.length → Ev (fun k => kimberlitelaw02_tame.l0 k x (j : Int)) true
  | 0, j, hj => by
    refine Ev.step (Ev.pure _) (fun k => ?_)
    show kimberlitelaw02_tame.l0 (k + 1) x (j : Int) = _
    rw [kimberlitelaw02_tame.l0, if_neg (by omega)]
  | m + 1, j, hj => by
    refine Ev.step (tame_true x hx ht m (j + 1) (by omega)) (fun k => ?_)
    show kimberlitelaw02_tame.l0 (k + 1) x (j : Int) = _
    have := ht j (by omega)
    rw [kimberlitelaw02_tame.l0, if_pos (by omega), if_pos (by omega), suc64 (n := 0) (by omega), rd_at, if_neg (by omega), if_neg (by omega)]
section
variable {l : List S38} (hq : qErrF l = 0)
include hq in
theorem fitF_fit : FitS l.length (bA l) (fitF l) := fun i j hi hj hb => by
  obtain ⟨hn, hok⟩ := qErrF_ok hq
  have h := (fitF_low hok hn (fitF l j)).cl i j hi hj
  refine Classical.byContradiction fun hno => ?_
  have := h (by unfold overB; exact decide_eq_true (by omega)) hb
  unfold overB at this
  have := of_decide_eq_true this
  omega
include hq in
/-- No fit within the bounds is better; none as good is lower anywhere. -/
theorem best {g : Nat → Int} (hg : ∀ i, i < l.length → -4294967296 ≤ g i ∧ g i ≤ 4294967296) (fg : FitS l.length (bA l) g) : lossOf l ≤ lossF l g l.length ∧ (lossF l g l.length ≤ lossOf l → ∀ i, i < l.length → fitF l i ≤ g i) := by
  obtain ⟨hn, hok⟩ := qErrF_ok hq
  have h := levels_best (n := l.length) (w := wA l) (b := bA l) (p := prA l) (f := fitF l) (g := g) (lo := -8589934592) (H := 17179869184) (fun i hi => by
    obtain ⟨_, h1, h2, _⟩ := hok i hi
    have h1 : 0 ≤ prA l i := h1
    have h2 : prA l i ≤ 1073741824 := h2
    omega) (fun i hi => by have := fitF_range hok i hi; omega) (fun i hi => by have := hg i hi; omega) (fun k _ => fitF_low hok hn _) fg
  unfold lossOf
  rw [lossF_S, lossF_S]
  exact h
include hq in
/-- Nothing is lost exactly where the numbers are the prices. -/
theorem loss_zero (h : lossOf l = 0) : ∀ i, i < l.length → fitF l i = prA l i := by
  obtain ⟨hn, hok⟩ := qErrF_ok hq
  have h0 : lossS l.length (wA l) (prA l) (fitF l) = 0 := by rw [← lossF_S]; exact h
  unfold lossS at h0
  intro i hi
  have nn : ∀ j, j < l.length → 0 ≤ wA l j * max (fitF l j - prA l j) (prA l j - fitF l j) := fun j hj => Int.mul_nonneg (by have := wA_pos hok j hj; omega) (by omega)
  have h1 := sm_pos_zero nn (by omega) i hi
  have h2 := wA_pos hok i hi
  rcases Int.mul_eq_zero.1 h1 with h3 | h3 <;> omega
include hq in
theorem clash_loss {x y z : Int} (hc : CIn l x y z l.length 0) : decide (x < 0) = (lossOf l == 0) := by
  obtain ⟨hn, hok⟩ := qErrF_ok hq
  rcases hc.at_ with ⟨h1, _, h3⟩ | ⟨p, q, h1, _, hp, hq2, hne, hb, hz, hz0⟩
  · have fp : FitS l.length (bA l) (prA l) := fun i j hi hj hbb => by
      by_cases e : i = j
      · subst e; omega
      · have := hc.most i j (.inl hi) hj e hbb
        unfold dfQ at this
        have e1 : (qA l i).f1 = prA l i := rfl
        have e2 : (qA l j).f1 = prA l j := rfl
        omega
    have h4 := (best hq (g := prA l) (fun i hi => by
      obtain ⟨_, h1, h2, _⟩ := hok i hi
      have h1 : 0 ≤ prA l i := h1
      have h2 : prA l i ≤ 1073741824 := h2
      omega) fp).1
    have h5 : lossF l (prA l) l.length = 0 := by
      rw [lossF_S]
      unfold lossS
      rw [sm_congr (g := fun _ => 0) (fun i _ => by rw [Int.sub_self]; simp), sm_zero]
    have h6 := (lossF_range l (fitF l) hok (fun i hi => fitF_range hok i hi) l.length (Nat.le_refl _)).1
    have h7 : lossOf l = 0 := by
      have : 0 ≤ lossOf l := h6
      omega
    rw [h7, h1]; rfl
  · have h7 : lossOf l ≠ 0 := fun h0 => by
      have h8 := loss_zero hq h0
      have h9 := fitF_fit hq p q hp hq2 hb
      rw [h8 p hp, h8 q hq2] at h9
      unfold dfQ at hz
      have e1 : (qA l p).f1 = prA l p := rfl
      have e2 : (qA l q).f1 = prA l q := rfl
      omega
    rw [decide_eq_false (by omega : ¬ x < 0), beq_eq_false_iff_ne.mpr h7]
/-- The last loop: no number above the other's. -/
theorem lossE_l1 {x : List Int} (hx : x.length = l.length) (hn : l.length ≤ 24) (t : Int) (hge : t ≥ lossOf l) (hle : t = lossOf l → ∀ i, i < l.length → fitF l i ≤ at0 x i) : ∀ m i, i + m = l.length → Ev (fun k => kimberlitelaw02_GradeLoss.l1 k l x (fitL l) (lossOf l) t (i : Int)) true
  | 0, i, hi => by
    refine Ev.step (Ev.step (G := fun k => (kimberlitelaw02_alive.f k).bind fun t1090 => some t1090) (Ev.bind alive_ev (Ev.pure _)) (F := fun k => kimberlitelaw02_GradeLoss.j6 k l x (fitL l) (lossOf l) t (i : Int) false) (fun k => ?_)) (fun k => ?_)
    · show kimberlitelaw02_GradeLoss.j6 (k + 1) l x (fitL l) (lossOf l) t (i : Int) false = _
      rw [kimberlitelaw02_GradeLoss.j6, if_neg (by decide), if_pos hge]
    · show kimberlitelaw02_GradeLoss.l1 (k + 1) l x (fitL l) (lossOf l) t (i : Int) = _
      rw [kimberlitelaw02_GradeLoss.l1, if_neg (by omega)]
  | m + 1, i, hi => by
    by_cases ht : t = lossOf l
    · have hb : (t == lossOf l) = true := beq_iff_eq.mpr ht
      refine Ev.step (Ev.step (lossE_l1 hx hn t hge hle m (i + 1) (by omega)) (F := fun k => kimberlitelaw02_GradeLoss.j6 k l x (fitL l) (lossOf l) t (i : Int) true) (fun k => ?_)) (fun k => ?_)
      · show kimberlitelaw02_GradeLoss.j6 (k + 1) l x (fitL l) (lossOf l) t (i : Int) true = _
        have h1 := hle ht i (by omega)
        rw [kimberlitelaw02_GradeLoss.j6, if_pos rfl, if_pos (by omega), if_pos (by rw [fitL_len]; omega), if_pos (by rw [hx]; omega), rd_at, rd_at, fitL_at l i (by omega), if_neg (by omega), suc64 (n := 0) (by omega)]
      · show kimberlitelaw02_GradeLoss.l1 (k + 1) l x (fitL l) (lossOf l) t (i : Int) = _
        rw [kimberlitelaw02_GradeLoss.l1, if_pos (by omega), hb]
    · have hb : (t == lossOf l) = false := beq_eq_false_iff_ne.mpr ht
      refine Ev.step (Ev.step (G := fun k => (kimberlitelaw02_alive.f k).bind fun t1090 => some t1090) (Ev.bind alive_ev (Ev.pure _)) (F := fun k => kimberlitelaw02_GradeLoss.j6 k l x (fitL l) (lossOf l) t (i : Int) false) (fun k => ?_)) (fun k => ?_)
      · show kimberlitelaw02_GradeLoss.j6 (k + 1) l x (fitL l) (lossOf l) t (i : Int) false = _
        rw [kimberlitelaw02_GradeLoss.j6, if_neg (by decide), if_pos hge]
      · show kimberlitelaw02_GradeLoss.l1 (k + 1) l x (fitL l) (lossOf l) t (i : Int) = _
        rw [kimberlitelaw02_GradeLoss.l1, if_pos (by omega), hb]
theorem lossE_j4t (x : List Int) : Ev (fun k => kimberlitelaw02_GradeLoss.j4 k l x (fitL l) (lossOf l) true) true := by
  refine Ev.step (G := fun k => (kimberlitelaw02_alive.f k).bind fun t1086 => some t1086) (Ev.bind alive_ev (Ev.pure _)) (fun k => ?_)
  show kimberlitelaw02_GradeLoss.j4 (k + 1) l x (fitL l) (lossOf l) true = _
  rw [kimberlitelaw02_GradeLoss.j4, if_pos rfl]
include hq in
theorem lossE_j3 (x : List Int) (hxl : x.length ≤ 9223372036854775807) (c i : Int) : Ev (fun k => kimberlitelaw02_GradeLoss.j3 k l x (fitL l) (lossOf l) c i false) true := by
  obtain ⟨hn, hok⟩ := qErrF_ok hq
  obtain ⟨r, h1, h2⟩ := tame_l0 x hxl x.length 0 (by omega)
  refine Ev.step (G := fun k => (kimberlitelaw02_tame.f k x).bind fun t1084 => (if t1084 = true then ((kimberliteref02_Fit.f k l x).bind fun t1085 => (kimberlitelaw02_GradeLoss.j4 k l x (fitL l) (lossOf l) (!t1085))) else (kimberlitelaw02_GradeLoss.j4 k l x (fitL l) (lossOf l) true))) (Ev.bind (show Ev (fun k => kimberlitelaw02_tame.f k x) r from h1) ?_) (fun k => ?_)
  · cases r with
    | false => simp only [Bool.false_eq_true, if_false]; exact lossE_j4t x
    | true =>
      simp only [if_true]
      obtain ⟨r2, h3, h4⟩ := fit_ev l x (by omega)
      refine Ev.bind h3 ?_
      cases r2 with
      | false => exact lossE_j4t x
      | true =>
        obtain ⟨hx, hf⟩ := h4.1 rfl
        have ht : ∀ i, i < l.length → -4294967296 ≤ at0 x i ∧ at0 x i ≤ 4294967296 := fun i hi => h2 rfl i (by omega) (by omega)
        have hb := best hq ht (fun i j hi hj hbb => hf i j hi hj hbb)
        refine Ev.step (G := fun k => (kimberliteref02_Loss.f k l x).bind fun t1087 => kimberlitelaw02_GradeLoss.l1 k l x (fitL l) (lossOf l) t1087 0) (Ev.bind (lossL_ev hq hx ht) ?_) (fun k => ?_)
        · exact lossE_l1 hx hn _ hb.1 (fun e => hb.2 (by omega)) l.length 0 (by omega)
        · show kimberlitelaw02_GradeLoss.j4 (k + 1) l x (fitL l) (lossOf l) false = _
          rw [kimberlitelaw02_GradeLoss.j4, if_neg (by decide)]
  · show kimberlitelaw02_GradeLoss.j3 (k + 1) l x (fitL l) (lossOf l) c i false = _
    rw [kimberlitelaw02_GradeLoss.j3, if_neg (by decide)]
include hq in
theorem lossE_l0 (x : List Int) (hxl : x.length ≤ 9223372036854775807) (c : Int) (hc : decide (c < 0) = (lossOf l == 0)) : ∀ m i, i + m = l.length → Ev (fun k => kimberlitelaw02_GradeLoss.l0 k l x (fitL l) (lossOf l) c (i : Int)) true
  | 0, i, hi => by
    refine Ev.step (lossE_j3 hq x hxl c i) (fun k => ?_)
    show kimberlitelaw02_GradeLoss.l0 (k + 1) l x (fitL l) (lossOf l) c (i : Int) = _
    rw [kimberlitelaw02_GradeLoss.l0, if_neg (by omega)]
  | m + 1, i, hi => by
    obtain ⟨hn, hok⟩ := qErrF_ok hq
    cases hd : decide (c < 0) with
    | false =>
      refine Ev.step (lossE_j3 hq x hxl c i) (fun k => ?_)
      show kimberlitelaw02_GradeLoss.l0 (k + 1) l x (fitL l) (lossOf l) c (i : Int) = _
      rw [kimberlitelaw02_GradeLoss.l0, if_pos (by omega), hd]
    | true =>
      rw [hd] at hc
      have h0 := loss_zero hq (beq_iff_eq.1 hc.symm) i (by omega)
      refine Ev.step (Ev.step (lossE_l0 x hxl c (hd.trans hc) m (i + 1) (by omega)) (F := fun k => kimberlitelaw02_GradeLoss.j3 k l x (fitL l) (lossOf l) c (i : Int) true) (fun k => ?_)) (fun k => ?_)
      · show kimberlitelaw02_GradeLoss.j3 (k + 1) l x (fitL l) (lossOf l) c (i : Int) true = _
        rw [kimberlitelaw02_GradeLoss.j3, if_pos rfl, if_pos (by omega), if_pos (by rw [fitL_len]; omega), if_pos (by omega), rd_at, fitL_at l i (by omega), if_pos (by rw [h0]; rfl), suc64 (n := 0) (by omega)]
      · show kimberlitelaw02_GradeLoss.l0 (k + 1) l x (fitL l) (lossOf l) c (i : Int) = _
        rw [kimberlitelaw02_GradeLoss.l0, if_pos (by omega), hd]
end
theorem pure_GradeLoss (l : List S38) (x : List Int) (hxl : x.length ≤ 9223372036854775807) : ∃ k, kimberlitelaw02_GradeLoss.f k l x = some true := by
  have main : Ev (fun k => kimberlitelaw02_GradeLoss.f k l x) true := by
    unfold kimberlitelaw02_GradeLoss.f
    by_cases hq : qErrF l = 0
    · obtain ⟨hn, hok⟩ := qErrF_ok hq
      obtain ⟨a, b, c, h1, h2⟩ := clash_ev l hq
      have hS : grade_Settle.f l = some (fitL l, lossOf l, 0) := by unfold grade_Settle.f; rw [if_pos hq]; rfl
      simp only [hS, Option.bind_some]
      refine Ev.bind h1 ?_
      simp only [if_true, bne_self_eq_false]
      have hc := clash_loss hq h2
      obtain ⟨r2, h3, h4⟩ := fit_ev l (fitL l) (by omega)
      have hr2 : r2 = true := h4.2 ⟨fitL_len l, fun i j hi hj hb => by rw [fitL_at l i hi, fitL_at l j hj]; exact fitF_fit hq i j hi hj hb⟩
      subst hr2
      have ht : ∀ i, i < l.length → -4294967296 ≤ at0 (fitL l) i ∧ at0 (fitL l) i ≤ 4294967296 := fun i hi => by
        rw [fitL_at l i hi]
        have := fitF_range hok i hi
        omega
      have h5 : Ev (fun k => kimberlitelaw02_tame.f k (fitL l)) true := tame_true (fitL l) (by rw [fitL_len]; omega) (fun i hi => ht i (by rw [fitL_len] at hi; exact hi)) (fitL l).length 0 (by omega)
      have h6 := lossL_ev hq (fitL_len l) ht
      have h7 : lossF l (at0 (fitL l)) l.length = lossOf l := lossF_congr l l.length (fun i hi => fitL_at l i hi)
      rw [h7] at h6
      have h8 : (decide (a < 0) != (lossOf l == 0)) = false := by rw [hc]; exact bne_self_eq_false _
      refine Ev.step (G := fun k => (kimberliteref02_Fit.f k l (fitL l)).bind fun t1079 => (if t1079 = true then ((kimberlitelaw02_tame.f k (fitL l)).bind fun t1080 => (if t1080 = true then ((kimberliteref02_Loss.f k l (fitL l)).bind fun t1081 => (if t1081 = lossOf l then (kimberlitelaw02_GradeLoss.j1 k l x (fitL l) (lossOf l) a ((decide (a < 0)) != (lossOf l == 0))) else (kimberlitelaw02_GradeLoss.j1 k l x (fitL l) (lossOf l) a true))) else (kimberlitelaw02_GradeLoss.j1 k l x (fitL l) (lossOf l) a true))) else (kimberlitelaw02_GradeLoss.j1 k l x (fitL l) (lossOf l) a true))) (Ev.bind h3 ?_) (fun k => ?_)
      · simp only [if_true]
        refine Ev.bind h5 ?_
        simp only [if_true]
        refine Ev.bind h6 ?_
        simp only [if_true, h8]
        refine Ev.step (lossE_l0 hq x hxl a hc l.length 0 (by omega)) (fun k => ?_)
        show kimberlitelaw02_GradeLoss.j1 (k + 1) l x (fitL l) (lossOf l) a false = _
        rw [kimberlitelaw02_GradeLoss.j1, if_neg (by decide)]
        rfl
      · show kimberlitelaw02_GradeLoss.j0 (k + 1) l x (fitL l) (lossOf l) 0 a 0 false = _
        rw [kimberlitelaw02_GradeLoss.j0, if_neg (by decide)]
    · have hS : grade_Settle.f l = some ([], 0, qErrF l) := by unfold grade_Settle.f; rw [if_neg hq]
      simp only [hS, Option.bind_some]
      refine Ev.bind (clash_err l hq) ?_
      simp only [hq, if_false]
      refine Ev.step (G := fun k => (kimberlitelaw02_alive.f k).bind fun t1078 => some t1078) (Ev.bind alive_ev (Ev.pure _)) (fun k => ?_)
      show kimberlitelaw02_GradeLoss.j0 (k + 1) l x [] 0 (qErrF l) 0 (qErrF l) true = _
      rw [kimberlitelaw02_GradeLoss.j0, if_pos rfl, if_pos rfl, if_pos (show ((([] : List Int).length : Nat) : Int) = 0 from rfl), if_pos rfl]
  obtain ⟨k, hk⟩ := main
  exact ⟨k, hk k (Nat.le_refl _)⟩
end Go.Proofs.Ytnbdfmdjedakcaa.PP
