/- Fit, strain, tame: what they answer; Level is a fit of least strain. Plain. No conditions. -/
import Derived.Test.YtnbdfmdjedakcaaJB
import Derived.Test.YtnbdfmdjedakcaaQ24
import Derived.Test.YtnbdfmdjedakcaaQ25
import Derived.Test.YtnbdfmdjedakcaaQ27
namespace Go.Proofs.Ytnbdfmdjedakcaa.PP
open Go.RowKit Go.Proofs.YtnbdfmdjedakcaaW.PrintWords Go.Proofs.YtnbdfmdjedakcaaW.PrintLast Go.Proofs.YtnbdfmdjedakcaaW.PrintMore Go.Proofs.Ytnbdfmdjedakcaa
set_option linter.unusedVariables false
set_option linter.unusedSimpArgs false
abbrev at0 (x : List Int) (i : Nat) : Int := x.getD i 0
theorem rd_at (x : List Int) (i : Nat) : rd x (i : Int) = at0 x i := by
  unfold rd
  rw [Int.toNat_natCast]
def tameP (x : List Int) : Prop := ∀ i, i < x.length → -4294967296 ≤ at0 x i ∧ at0 x i ≤ 4294967296
theorem tame_l0 (x : List Int) (hx : x.length ≤ 9223372036854775807) : ∀ m j, j + m = x.length → ∃ r, Ev (fun k => kimberlitelaw02_tame.l0 k x (j : Int)) r ∧ (r = true → ∀ i, j ≤ i → i < x.length → -4294967296 ≤ at0 x i ∧ at0 x i ≤ 4294967296)
  | 0, j, hj => by
    refine ⟨true, Ev.step (Ev.pure _) (fun k => ?_), fun _ i h1 h2 => by omega⟩
    show kimberlitelaw02_tame.l0 (k + 1) x (j : Int) = _
    rw [kimberlitelaw02_tame.l0, if_neg (by omega)]
  | m + 1, j, hj => by
    have e0 : ∀ k, kimberlitelaw02_tame.l0 (k + 1) x (j : Int) = if at0 x j < -4294967296 then some false else if at0 x j > 4294967296 then some false else kimberlitelaw02_tame.l0 k x ((j + 1 : Nat) : Int) := fun k => by
      have hw : wrap64 ((j : Int) + 1) = ((j + 1 : Nat) : Int) := by rw [w64 (by omega) (by omega)]; rfl
      rw [kimberlitelaw02_tame.l0, if_pos (by omega), if_pos (by omega), hw, rd_at]
    by_cases h1 : at0 x j < -4294967296
    · refine ⟨false, Ev.step (Ev.pure _) (fun k => ?_), fun h => by simp at h⟩
      show kimberlitelaw02_tame.l0 (k + 1) x (j : Int) = _
      rw [e0, if_pos h1]
    · by_cases h2 : at0 x j > 4294967296
      · refine ⟨false, Ev.step (Ev.pure _) (fun k => ?_), fun h => by simp at h⟩
        show kimberlitelaw02_tame.l0 (k + 1) x (j : Int) = _
        rw [e0, if_neg h1, if_pos h2]
      · obtain ⟨r, h3, h4⟩ := tame_l0 x hx m (j + 1) (by omega)
        refine ⟨r, Ev.step h3 (fun k => ?_), fun hr i hi hil => ?_⟩
        · show kimberlitelaw02_tame.l0 (k + 1) x (j : Int) = _
          rw [e0, if_neg h1, if_neg h2]
        · by_cases e : i = j
          · subst e; omega
          · exact h4 hr i (by omega) hil
/-- A fit. -/
def fitP (l : List S38) (x : List Int) : Prop := ∀ i j, i < l.length → j < l.length → blQ l i j = true → at0 x i ≤ at0 x j
theorem fit_l1 (l : List S38) (x : List Int) (hl : l.length ≤ 1000000) (hx : x.length = l.length) (i : Nat) (hi : i < l.length) (P : Bool → Prop) (hno : ∀ j, j < l.length → blQ l i j = true → at0 x j < at0 x i → P false)
    (next : (∀ j, j < l.length → blQ l i j = true → at0 x i ≤ at0 x j) → ∃ r, Ev (fun k => kimberliteref02_Fit.l0 k l x ((i + 1 : Nat) : Int)) r ∧ P r) :
    ∀ m j, j + m = l.length → (∀ q, q < j → blQ l i q = true → at0 x i ≤ at0 x q) → ∃ r, Ev (fun k => kimberliteref02_Fit.l1 k l x (i : Int) (j : Int)) r ∧ P r
  | 0, j, hj, h => by
    obtain ⟨r, h1, h2⟩ := next (fun q hq => h q (by omega))
    refine ⟨r, Ev.step h1 (fun k => ?_), h2⟩
    show kimberliteref02_Fit.l1 (k + 1) l x (i : Int) (j : Int) = _
    rw [kimberliteref02_Fit.l1, if_neg (by omega), suc64 (n := 0) (by omega)]
  | m + 1, j, hj, h => by
    have hb : kimberliteref02_Below.f (rd_T38 l (i : Int)).f0.f0 (rd_T38 l (i : Int)).f0.f1 (rd_T38 l (i : Int)).f0.f2 (rd_T38 l (j : Int)).f0.f0 (rd_T38 l (j : Int)).f0.f1 (rd_T38 l (j : Int)).f0.f2 = some (blQ l i j) := blQ_f l i j
    have e0 : ∀ k, kimberliteref02_Fit.l1 (k + 1) l x (i : Int) (j : Int) = if blQ l i j = true then (if at0 x i > at0 x j then some false else kimberliteref02_Fit.l1 k l x (i : Int) ((j + 1 : Nat) : Int)) else kimberliteref02_Fit.l1 k l x (i : Int) ((j + 1 : Nat) : Int) := fun k => by
      rw [kimberliteref02_Fit.l1, if_pos (by omega), if_pos (by omega), if_pos (by omega), if_pos (by omega), hb, Option.bind_some, if_pos (show (i : Int) < (x.length : Int) by omega), if_pos (show (j : Int) < (x.length : Int) by omega), suc64 (n := 0) (by omega), rd_at, rd_at]
    by_cases h1 : blQ l i j = true
    · by_cases h2 : at0 x i > at0 x j
      · refine ⟨false, Ev.step (Ev.pure _) (fun k => ?_), hno j (by omega) h1 h2⟩
        show kimberliteref02_Fit.l1 (k + 1) l x (i : Int) (j : Int) = _
        rw [e0, if_pos h1, if_pos h2]
      · obtain ⟨r, h3, h4⟩ := fit_l1 l x hl hx i hi P hno next m (j + 1) (by omega) (fun q hq hb2 => by
          by_cases e : q = j
          · subst e; omega
          · exact h q (by omega) hb2)
        refine ⟨r, Ev.step h3 (fun k => ?_), h4⟩
        show kimberliteref02_Fit.l1 (k + 1) l x (i : Int) (j : Int) = _
        rw [e0, if_pos h1, if_neg h2]
    · obtain ⟨r, h3, h4⟩ := fit_l1 l x hl hx i hi P hno next m (j + 1) (by omega) (fun q hq hb2 => by
        by_cases e : q = j
        · subst e; exact absurd hb2 h1
        · exact h q (by omega) hb2)
      refine ⟨r, Ev.step h3 (fun k => ?_), h4⟩
      show kimberliteref02_Fit.l1 (k + 1) l x (i : Int) (j : Int) = _
      rw [e0, if_neg h1]
theorem fit_l0 (l : List S38) (x : List Int) (hl : l.length ≤ 1000000) (hx : x.length = l.length) : ∀ m i, i + m = l.length → (∀ p q, p < i → q < l.length → blQ l p q = true → at0 x p ≤ at0 x q) → ∃ r, Ev (fun k => kimberliteref02_Fit.l0 k l x (i : Int)) r ∧ (r = true ↔ fitP l x)
  | 0, i, hi, h => by
    refine ⟨true, Ev.step (Ev.pure _) (fun k => ?_), fun _ p q hp hq hb => h p q (by omega) hq hb, fun _ => rfl⟩
    show kimberliteref02_Fit.l0 (k + 1) l x (i : Int) = _
    rw [kimberliteref02_Fit.l0, if_neg (by omega)]
  | m + 1, i, hi, h => by
    obtain ⟨r, h1, h2⟩ := fit_l1 l x hl hx i (by omega) (fun r => r = true ↔ fitP l x) (fun j hj hb hlt => ⟨fun z => by simp at z, fun z => by have := z i j (by omega) hj hb; omega⟩) (fun hn => fit_l0 l x hl hx m (i + 1) (by omega) (fun p q hp hq hb => by
        by_cases e : p = i
        · subst e; exact hn q hq hb
        · exact h p q (by omega) hq hb)) l.length 0 (by omega) (fun q hq => by omega)
    refine ⟨r, Ev.step h1 (fun k => ?_), h2⟩
    show kimberliteref02_Fit.l0 (k + 1) l x (i : Int) = _
    rw [kimberliteref02_Fit.l0, if_pos (by omega)]
    rfl
theorem fit_ev (l : List S38) (x : List Int) (hl : l.length ≤ 1000000) : ∃ r, Ev (fun k => kimberliteref02_Fit.f k l x) r ∧ (r = true ↔ x.length = l.length ∧ fitP l x) := by
  unfold kimberliteref02_Fit.f
  by_cases h : x.length = l.length
  · obtain ⟨r, h1, h2⟩ := fit_l0 l x hl h l.length 0 (by omega) (fun p q hp => by omega)
    refine ⟨r, h1.same (fun k => ?_), by rw [h2]; exact ⟨fun z => ⟨h, z⟩, fun z => z.2⟩⟩
    show (if (x.length : Int) = (l.length : Int) then _ else _) = _
    rw [if_pos (by omega)]
    rfl
  · refine ⟨false, (Ev.pure false).same (fun k => ?_), by simp [h]⟩
    show (if (x.length : Int) = (l.length : Int) then _ else _) = _
    rw [if_neg (by omega)]
/-- The strain of numbers. -/
structure StP (l : List S38) (x : List Int) (n : Nat) (t : Int) : Prop where
  all : ∀ i, i < n → at0 x i - (qA l i).f1 ≤ t ∧ (qA l i).f1 - at0 x i ≤ t
  at_ : t = 0 ∨ ∃ i, i < n ∧ (t = at0 x i - (qA l i).f1 ∨ t = (qA l i).f1 - at0 x i)
  pos : 0 ≤ t
theorem strain_l0 (l : List S38) (x : List Int) (hok : ∀ i, i < l.length → okQ (qA l i)) (hl : l.length ≤ 24) (hx : x.length = l.length) (ht : tameP x) : ∀ m j t, j + m = l.length → StP l x j t → ∃ t', Ev (fun k => kimberlitelaw02_strain.l0 k l x t (j : Int)) t' ∧ StP l x l.length t'
  | 0, j, t, hj, h => by
    obtain rfl : j = l.length := by omega
    refine ⟨t, Ev.step (Ev.pure _) (fun k => ?_), h⟩
    show kimberlitelaw02_strain.l0 (k + 1) l x t (l.length : Int) = _
    rw [kimberlitelaw02_strain.l0, if_neg (by omega)]
  | m + 1, j, t, hj, h => by
    have h1 := (hok j (by omega)).2
    have h2 := ht j (by omega)
    have w1 : wrap64 (at0 x j - (rd_T38 l (j : Int)).f1) = at0 x j - (qA l j).f1 := by
      show wrap64 (at0 x j - (qA l j).f1) = _
      exact w64 (by omega) (by omega)
    have w2 : wrap64 ((rd_T38 l (j : Int)).f1 - at0 x j) = (qA l j).f1 - at0 x j := by
      show wrap64 ((qA l j).f1 - at0 x j) = _
      exact w64 (by omega) (by omega)
    obtain ⟨t', h3, h4⟩ := strain_l0 l x hok hl hx ht m (j + 1) (max (max t (at0 x j - (qA l j).f1)) ((qA l j).f1 - at0 x j)) (by omega) ⟨fun i hi => by
        by_cases e : i = j
        · subst e; omega
        · have := h.all i (by omega); omega, by
        rcases h.at_ with h5 | ⟨i, hi, h5⟩
        · by_cases e1 : at0 x j - (qA l j).f1 ≤ 0
          · by_cases e2 : (qA l j).f1 - at0 x j ≤ 0
            · left; omega
            · right; exact ⟨j, by omega, by omega⟩
          · right; exact ⟨j, by omega, by omega⟩
        · right
          by_cases e1 : at0 x j - (qA l j).f1 ≤ t ∧ (qA l j).f1 - at0 x j ≤ t
          · exact ⟨i, by omega, by omega⟩
          · exact ⟨j, by omega, by omega⟩, by have := h.pos; omega⟩
    refine ⟨t', Ev.step h3 (fun k => ?_), h4⟩
    show kimberlitelaw02_strain.l0 (k + 1) l x t (j : Int) = _
    rw [kimberlitelaw02_strain.l0, if_pos (by omega), if_pos (by omega), if_pos (by omega), suc64 (n := 0) (by omega), rd_at, w1, w2, mx_max, mx_max]
theorem strain_ev (l : List S38) (x : List Int) (hok : ∀ i, i < l.length → okQ (qA l i)) (hl : l.length ≤ 24) (hx : x.length = l.length) (ht : tameP x) : ∃ t, Ev (fun k => kimberlitelaw02_strain.f k l x) t ∧ StP l x l.length t := by
  unfold kimberlitelaw02_strain.f
  exact strain_l0 l x hok hl hx ht l.length 0 0 (by omega) ⟨fun i hi => by omega, Or.inl rfl, Int.le_refl _⟩
theorem bl_refl (l : List S38) (i : Nat) : blQ l i i = true := by simp [blQ, belowG]
theorem bl_trans (l : List S38) {i j k : Nat} (h1 : blQ l i j = true) (h2 : blQ l j k = true) : blQ l i k = true := by
  simp only [blQ, belowG, Bool.and_eq_true, decide_eq_true_eq] at *
  omega
theorem lvA_nn (l : List S38) (s : Int) (a : Nat) : ∀ m, 0 ≤ lvA l s a m
  | 0 => Int.le_refl _
  | m + 1 => by
    have := lvA_nn l s a m
    rw [lvA]
    split <;> omega
theorem lvA_ge (l : List S38) (s : Int) (a : Nat) : ∀ m b, b < m → blQ l b a = true → (qA l b).f1 - s ≤ lvA l s a m
  | 0, b, h, _ => by omega
  | m + 1, b, h, hb => by
    rw [lvA]
    by_cases e : b = m
    · subst e; rw [if_pos hb]; omega
    · have := lvA_ge l s a m b (by omega) hb
      split <;> omega
theorem lvA_le (l : List S38) (s : Int) (a : Nat) (t : Int) (h0 : 0 ≤ t) : ∀ m, (∀ b, b < m → blQ l b a = true → (qA l b).f1 - s ≤ t) → lvA l s a m ≤ t
  | 0, _ => h0
  | m + 1, h => by
    have h1 := lvA_le l s a t h0 m (fun b hb => h b (by omega))
    rw [lvA]
    split
    · rename_i hb
      have := h m (by omega) hb
      omega
    · exact h1
end Go.Proofs.Ytnbdfmdjedakcaa.PP
