/- Quotes, Clash, Level: what they answer. Plain. No conditions. -/
import Derived.Test.YtnbdfmdjedakcaaJA
import Derived.Test.YtnbdfmdjedakcaaQ19
import Derived.Test.YtnbdfmdjedakcaaQ21
import Derived.Test.YtnbdfmdjedakcaaQ28
namespace Go.Proofs.Ytnbdfmdjedakcaa.PP
open Go.RowKit Go.Proofs.YtnbdfmdjedakcaaW.PrintWords Go.Proofs.YtnbdfmdjedakcaaW.PrintLast Go.Proofs.YtnbdfmdjedakcaaW.PrintMore Go.Proofs.Ytnbdfmdjedakcaa
set_option linter.unusedVariables false
set_option linter.unusedSimpArgs false
/-- A valid quote. -/
def okQ (q : S38) : Prop := gok q.f0 = true ∧ 0 ≤ q.f1 ∧ q.f1 ≤ 1073741824 ∧ 1 ≤ q.f2 ∧ q.f2 ≤ 1048576
instance (q : S38) : Decidable (okQ q) := by unfold okQ; infer_instance
abbrev qA (l : List S38) (i : Nat) : S38 := rd_T38 l (i : Int)
theorem suc64 {j n : Nat} (h : j ≤ 1000000) : wrap64 ((j : Int) + 1) = ((j + 1 : Nat) : Int) := by rw [w64 (by omega) (by omega)]; rfl
/-- The error of quotes from the j-th on. -/
def qErr (l : List S38) : Nat → Nat → Int
  | 0, _ => 0
  | m + 1, j => if okQ (qA l j) then qErr l m (j + 1) else 2
theorem quotes_l0 (l : List S38) : ∀ m j, j + m = l.length → l.length ≤ 24 → Ev (fun k => grade_quotes.l0 k l (l.length : Int) (j : Int)) (qErr l m j)
  | 0, j, h, hn => by
    refine Ev.step (Ev.pure _) (fun k => ?_)
    show grade_quotes.l0 (k + 1) l (l.length : Int) (j : Int) = _
    rw [grade_quotes.l0, if_neg (by omega)]
    rfl
  | m + 1, j, h, hn => by
    have e0 : ∀ k, grade_quotes.l0 (k + 1) l (l.length : Int) (j : Int) = if okQ (qA l j) then grade_quotes.l0 k l (l.length : Int) ((j + 1 : Nat) : Int) else some 2 := fun k => by
      rw [grade_quotes.l0, if_pos (by omega), if_pos (by omega), if_pos (by omega), suc64 (n := 0) (by omega)]
      show (if gok (qA l j).f0 = true then _ else _) = _
      by_cases h1 : gok (qA l j).f0 = true
      · rw [if_pos h1]
        by_cases h2 : (qA l j).f1 < 0
        · rw [if_pos h2, if_neg (fun z => by have := z.2; omega)]
        · rw [if_neg h2]
          by_cases h3 : (qA l j).f1 > 1073741824
          · rw [if_pos h3, if_neg (fun z => by have := z.2; omega)]
          · rw [if_neg h3]
            by_cases h4 : (qA l j).f2 < 1
            · rw [if_pos h4, if_neg (fun z => by have := z.2; omega)]
            · rw [if_neg h4]
              by_cases h5 : (qA l j).f2 > 1048576
              · rw [if_pos h5, if_neg (fun z => by have := z.2; omega)]
              · rw [if_neg h5, if_pos ⟨h1, by omega, by omega, by omega, by omega⟩]
      · rw [if_neg h1, if_neg (fun z => h1 z.1)]
    by_cases hq : okQ (qA l j)
    · refine Ev.step ((quotes_l0 l m (j + 1) (by omega) hn).to ?_) (fun k => ?_)
      · rw [qErr, if_pos hq]
      · show grade_quotes.l0 (k + 1) l (l.length : Int) (j : Int) = _
        rw [e0, if_pos hq]
    · refine Ev.step (Ev.pure _) (fun k => ?_)
      show grade_quotes.l0 (k + 1) l (l.length : Int) (j : Int) = _
      rw [e0, if_neg hq, qErr, if_neg hq]
/-- The error of quotes. -/
def qErrF (l : List S38) : Int := if (l.length : Int) > 24 then 3 else qErr l l.length 0
theorem quotes_ev (l : List S38) : Ev (fun k => grade_quotes.f k l) (qErrF l) := by
  unfold grade_quotes.f qErrF
  by_cases h : (l.length : Int) > 24
  · simp only [if_pos h]
    exact Ev.pure _
  · simp only [if_neg h]
    exact quotes_l0 l l.length 0 (by omega) (by omega)
theorem qErr_ok {l : List S38} : ∀ m j, qErr l m j = 0 → ∀ i, j ≤ i → i < j + m → okQ (qA l i)
  | 0, j, h, i, h1, h2 => by omega
  | m + 1, j, h, i, h1, h2 => by
    rw [qErr] at h
    by_cases hq : okQ (qA l j)
    · rw [if_pos hq] at h
      by_cases e : i = j
      · rw [e]; exact hq
      · exact qErr_ok m (j + 1) h i (by omega) (by omega)
    · rw [if_neg hq] at h
      exact absurd h (by decide)
theorem qErrF_ok {l : List S38} (h : qErrF l = 0) : l.length ≤ 24 ∧ ∀ i, i < l.length → okQ (qA l i) := by
  unfold qErrF at h
  by_cases h1 : (l.length : Int) > 24
  · rw [if_pos h1] at h; exact absurd h (by decide)
  · rw [if_neg h1] at h
    exact ⟨by omega, fun i hi => qErr_ok _ _ h i (by omega) (by omega)⟩
/-- Below, of two quotes. -/
def blQ (l : List S38) (i j : Nat) : Bool := belowG (qA l i).f0 (qA l j).f0
def dfQ (l : List S38) (i j : Nat) : Int := (qA l i).f1 - (qA l j).f1
/-- What has been found so far: the worst clash of the pairs ahead of (i, j). -/
structure CIn (l : List S38) (a b c : Int) (i j : Nat) : Prop where
  at_ : (a = -1 ∧ b = -1 ∧ c = 0) ∨ ∃ p q : Nat, a = p ∧ b = q ∧ p < l.length ∧ q < l.length ∧ p ≠ q ∧ blQ l p q = true ∧ c = dfQ l p q ∧ 0 < c
  most : ∀ p q : Nat, (p < i ∨ (p = i ∧ q < j)) → q < l.length → p ≠ q → blQ l p q = true → dfQ l p q ≤ c
theorem CIn.c0 {l : List S38} {a b c : Int} {i j : Nat} (h : CIn l a b c i j) : 0 ≤ c := by
  rcases h.at_ with ⟨_, _, h⟩ | ⟨p, q, _, _, _, _, _, _, _, h⟩ <;> omega
theorem df64 {l : List S38} (hok : ∀ i, i < l.length → okQ (qA l i)) {i j : Nat} (hi : i < l.length) (hj : j < l.length) : wrap64 ((qA l i).f1 - (qA l j).f1) = dfQ l i j := by
  have h1 := (hok i hi).2
  have h2 := (hok j hj).2
  exact w64 (by omega) (by omega)
theorem clash_step (l : List S38) (hok : ∀ i, i < l.length → okQ (qA l i)) (hn : l.length ≤ 24) (a b c : Int) (i j : Nat) (hi : i < l.length) (hj : j < l.length) (k : Nat) :
    grade_Clash.l1 (k + 1) l a b c (i : Int) l (l.length : Int) (i : Int) l (l.length : Int) (j : Int) (qA l i).f0.f0 (qA l i).f0.f1 (qA l i).f0.f2 (qA l i).f1 (qA l i).f2 =
      if i ≠ j ∧ blQ l i j = true ∧ c < dfQ l i j then grade_Clash.l1 k l i j (dfQ l i j) (i : Int) l (l.length : Int) (i : Int) l (l.length : Int) ((j + 1 : Nat) : Int) (qA l i).f0.f0 (qA l i).f0.f1 (qA l i).f0.f2 (qA l i).f1 (qA l i).f2
      else grade_Clash.l1 k l a b c (i : Int) l (l.length : Int) (i : Int) l (l.length : Int) ((j + 1 : Nat) : Int) (qA l i).f0.f0 (qA l i).f0.f1 (qA l i).f0.f2 (qA l i).f1 (qA l i).f2 := by
  rw [grade_Clash.l1, if_pos (by omega), if_pos (by omega), if_pos (by omega), suc64 (n := 0) (by omega)]
  by_cases hij : i = j
  · rw [if_pos (by omega), if_neg (fun z => z.1 hij)]
  · rw [if_neg (by omega)]
    have hb : grade_Below.f (qA l i).f0.f0 (qA l i).f0.f1 (qA l i).f0.f2 (rd_T38 l (j : Int)).f0.f0 (rd_T38 l (j : Int)).f0.f1 (rd_T38 l (j : Int)).f0.f2 = some (blQ l i j) := below_f (qA l i).f0 (qA l j).f0
    rw [hb, Option.bind_some]
    have hd : wrap64 ((qA l i).f1 - (rd_T38 l (j : Int)).f1) = dfQ l i j := df64 hok hi hj
    rw [hd]
    by_cases h1 : blQ l i j = true
    · rw [if_pos h1]
      by_cases h2 : c < dfQ l i j
      · rw [if_pos h2, if_pos ⟨hij, h1, h2⟩]
      · rw [if_neg h2, if_neg (fun z => h2 z.2.2)]
    · rw [if_neg h1, if_neg (fun z => h1 z.2.1)]
theorem clash_l1 (l : List S38) (hok : ∀ i, i < l.length → okQ (qA l i)) (hn : l.length ≤ 24) (i : Nat) (hi : i < l.length) (R : Int → Int → Int → Prop)
    (next : ∀ a b c, CIn l a b c (i + 1) 0 → ∃ x y z, Ev (fun k => grade_Clash.l0 k l a b c l (l.length : Int) ((i + 1 : Nat) : Int)) (x, y, 0) ∧ R x y z) :
    ∀ m (j : Nat) a b c, j + m = l.length → CIn l a b c i j → ∃ x y z, Ev (fun k => grade_Clash.l1 k l a b c (i : Int) l (l.length : Int) (i : Int) l (l.length : Int) (j : Int) (qA l i).f0.f0 (qA l i).f0.f1 (qA l i).f0.f2 (qA l i).f1 (qA l i).f2) (x, y, 0) ∧ R x y z
  | 0, j, a, b, c, hj, h => by
    obtain ⟨x, y, z, h1, h2⟩ := next a b c ⟨h.at_, fun p q hp hq => h.most p q (by omega) hq⟩
    refine ⟨x, y, z, Ev.step h1 (fun k => ?_), h2⟩
    show grade_Clash.l1 (k + 1) l a b c (i : Int) l (l.length : Int) (i : Int) l (l.length : Int) (j : Int) _ _ _ _ _ = _
    rw [grade_Clash.l1, if_neg (by omega), suc64 (n := 0) (by omega)]
  | m + 1, j, a, b, c, hj, h => by
    by_cases hq : i ≠ j ∧ blQ l i j = true ∧ c < dfQ l i j
    · obtain ⟨x, y, z, h1, h2⟩ := clash_l1 l hok hn i hi R next m (j + 1) i j (dfQ l i j) (by omega) ⟨Or.inr ⟨i, j, rfl, rfl, hi, by omega, hq.1, hq.2.1, rfl, by have := h.c0; omega⟩, fun p q hp hq1 hq2 hq3 => by
        by_cases e : p = i ∧ q = j
        · rw [e.1, e.2]; exact Int.le_refl _
        · have := h.most p q (by omega) hq1 hq2 hq3
          omega⟩
      refine ⟨x, y, z, Ev.step h1 (fun k => ?_), h2⟩
      show grade_Clash.l1 (k + 1) l a b c (i : Int) l (l.length : Int) (i : Int) l (l.length : Int) (j : Int) _ _ _ _ _ = _
      rw [clash_step l hok hn a b c i j hi (by omega) k, if_pos hq]
    · obtain ⟨x, y, z, h1, h2⟩ := clash_l1 l hok hn i hi R next m (j + 1) a b c (by omega) ⟨h.at_, fun p q hp hq1 hq2 hq3 => by
        by_cases e : p = i ∧ q = j
        · obtain ⟨rfl, rfl⟩ := e
          by_cases h9 : c < dfQ l p q
          · exact absurd ⟨hq2, hq3, h9⟩ hq
          · omega
        · exact h.most p q (by omega) hq1 hq2 hq3⟩
      refine ⟨x, y, z, Ev.step h1 (fun k => ?_), h2⟩
      show grade_Clash.l1 (k + 1) l a b c (i : Int) l (l.length : Int) (i : Int) l (l.length : Int) (j : Int) _ _ _ _ _ = _
      rw [clash_step l hok hn a b c i j hi (by omega) k, if_neg hq]
theorem clash_l0 (l : List S38) (hok : ∀ i, i < l.length → okQ (qA l i)) (hn : l.length ≤ 24) : ∀ m (i : Nat) a b c, i + m = l.length → CIn l a b c i 0 → ∃ x y z, Ev (fun k => grade_Clash.l0 k l a b c l (l.length : Int) (i : Int)) (x, y, 0) ∧ CIn l x y z l.length 0
  | 0, i, a, b, c, hi, h => by
    obtain rfl : i = l.length := by omega
    refine ⟨a, b, c, Ev.step (Ev.pure _) (fun k => ?_), h⟩
    show grade_Clash.l0 (k + 1) l a b c l (l.length : Int) (l.length : Int) = _
    rw [grade_Clash.l0, if_neg (by omega)]
  | m + 1, i, a, b, c, hi, h => by
    obtain ⟨x, y, z, h1, h2⟩ := clash_l1 l hok hn i (by omega) (fun x y z => CIn l x y z l.length 0) (fun a b c hc => clash_l0 l hok hn m (i + 1) a b c (by omega) hc) l.length 0 a b c (by omega) h
    refine ⟨x, y, z, Ev.step h1 (fun k => ?_), h2⟩
    show grade_Clash.l0 (k + 1) l a b c l (l.length : Int) (i : Int) = _
    rw [grade_Clash.l0, if_pos (by omega), if_pos (by omega), if_pos (by omega)]
    rfl
/-- Clash, of valid quotes. -/
theorem clash_ev (l : List S38) (h : qErrF l = 0) : ∃ x y z, Ev (fun k => grade_Clash.f k l) (x, y, 0) ∧ CIn l x y z l.length 0 := by
  obtain ⟨hn, hok⟩ := qErrF_ok h
  obtain ⟨x, y, z, h1, h2⟩ := clash_l0 l hok hn l.length 0 (-1) (-1) 0 (by omega) ⟨Or.inl ⟨rfl, rfl, rfl⟩, fun p q hp => by omega⟩
  refine ⟨x, y, z, ?_, h2⟩
  unfold grade_Clash.f
  refine Ev.bind (Ev.to (quotes_ev l) h) ?_
  simp only [if_true]
  exact h1
theorem clash_err (l : List S38) (h : qErrF l ≠ 0) : Ev (fun k => grade_Clash.f k l) (0, 0, qErrF l) := by
  unfold grade_Clash.f
  refine Ev.bind (quotes_ev l) ?_
  simp only [if_neg h]
  exact Ev.pure _
end Go.Proofs.Ytnbdfmdjedakcaa.PP

namespace Go.Proofs.Ytnbdfmdjedakcaa.PP
open Go.RowKit Go.Proofs.YtnbdfmdjedakcaaW.PrintWords Go.Proofs.YtnbdfmdjedakcaaW.PrintLast Go.Proofs.YtnbdfmdjedakcaaW.PrintMore Go.Proofs.Ytnbdfmdjedakcaa
set_option linter.unusedVariables false
set_option linter.unusedSimpArgs false
theorem blQ_f (l : List S38) (i j : Nat) : grade_Below.f (rd_T38 l (i : Int)).f0.f0 (rd_T38 l (i : Int)).f0.f1 (rd_T38 l (i : Int)).f0.f2 (rd_T38 l (j : Int)).f0.f0 (rd_T38 l (j : Int)).f0.f1 (rd_T38 l (j : Int)).f0.f2 = some (blQ l i j) := below_f (qA l i).f0 (qA l j).f0
/-- A level: the greatest of 0 and of the prices beneath less the strain, of the first m quotes. -/
def lvA (l : List S38) (s : Int) (a : Nat) : Nat → Int
  | 0 => 0
  | m + 1 => if blQ l m a = true then max (lvA l s a m) ((qA l m).f1 - s) else lvA l s a m
structure LIn (l : List S38) (s : Int) (x : List Int) (i j : Nat) : Prop where
  len : x.length = l.length
  done : ∀ a, a < i → a < l.length → x.getD a 0 = lvA l s a l.length
  here : i < l.length → x.getD i 0 = lvA l s i j
  rest : ∀ a, i < a → a < l.length → x.getD a 0 = 0
theorem mx_max (a b : Int) : mx a b = max a b := by unfold mx; omega
theorem level_l1 (l : List S38) (hok : ∀ i, i < l.length → okQ (qA l i)) (hn : l.length ≤ 24) (s : Int) (hs0 : 0 ≤ s) (hs : s ≤ 1073741824) (i : Nat) (hi : i < l.length) (R : List Int → Prop)
    (next : ∀ x, LIn l s x (i + 1) 0 → ∃ f, Ev (fun k => grade_Level.l0 k l s x l (l.length : Int) ((i + 1 : Nat) : Int)) (f, s, 0) ∧ R f) :
    ∀ m (j : Nat) x, j + m = l.length → LIn l s x i j → ∃ f, Ev (fun k => grade_Level.l1 k l s x (i : Int) l (l.length : Int) (i : Int) l (l.length : Int) (j : Int) (qA l i).f0.f0 (qA l i).f0.f1 (qA l i).f0.f2 (qA l i).f1 (qA l i).f2) (f, s, 0) ∧ R f
  | 0, j, x, hj, h => by
    obtain rfl : j = l.length := by omega
    obtain ⟨f, h1, h2⟩ := next x ⟨h.len, fun a ha hal => by
      by_cases e : a = i
      · rw [e]; exact h.here hi
      · exact h.done a (by omega) hal, fun h3 => h.rest (i + 1) (by omega) h3, fun a ha hal => h.rest a (by omega) hal⟩
    refine ⟨f, Ev.step h1 (fun k => ?_), h2⟩
    show grade_Level.l1 (k + 1) l s x (i : Int) l (l.length : Int) (i : Int) l (l.length : Int) (l.length : Int) _ _ _ _ _ = _
    rw [grade_Level.l1, if_neg (by omega), suc64 (n := 0) (by omega)]
  | m + 1, j, x, hj, h => by
    have hw : wrap64 ((j : Int) + 1) = ((j + 1 : Nat) : Int) := suc64 (n := 0) (by omega)
    have hbl : grade_Below.f (rd_T38 l (j : Int)).f0.f0 (rd_T38 l (j : Int)).f0.f1 (rd_T38 l (j : Int)).f0.f2 (qA l i).f0.f0 (qA l i).f0.f1 (qA l i).f0.f2 = some (blQ l j i) := blQ_f l j i
    by_cases hb : blQ l j i = true
    · have hp1 : 0 ≤ (rd_T38 l (j : Int)).f1 := (hok j (by omega)).2.1
      have hp2 : (rd_T38 l (j : Int)).f1 ≤ 1073741824 := (hok j (by omega)).2.2.1
      have hset : mx (rd x (i : Int)) (wrap64 ((rd_T38 l (j : Int)).f1 - s)) = lvA l s i (j + 1) := by
        rw [w64 (by omega) (by omega), mx_max, lvA, if_pos hb, ← h.here hi]
        unfold rd
        rw [Int.toNat_natCast]
      obtain ⟨f, h1, h2⟩ := level_l1 l hok hn s hs0 hs i hi R next m (j + 1) (x.set i (lvA l s i (j + 1))) (by omega) ⟨by rw [List.length_set]; exact h.len, fun a ha hal => by
          rw [List.getD_eq_getElem?_getD, List.getElem?_set_ne (by omega), ← List.getD_eq_getElem?_getD]; exact h.done a ha hal, fun _ => by
          rw [List.getD_eq_getElem?_getD, List.getElem?_set_self (by rw [h.len]; exact hi)]; rfl, fun a ha hal => by
          rw [List.getD_eq_getElem?_getD, List.getElem?_set_ne (by omega), ← List.getD_eq_getElem?_getD]; exact h.rest a ha hal⟩
      refine ⟨f, Ev.step h1 (fun k => ?_), h2⟩
      show grade_Level.l1 (k + 1) l s x (i : Int) l (l.length : Int) (i : Int) l (l.length : Int) (j : Int) _ _ _ _ _ = _
      rw [grade_Level.l1, if_pos (by omega), if_pos (by omega), if_pos (by omega), hbl, Option.bind_some, if_pos hb, if_pos (by omega), if_pos (by rw [h.len]; omega), hset, hw, Int.toNat_natCast]
    · obtain ⟨f, h1, h2⟩ := level_l1 l hok hn s hs0 hs i hi R next m (j + 1) x (by omega) ⟨h.len, h.done, fun h3 => by rw [lvA, if_neg hb]; exact h.here h3, h.rest⟩
      refine ⟨f, Ev.step h1 (fun k => ?_), h2⟩
      show grade_Level.l1 (k + 1) l s x (i : Int) l (l.length : Int) (i : Int) l (l.length : Int) (j : Int) _ _ _ _ _ = _
      rw [grade_Level.l1, if_pos (by omega), if_pos (by omega), if_pos (by omega), hbl, Option.bind_some, if_neg hb, hw]
theorem level_l0 (l : List S38) (hok : ∀ i, i < l.length → okQ (qA l i)) (hn : l.length ≤ 24) (s : Int) (hs0 : 0 ≤ s) (hs : s ≤ 1073741824) : ∀ m (i : Nat) x, i + m = l.length → LIn l s x i 0 → ∃ f, Ev (fun k => grade_Level.l0 k l s x l (l.length : Int) (i : Int)) (f, s, 0) ∧ LIn l s f l.length 0
  | 0, i, x, hi, h => by
    obtain rfl : i = l.length := by omega
    refine ⟨x, Ev.step (Ev.pure _) (fun k => ?_), h⟩
    show grade_Level.l0 (k + 1) l s x l (l.length : Int) (l.length : Int) = _
    rw [grade_Level.l0, if_neg (by omega)]
  | m + 1, i, x, hi, h => by
    obtain ⟨f, h1, h2⟩ := level_l1 l hok hn s hs0 hs i (by omega) (fun f => LIn l s f l.length 0) (fun x hx => level_l0 l hok hn s hs0 hs m (i + 1) x (by omega) hx) l.length 0 x (by omega) h
    refine ⟨f, Ev.step h1 (fun k => ?_), h2⟩
    show grade_Level.l0 (k + 1) l s x l (l.length : Int) (i : Int) = _
    rw [grade_Level.l0, if_pos (by omega), if_pos (by omega), if_pos (by omega)]
    rfl
theorem level_j0 (l : List S38) (hok : ∀ i, i < l.length → okQ (qA l i)) (hn : l.length ≤ 24) (s : Int) (hs0 : 0 ≤ s) (hs : s ≤ 1073741824) : ∃ f, Ev (fun k => grade_Level.j0 k l s) (f, s, 0) ∧ LIn l s f l.length 0 := by
  have hrep : ∀ a, (List.replicate l.length (0 : Int)).getD a 0 = 0 := fun a => by
    rw [List.getD_eq_getElem?_getD, List.getElem?_replicate]
    split <;> rfl
  obtain ⟨f, h1, h2⟩ := level_l0 l hok hn s hs0 hs l.length 0 (List.replicate l.length 0) (by omega) ⟨by simp, fun a ha => by omega, fun _ => hrep 0, fun a _ _ => hrep a⟩
  refine ⟨f, Ev.step h1 (fun k => ?_), h2⟩
  show grade_Level.j0 (k + 1) l s = _
  rw [grade_Level.j0, if_pos (by omega), if_pos (by rw [Int.toNat_natCast]; omega), Int.toNat_natCast]
  rfl
/-- Clash and Level, of valid quotes. -/
theorem level_ev (l : List S38) (h : qErrF l = 0) : ∃ x y z f, Ev (fun k => grade_Clash.f k l) (x, y, 0) ∧ CIn l x y z l.length 0 ∧ Ev (fun k => grade_Level.f k l) (f, Int.tdiv (z + 1) 2, 0) ∧ LIn l (Int.tdiv (z + 1) 2) f l.length 0 ∧ z ≤ 1073741824 := by
  obtain ⟨hn, hok⟩ := qErrF_ok h
  obtain ⟨x, y, z, h1, h2⟩ := clash_ev l h
  have hz : 0 ≤ z ∧ z ≤ 1073741824 := by
    refine ⟨h2.c0, ?_⟩
    rcases h2.at_ with ⟨_, _, h3⟩ | ⟨p, q, _, _, hp, hq, _, _, h3, _⟩
    · omega
    · have a1 := (hok p hp).2
      have a2 := (hok q hq).2
      unfold dfQ at h3
      omega
  have htd : Int.tdiv (z + 1) 2 = (z + 1) / 2 := Int.tdiv_eq_ediv_of_nonneg (by omega)
  obtain ⟨f, h4, h5⟩ := level_j0 l hok hn (Int.tdiv (z + 1) 2) (by rw [htd]; omega) (by rw [htd]; omega)
  refine ⟨x, y, z, f, h1, h2, ?_, h5, hz.2⟩
  unfold grade_Level.f
  refine Ev.bind h1 ?_
  simp only [if_true]
  rcases h2.at_ with ⟨rfl, rfl, rfl⟩ | ⟨p, q, rfl, rfl, hp, hq, hpq, hbl, hz1, hz2⟩
  · simp only [show ¬ ((-1 : Int) ≥ 0) by omega, if_false]
    exact h4
  · have e1 : wrap64 (wrap64 ((rd_T38 l (p : Int)).f1 - (rd_T38 l (q : Int)).f1) + 1) = z + 1 := by
      have e2 : wrap64 ((rd_T38 l (p : Int)).f1 - (rd_T38 l (q : Int)).f1) = dfQ l p q := df64 hok hp hq
      rw [e2, ← hz1, w64 (by omega) (by omega)]
    have e3 : wrap64 (Int.tdiv (z + 1) 2) = Int.tdiv (z + 1) 2 := w64 (by rw [htd]; omega) (by rw [htd]; omega)
    refine Ev.same h4 (fun k => ?_)
    show (if (p : Int) ≥ 0 then _ else _) = _
    rw [if_pos (by omega), if_pos (by omega), if_pos (by omega), if_pos (by omega), if_pos (by omega)]
    rw [e1, e3]
end Go.Proofs.Ytnbdfmdjedakcaa.PP
