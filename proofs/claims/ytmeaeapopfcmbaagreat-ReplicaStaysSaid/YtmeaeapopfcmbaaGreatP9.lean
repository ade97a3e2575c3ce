/- What ref Same answers. No conditions. -/
import Derived.Test.YtmeaeapopfcmbaaGreatP8
import Derived.Test.YtmeaeapopfcmbaaGreatQ22
namespace Go.Proofs.YtmeaeapopfcmbaaGreat
open Go.RowKit Go.Proofs.YtmeaeapopfcmbaaGreatW.PrintWords Go.Proofs.YtmeaeapopfcmbaaGreatW.PrintLast Go.Proofs.YtmeaeapopfcmbaaGreatW.PrintMore PP
set_option linter.unusedVariables false
set_option linter.unusedSimpArgs false
open Classical in
/-- The same? -/
noncomputable def eqL {α : Type} (x y : α) : Bool := decide (x = y)
open Classical in
theorem eqL_iff {α : Type} {x y : α} : eqL x y = true ↔ x = y := by unfold eqL; exact decide_eq_true_iff
theorem eqL_cons {α : Type} (x y : α) (l m : List α) : eqL (x :: l) (y :: m) = (eqL x y && eqL l m) := by
  rw [Bool.eq_iff_iff, Bool.and_eq_true, eqL_iff, eqL_iff, eqL_iff, List.cons.injEq]
theorem drop_getD {α : Type} (l : List α) (i : Nat) (z : α) (h : i < l.length) : l.drop i = l.getD i z :: l.drop (i + 1) := by
  rw [List.drop_eq_getElem_cons h, List.getD_eq_getElem?_getD, List.getElem?_eq_getElem h]; rfl
theorem ba_list {a b : ByteArray} : (a.toList == b.toList) = eqL a b := by
  rw [Bool.eq_iff_iff, eqL_iff, beq_iff_eq]
  exact same_iff

section
variable (a0 b0 : List Int) (a1 b1 : List S99) (a2 b2 : List S102) (a3 b3 : List S108) (a4 b4 : List S111)
theorem eq_el0 (xs ys : List Int) (i : Int) : ((rd xs i) == (rd ys i)) = eqL (rd xs i) (rd ys i) := by
  rw [Bool.eq_iff_iff, eqL_iff, beq_iff_eq]
theorem eq_el1 (xs ys : List S99) (i : Int) : (((rd_T99 xs i).f0) == ((rd_T99 ys i).f0) && (((((rd_T99 xs i)).f1).toList) == ((((rd_T99 ys i)).f1).toList) && ((((rd_T99 xs i).f2.f0) == ((rd_T99 ys i).f2.f0) && (((rd_T99 xs i).f2.f1) == ((rd_T99 ys i).f2.f1)))))) = eqL (rd_T99 xs i) (rd_T99 ys i) := by
  generalize rd_T99 xs i = x
  generalize rd_T99 ys i = y
  rw [ba_list]
  obtain ⟨x0, x1, ⟨x2, x3⟩⟩ := x
  obtain ⟨y0, y1, ⟨y2, y3⟩⟩ := y
  rw [Bool.eq_iff_iff, eqL_iff]
  simp [eqL_iff]
theorem eq_el2 (xs ys : List S102) (i : Int) : (((rd_T102 xs i).f0) == ((rd_T102 ys i).f0) && (((((rd_T102 xs i)).f1).toList) == ((((rd_T102 ys i)).f1).toList) && (((rd_T102 xs i).f2) == ((rd_T102 ys i).f2) && (((rd_T102 xs i).f3) == ((rd_T102 ys i).f3))))) = eqL (rd_T102 xs i) (rd_T102 ys i) := by
  generalize rd_T102 xs i = x
  generalize rd_T102 ys i = y
  rw [ba_list]
  obtain ⟨x0, x1, x2, x3⟩ := x
  obtain ⟨y0, y1, y2, y3⟩ := y
  rw [Bool.eq_iff_iff, eqL_iff]
  simp [eqL_iff]
theorem eq_el3 (xs ys : List S108) (i : Int) : (((rd_T108 xs i).f0) == ((rd_T108 ys i).f0) && (((rd_T108 xs i).f1) == ((rd_T108 ys i).f1) && (((rd_T108 xs i).f2) == ((rd_T108 ys i).f2) && (((rd_T108 xs i).f3) == ((rd_T108 ys i).f3))))) = eqL (rd_T108 xs i) (rd_T108 ys i) := by
  generalize rd_T108 xs i = x
  generalize rd_T108 ys i = y
  obtain ⟨x0, x1, x2, x3⟩ := x
  obtain ⟨y0, y1, y2, y3⟩ := y
  rw [Bool.eq_iff_iff, eqL_iff]
  simp [eqL_iff]
theorem eq_el4 (xs ys : List S111) (i : Int) : (((rd_T111 xs i).f0) == ((rd_T111 ys i).f0) && (((rd_T111 xs i).f1) == ((rd_T111 ys i).f1) && (((rd_T111 xs i).f2) == ((rd_T111 ys i).f2)))) = eqL (rd_T111 xs i) (rd_T111 ys i) := by
  generalize rd_T111 xs i = x
  generalize rd_T111 ys i = y
  obtain ⟨x0, x1, x2⟩ := x
  obtain ⟨y0, y1, y2⟩ := y
  rw [Bool.eq_iff_iff, eqL_iff]
  simp [eqL_iff]
theorem same_l0 (hl : a0.length = b0.length) (hm : a0.length < 9223372036854775807) : ∀ (n i : Nat) (b : Bool) (k : Nat), i + n = a0.length → n < k → kimberliteref08_Same.l0 k b (i : Int) a0 a1 a2 a3 a4 b0 b1 b2 b3 b4 = kimberliteref08_Same.l1 (k - n - 1) (b && eqL (a0.drop i) (b0.drop i)) 0 a0 a1 a2 a3 a4 b0 b1 b2 b3 b4 := by
  intro n
  induction n with
  | zero =>
    intro i b k hi hk
    obtain ⟨k, rfl⟩ : ∃ k', k = k' + 1 := ⟨k - 1, by omega⟩
    rw [kimberliteref08_Same.l0, if_neg (by omega)]
    rw [List.drop_of_length_le (by omega), List.drop_of_length_le (by omega)]
    have : eqL ([] : List Int) [] = true := eqL_iff.2 rfl
    rw [this, Bool.and_true]
    rfl
  | succ n ih =>
    intro i b k hi hk
    obtain ⟨k, rfl⟩ : ∃ k', k = k' + 1 := ⟨k - 1, by omega⟩
    have hw : wrap64 ((i : Int) + 1) = ((i + 1 : Nat) : Int) := by rw [w64 (by omega) (by omega)]; rfl
    have e1 : k + 1 - (n + 1) - 1 = k - n - 1 := by omega
    rw [kimberliteref08_Same.l0, if_pos (by omega), drop_getD a0 i (0:Int) (by omega), drop_getD b0 i (0:Int) (by omega), eqL_cons]
    cases b with
    | false =>
      rw [if_neg (by decide), hw, ih (i + 1) false k (by omega) (by omega), e1]
      rfl
    | true =>
      rw [if_pos rfl, if_pos (by omega), if_pos (by omega), hw, ih (i + 1) _ k (by omega) (by omega), e1, eq_el0]
      rfl
theorem same_l1 (hl : a1.length = b1.length) (hm : a1.length < 9223372036854775807) : ∀ (n i : Nat) (b : Bool) (k : Nat), i + n = a1.length → n < k → kimberliteref08_Same.l1 k b (i : Int) a0 a1 a2 a3 a4 b0 b1 b2 b3 b4 = kimberliteref08_Same.l2 (k - n - 1) (b && eqL (a1.drop i) (b1.drop i)) 0 a0 a1 a2 a3 a4 b0 b1 b2 b3 b4 := by
  intro n
  induction n with
  | zero =>
    intro i b k hi hk
    obtain ⟨k, rfl⟩ : ∃ k', k = k' + 1 := ⟨k - 1, by omega⟩
    rw [kimberliteref08_Same.l1, if_neg (by omega)]
    rw [List.drop_of_length_le (by omega), List.drop_of_length_le (by omega)]
    have : eqL ([] : List S99) [] = true := eqL_iff.2 rfl
    rw [this, Bool.and_true]
    rfl
  | succ n ih =>
    intro i b k hi hk
    obtain ⟨k, rfl⟩ : ∃ k', k = k' + 1 := ⟨k - 1, by omega⟩
    have hw : wrap64 ((i : Int) + 1) = ((i + 1 : Nat) : Int) := by rw [w64 (by omega) (by omega)]; rfl
    have e1 : k + 1 - (n + 1) - 1 = k - n - 1 := by omega
    rw [kimberliteref08_Same.l1, if_pos (by omega), drop_getD a1 i z99 (by omega), drop_getD b1 i z99 (by omega), eqL_cons]
    cases b with
    | false =>
      rw [if_neg (by decide), hw, ih (i + 1) false k (by omega) (by omega), e1]
      rfl
    | true =>
      rw [if_pos rfl, if_pos (by omega), if_pos (by omega), hw, ih (i + 1) _ k (by omega) (by omega), e1, eq_el1]
      rfl
theorem same_l2 (hl : a2.length = b2.length) (hm : a2.length < 9223372036854775807) : ∀ (n i : Nat) (b : Bool) (k : Nat), i + n = a2.length → n < k → kimberliteref08_Same.l2 k b (i : Int) a0 a1 a2 a3 a4 b0 b1 b2 b3 b4 = kimberliteref08_Same.l3 (k - n - 1) (b && eqL (a2.drop i) (b2.drop i)) 0 a0 a1 a2 a3 a4 b0 b1 b2 b3 b4 := by
  intro n
  induction n with
  | zero =>
    intro i b k hi hk
    obtain ⟨k, rfl⟩ : ∃ k', k = k' + 1 := ⟨k - 1, by omega⟩
    rw [kimberliteref08_Same.l2, if_neg (by omega)]
    rw [List.drop_of_length_le (by omega), List.drop_of_length_le (by omega)]
    have : eqL ([] : List S102) [] = true := eqL_iff.2 rfl
    rw [this, Bool.and_true]
    rfl
  | succ n ih =>
    intro i b k hi hk
    obtain ⟨k, rfl⟩ : ∃ k', k = k' + 1 := ⟨k - 1, by omega⟩
    have hw : wrap64 ((i : Int) + 1) = ((i + 1 : Nat) : Int) := by rw [w64 (by omega) (by omega)]; rfl
    have e1 : k + 1 - (n + 1) - 1 = k - n - 1 := by omega
    rw [kimberliteref08_Same.l2, if_pos (by omega), drop_getD a2 i z102 (by omega), drop_getD b2 i z102 (by omega), eqL_cons]
    cases b with
    | false =>
      rw [if_neg (by decide), hw, ih (i + 1) false k (by omega) (by omega), e1]
      rfl
    | true =>
      rw [if_pos rfl, if_pos (by omega), if_pos (by omega), hw, ih (i + 1) _ k (by omega) (by omega), e1, eq_el2]
      rfl
theorem same_l3 (hl : a3.length = b3.length) (hm : a3.length < 9223372036854775807) : ∀ (n i : Nat) (b : Bool) (k : Nat), i + n = a3.length → n < k → kimberliteref08_Same.l3 k b (i : Int) a0 a1 a2 a3 a4 b0 b1 b2 b3 b4 = kimberliteref08_Same.l4 (k - n - 1) (b && eqL (a3.drop i) (b3.drop i)) 0 a0 a1 a2 a3 a4 b0 b1 b2 b3 b4 := by
  intro n
  induction n with
  | zero =>
    intro i b k hi hk
    obtain ⟨k, rfl⟩ : ∃ k', k = k' + 1 := ⟨k - 1, by omega⟩
    rw [kimberliteref08_Same.l3, if_neg (by omega)]
    rw [List.drop_of_length_le (by omega), List.drop_of_length_le (by omega)]
    have : eqL ([] : List S108) [] = true := eqL_iff.2 rfl
    rw [this, Bool.and_true]
    rfl
  | succ n ih =>
    intro i b k hi hk
    obtain ⟨k, rfl⟩ : ∃ k', k = k' + 1 := ⟨k - 1, by omega⟩
    have hw : wrap64 ((i : Int) + 1) = ((i + 1 : Nat) : Int) := by rw [w64 (by omega) (by omega)]; rfl
    have e1 : k + 1 - (n + 1) - 1 = k - n - 1 := by omega
    rw [kimberliteref08_Same.l3, if_pos (by omega), drop_getD a3 i z108 (by omega), drop_getD b3 i z108 (by omega), eqL_cons]
    cases b with
    | false =>
      rw [if_neg (by decide), hw, ih (i + 1) false k (by omega) (by omega), e1]
      rfl
    | true =>
      rw [if_pos rfl, if_pos (by omega), if_pos (by omega), hw, ih (i + 1) _ k (by omega) (by omega), e1, eq_el3]
      rfl
theorem same_l4 (hl : a4.length = b4.length) (hm : a4.length < 9223372036854775807) : ∀ (n i : Nat) (b : Bool) (k : Nat), i + n = a4.length → n < k → kimberliteref08_Same.l4 k b (i : Int) a0 a1 a2 a3 a4 b0 b1 b2 b3 b4 = some (b && eqL (a4.drop i) (b4.drop i)) := by
  intro n
  induction n with
  | zero =>
    intro i b k hi hk
    obtain ⟨k, rfl⟩ : ∃ k', k = k' + 1 := ⟨k - 1, by omega⟩
    rw [kimberliteref08_Same.l4, if_neg (by omega)]
    rw [List.drop_of_length_le (by omega), List.drop_of_length_le (by omega)]
    have : eqL ([] : List S111) [] = true := eqL_iff.2 rfl
    rw [this, Bool.and_true]
  | succ n ih =>
    intro i b k hi hk
    obtain ⟨k, rfl⟩ : ∃ k', k = k' + 1 := ⟨k - 1, by omega⟩
    have hw : wrap64 ((i : Int) + 1) = ((i + 1 : Nat) : Int) := by rw [w64 (by omega) (by omega)]; rfl
    have e1 : k + 1 - (n + 1) - 1 = k - n - 1 := by omega
    rw [kimberliteref08_Same.l4, if_pos (by omega), drop_getD a4 i z111 (by omega), drop_getD b4 i z111 (by omega), eqL_cons]
    cases b with
    | false =>
      rw [if_neg (by decide), hw, ih (i + 1) false k (by omega) (by omega)]
      rfl
    | true =>
      rw [if_pos rfl, if_pos (by omega), if_pos (by omega), hw, ih (i + 1) _ k (by omega) (by omega), eq_el4]
      rfl
end
theorem same_ans (A B : S28) (m0 : A.f0.length < 9223372036854775807) (m1 : A.f1.length < 9223372036854775807) (m2 : A.f2.length < 9223372036854775807) (m3 : A.f3.length < 9223372036854775807) (m4 : A.f4.length < 9223372036854775807) : ∃ k, kimberliteref08_Same.f k A.f0 A.f1 A.f2 A.f3 A.f4 B.f0 B.f1 B.f2 B.f3 B.f4 = some (eqL A B) := by
  refine ⟨A.f0.length + 1 + (A.f1.length + 1) + (A.f2.length + 1) + (A.f3.length + 1) + (A.f4.length + 1) + 1, ?_⟩
  obtain ⟨a0, a1, a2, a3, a4⟩ := A
  obtain ⟨b0, b1, b2, b3, b4⟩ := B
  have no : ∀ (h : a0.length ≠ b0.length ∨ a1.length ≠ b1.length ∨ a2.length ≠ b2.length ∨ a3.length ≠ b3.length ∨ a4.length ≠ b4.length), eqL (⟨a0, a1, a2, a3, a4⟩ : S28) ⟨b0, b1, b2, b3, b4⟩ = false := by
    intro h
    cases e : eqL (⟨a0, a1, a2, a3, a4⟩ : S28) ⟨b0, b1, b2, b3, b4⟩ with
    | false => rfl
    | true =>
      have := eqL_iff.1 e
      injection this with h0 h1 h2 h3 h4
      subst h0 h1 h2 h3 h4
      simp at h
  have jt : ∀ k, kimberliteref08_Same.j0 (k + 1) true a0 a1 a2 a3 a4 b0 b1 b2 b3 b4 = some false := fun k => by rw [kimberliteref08_Same.j0, if_pos rfl]
  unfold kimberliteref08_Same.f
  dsimp only at *
  by_cases h0 : a0.length = b0.length
  · rw [if_pos (by omega)]
    by_cases h1 : a1.length = b1.length
    · rw [if_pos (by omega)]
      by_cases h2 : a2.length = b2.length
      · rw [if_pos (by omega)]
        by_cases h3 : a3.length = b3.length
        · rw [if_pos (by omega)]
          by_cases h4 : a4.length = b4.length
          · rw [show ((a4.length : Int) != (b4.length : Int)) = false by rw [h4]; simp, kimberliteref08_Same.j0, if_neg (by decide)]
            have z : ((0 : Nat) : Int) = 0 := rfl
            rw [← z, same_l0 _ _ _ _ _ _ _ _ _ _ h0 m0 a0.length 0 true _ (by omega) (by omega)]
            rw [← z, same_l1 _ _ _ _ _ _ _ _ _ _ h1 m1 a1.length 0 _ _ (by omega) (by omega)]
            rw [← z, same_l2 _ _ _ _ _ _ _ _ _ _ h2 m2 a2.length 0 _ _ (by omega) (by omega)]
            rw [← z, same_l3 _ _ _ _ _ _ _ _ _ _ h3 m3 a3.length 0 _ _ (by omega) (by omega)]
            rw [← z, same_l4 _ _ _ _ _ _ _ _ _ _ h4 m4 a4.length 0 _ _ (by omega) (by omega)]
            congr 1
            rw [Bool.eq_iff_iff]
            simp [eqL_iff, and_assoc]
          · rw [show ((a4.length : Int) != (b4.length : Int)) = true by simp; omega, jt, no (by simp [h4])]
        · rw [if_neg (by omega), jt, no (by simp [h3])]
      · rw [if_neg (by omega), jt, no (by simp [h2])]
    · rw [if_neg (by omega), jt, no (by simp [h1])]
  · rw [if_neg (by omega), jt, no (by simp [h0])]

end Go.Proofs.YtmeaeapopfcmbaaGreat
