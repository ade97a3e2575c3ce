/- Several texts in one: J0 J1 J2 J3. No conditions. -/
import Derived.Test.YtnbdfmdjedakcaaQ55
import Derived.Test.YtnbdfmdjedakcaaQ18
import Derived.Test.YtnbdfmdjedakcaaQ20
import Derived.Test.YtnbdfmdjedakcaaQ22
/- all, Count of a single class; alive. Plain. No conditions. -/
namespace Go.Proofs.Ytnbdfmdjedakcaa.PP
open Go.RowKit Go.Proofs.YtnbdfmdjedakcaaW.PrintWords Go.Proofs.YtnbdfmdjedakcaaW.PrintLast Go.Proofs.YtnbdfmdjedakcaaW.PrintMore Go.Proofs.Ytnbdfmdjedakcaa
set_option linter.unusedVariables false
set_option linter.unusedSimpArgs false
/-- With enough fuel. -/
def Ev {α : Type} (F : Nat → Option α) (r : α) : Prop := ∃ k0, ∀ k, k0 ≤ k → F k = some r
theorem Ev.step {α : Type} {F G : Nat → Option α} {r : α} (h : Ev G r) (e : ∀ k, F (k + 1) = G k) : Ev F r := by
  obtain ⟨k0, h⟩ := h
  refine ⟨k0 + 1, fun k hk => ?_⟩
  obtain ⟨j, rfl⟩ : ∃ j, k = j + 1 := ⟨k - 1, by omega⟩
  rw [e]
  exact h j (by omega)
theorem Ev.same {α : Type} {F G : Nat → Option α} {r : α} (h : Ev G r) (e : ∀ k, F k = G k) : Ev F r := by
  obtain ⟨k0, h⟩ := h
  exact ⟨k0, fun k hk => by rw [e]; exact h k hk⟩
theorem Ev.pure {α : Type} (r : α) : Ev (fun _ => some r) r := ⟨0, fun _ _ => rfl⟩
theorem Ev.bind {α β : Type} {F : Nat → Option α} {G : Nat → α → Option β} {x : α} {r : β} (h : Ev F x) (g : Ev (fun k => G k x) r) : Ev (fun k => (F k).bind (G k)) r := by
  obtain ⟨k0, h⟩ := h
  obtain ⟨k1, g⟩ := g
  refine ⟨max k0 k1, fun k hk => ?_⟩
  show (F k).bind (G k) = _
  rw [h k (by omega)]
  exact g k (by omega)
theorem Ev.to {α : Type} {F : Nat → Option α} {x y : α} (h : Ev F x) (e : x = y) : Ev F y := e ▸ h
theorem Ev.of_mono {α : Type} {F : Nat → Option α} {r : α} (hm : ∀ k, LeO (F k) (F (k + 1))) {k : Nat} (h : F k = some r) : Ev F r := by
  refine ⟨k, fun j hj => ?_⟩
  induction j with
  | zero => obtain rfl : k = 0 := by omega
            exact h
  | succ j ih =>
    by_cases e : k = j + 1
    · rw [← e]; exact h
    · exact hm j r (ih (by omega))
theorem w64 {x : Int} (h0 : -9223372036854775808 ≤ x) (h1 : x ≤ 9223372036854775807) : wrap64 x = x := by
  unfold wrap64
  omega
theorem range_map_succ {α : Type} (m : Nat) (f : Nat → α) : (List.range (m + 1)).map f = f 0 :: (List.range m).map (fun i => f (i + 1)) := by
  rw [List.range_succ_eq_map, List.map_cons, List.map_map]
  rfl
theorem all2 (a b : Int) (r : List S36) : ∀ m (c : Nat) (xs : List S36), c + m = 12 → xs.length + m < 5864062014805 → Ev (fun k => grade_all.l1 k (xs ++ (List.range m).map fun i => (⟨a, b, ((c + i : Nat) : Int)⟩ : S36)) a a (wrap64 (b + 1))) r → Ev (fun k => grade_all.l2 k xs a b a b (c : Int)) r
  | 0, c, xs, hc, hx, h => by
    refine Ev.step h (fun k => ?_)
    show grade_all.l2 (k + 1) xs a b a b (c : Int) = _
    rw [grade_all.l2, if_neg (by omega)]
    simp
  | m + 1, c, xs, hc, hx, h => by
    refine Ev.step (all2 a b r m (c + 1) (xs ++ [⟨a, b, (c : Int)⟩]) (by omega) (by simp; omega) ?_) (fun k => ?_)
    · rw [range_map_succ, show (fun i : Nat => (⟨a, b, ((c + (i + 1) : Nat) : Int)⟩ : S36)) = fun i : Nat => (⟨a, b, ((c + 1 + i : Nat) : Int)⟩ : S36) from funext fun i => by rw [show c + (i + 1) = c + 1 + i by omega]] at h
      rw [List.append_assoc]
      exact h
    · show grade_all.l2 (k + 1) xs a b a b (c : Int) = _
      rw [grade_all.l2, if_pos (by omega), if_pos (by omega), w64 (by omega) (by omega)]
      rfl
theorem all1 (a : Int) (r : List S36) : ∀ m (b : Nat) (xs : List S36), b + m = 12 → xs.length + m * 12 < 5864062014805 → Ev (fun k => grade_all.l0 k (xs ++ (List.range m).flatMap fun (j : Nat) => (List.range 12).map fun (i : Nat) => (⟨a, ((b + j : Nat) : Int), (i : Int)⟩ : S36)) (wrap64 (a + 1))) r → Ev (fun k => grade_all.l1 k xs a a (b : Int)) r
  | 0, b, xs, hb, hx, h => by
    refine Ev.step h (fun k => ?_)
    show grade_all.l1 (k + 1) xs a a (b : Int) = _
    rw [grade_all.l1, if_neg (by omega)]
    simp
  | m + 1, b, xs, hb, hx, h => by
    refine Ev.step (all2 a (b : Int) r 12 0 xs (by omega) (by omega) ?_) (fun k => ?_)
    · have hb1 : wrap64 ((b : Int) + 1) = ((b + 1 : Nat) : Int) := by rw [w64 (by omega) (by omega)]; rfl
      rw [hb1]
      refine all1 a r m (b + 1) _ (by omega) (by simp; omega) ?_
      rw [show List.range (m + 1) = 0 :: (List.range m).map Nat.succ from List.range_succ_eq_map, List.flatMap_cons, List.flatMap_map, show (fun j : Nat => (List.range 12).map fun (i : Nat) => (⟨a, ((b + Nat.succ j : Nat) : Int), (i : Int)⟩ : S36)) = fun j : Nat => (List.range 12).map fun (i : Nat) => (⟨a, ((b + 1 + j : Nat) : Int), (i : Int)⟩ : S36) from funext fun j => by rw [show b + Nat.succ j = b + 1 + j by omega]] at h
      rw [List.append_assoc]
      have z : (fun i : Nat => (⟨a, (b : Int), ((0 + i : Nat) : Int)⟩ : S36)) = fun i : Nat => (⟨a, ((b + 0 : Nat) : Int), (i : Int)⟩ : S36) := funext fun i => by rw [Nat.zero_add, Nat.add_zero]
      rw [z]
      exact h
    · show grade_all.l1 (k + 1) xs a a (b : Int) = _
      rw [grade_all.l1, if_pos (by omega)]
      rfl
theorem all0 (r : List S36) : ∀ m (a : Nat) (xs : List S36), a + m = 12 → xs.length + m * 144 < 5864062014805 → r = (xs ++ (List.range m).flatMap fun (q : Nat) => (List.range 12).flatMap fun (j : Nat) => (List.range 12).map fun (i : Nat) => (⟨((a + q : Nat) : Int), (j : Int), (i : Int)⟩ : S36)) → Ev (fun k => grade_all.l0 k xs (a : Int)) r
  | 0, a, xs, ha, hx, h => by
    refine Ev.step (Ev.pure r) (fun k => ?_)
    show grade_all.l0 (k + 1) xs (a : Int) = _
    rw [grade_all.l0, if_neg (by omega), h]
    simp
  | m + 1, a, xs, ha, hx, h => by
    refine Ev.step (all1 (a : Int) r 12 0 xs (by omega) (by omega) ?_) (fun k => ?_)
    · have hb1 : wrap64 ((a : Int) + 1) = ((a + 1 : Nat) : Int) := by rw [w64 (by omega) (by omega)]; rfl
      rw [hb1]
      refine all0 r m (a + 1) _ (by omega) ?_ ?_
      · have : ((List.range 12).flatMap fun (j : Nat) => (List.range 12).map fun (i : Nat) => (⟨(a : Int), ((0 + j : Nat) : Int), (i : Int)⟩ : S36)).length = 144 := by
          rw [List.length_flatMap]
          simp
          decide
        rw [List.length_append, this]
        omega
      · rw [h, show List.range (m + 1) = 0 :: (List.range m).map Nat.succ from List.range_succ_eq_map, List.flatMap_cons, List.flatMap_map, show (fun q : Nat => (List.range 12).flatMap fun (j : Nat) => (List.range 12).map fun (i : Nat) => (⟨((a + Nat.succ q : Nat) : Int), (j : Int), (i : Int)⟩ : S36)) = fun q : Nat => (List.range 12).flatMap fun (j : Nat) => (List.range 12).map fun (i : Nat) => (⟨((a + 1 + q : Nat) : Int), (j : Int), (i : Int)⟩ : S36) from funext fun q => by rw [show a + Nat.succ q = a + 1 + q by omega]]
        rw [List.append_assoc]
        have z : (fun (j : Nat) => (List.range 12).map fun (i : Nat) => (⟨(a : Int), ((0 + j : Nat) : Int), (i : Int)⟩ : S36)) = fun (j : Nat) => (List.range 12).map fun (i : Nat) => (⟨((a + 0 : Nat) : Int), (j : Int), (i : Int)⟩ : S36) := funext fun j => by rw [Nat.zero_add, Nat.add_zero]
        rw [z]
    · show grade_all.l0 (k + 1) xs (a : Int) = _
      rw [grade_all.l0, if_pos (by omega)]
      rfl
/-- All grades, ascending. -/
def allL : List S36 := (List.range 12).flatMap fun (q : Nat) => (List.range 12).flatMap fun (j : Nat) => (List.range 12).map fun (i : Nat) => (⟨(q : Int), (j : Int), (i : Int)⟩ : S36)
theorem all_ev : Ev grade_all.f allL := by
  refine Ev.same (all0 allL 12 0 [] (by omega) (by simp) ?_) (fun k => rfl)
  rw [List.nil_append, show (fun q : Nat => (List.range 12).flatMap fun (j : Nat) => (List.range 12).map fun (i : Nat) => (⟨((0 + q : Nat) : Int), (j : Int), (i : Int)⟩ : S36)) = fun q : Nat => (List.range 12).flatMap fun (j : Nat) => (List.range 12).map fun (i : Nat) => (⟨(q : Int), (j : Int), (i : Int)⟩ : S36) from funext fun q => by rw [Nat.zero_add]]
  rfl
theorem rdT36_get (xs : List S36) (j : Nat) (hj : j < xs.length) : rd_T36 xs (j : Int) = xs[j] := by
  unfold rd_T36
  simp [List.getD_eq_getElem?_getD, hj]
theorem count_l0 (cl : List S36) (xs : List S36) : ∀ m (j : Nat) (n : Nat), j + m = xs.length → xs.length < 1000000 → n ≤ j → Ev (fun k => grade_Count.l0 k cl (n : Int) xs (xs.length : Int) (j : Int)) ((((n + ((xs.drop j).filter fun g => cl.any fun o => belowG o g).length : Nat)) : Int), 0)
  | 0, j, n, hj, hx, hn => by
    refine Ev.step (Ev.pure _) (fun k => ?_)
    show grade_Count.l0 (k + 1) cl (n : Int) xs (xs.length : Int) (j : Int) = _
    rw [grade_Count.l0, if_neg (by omega), List.drop_eq_nil_of_le (by omega)]
    simp
  | m + 1, j, n, hj, hx, hn => by
    have hjl : j < xs.length := by omega
    have hw : wrap64 ((j : Int) + 1) = ((j + 1 : Nat) : Int) := by rw [w64 (by omega) (by omega)]; rfl
    have hw2 : wrap64 ((n : Int) + 1) = ((n + 1 : Nat) : Int) := by rw [w64 (by omega) (by omega)]; rfl
    have hd : xs.drop j = xs[j] :: xs.drop (j + 1) := List.drop_eq_getElem_cons hjl
    have hin : grade_in.f cl (rd_T36 xs (j : Int)).f0 (rd_T36 xs (j : Int)).f1 (rd_T36 xs (j : Int)).f2 = some (cl.any fun o => belowG o xs[j]) := by
      rw [rdT36_get xs j hjl]; rfl
    cases hc : cl.any fun o => belowG o xs[j] with
    | true =>
      refine Ev.step ((count_l0 cl xs m (j + 1) (n + 1) (by omega) hx (by omega)).to ?_) (fun k => ?_)
      · rw [hd, List.filter_cons, if_pos hc]
        simp
        omega
      · show grade_Count.l0 (k + 1) cl (n : Int) xs (xs.length : Int) (j : Int) = _
        rw [grade_Count.l0, if_pos (by omega), if_pos (by omega), if_pos (by omega), hin, Option.bind_some, if_pos hc, hw, hw2]
    | false =>
      refine Ev.step ((count_l0 cl xs m (j + 1) n (by omega) hx (by omega)).to ?_) (fun k => ?_)
      · rw [hd, List.filter_cons, if_neg (by rw [hc]; decide)]
      · show grade_Count.l0 (k + 1) cl (n : Int) xs (xs.length : Int) (j : Int) = _
        rw [grade_Count.l0, if_pos (by omega), if_pos (by omega), if_pos (by omega), hin, Option.bind_some, if_neg (by rw [hc]; decide), hw]
theorem allL_len : allL.length = 1728 := by
  kernel_rfl
/-- Count, of an antichain. -/
theorem count_ev {cl : List S36} (ha : Ev (fun k => grade_antichain.f k cl) true) : Ev (fun k => grade_Count.f k cl) ((((allL.filter fun g => cl.any fun o => belowG o g).length : Nat) : Int), 0) := by
  unfold grade_Count.f
  refine Ev.bind ha ?_
  simp only [if_true]
  refine Ev.bind all_ev ?_
  have h := count_l0 cl allL allL.length 0 0 (by omega) (by rw [allL_len]; omega) (Nat.le_refl _)
  simpa using h
end Go.Proofs.Ytnbdfmdjedakcaa.PP

/- alive is true. Plain. No conditions. -/
namespace Go.Proofs.Ytnbdfmdjedakcaa.PP
open Go.RowKit Go.Proofs.YtnbdfmdjedakcaaW.PrintWords Go.Proofs.YtnbdfmdjedakcaaW.PrintLast Go.Proofs.YtnbdfmdjedakcaaW.PrintMore Go.Proofs.Ytnbdfmdjedakcaa
set_option linter.unusedVariables false
set_option linter.unusedSimpArgs false
def g11 : S36 := ⟨11, 11, 10⟩
theorem ex11 : exF belowG [g11] = [g11] := by
  have h : (exGo belowG [g11] [g11].length).2 = [g11] := by kernel_rfl
  exact (congrArg sortG h).trans (List.mergeSort_singleton _)
theorem anti11 : Ev (fun k => grade_antichain.f k [g11]) true := by
  unfold grade_antichain.f
  have h1 : grade_listed.f [g11] 256 = some 0 := by kernel_rfl
  have h2 : grade_least.f [g11] = some [g11] := by
    unfold grade_least.f
    rw [if_pos (by decide), ex11]
  simp only [h1, h2, Option.bind_some, if_true]
  have h3 : Ev (fun k => api_Grade_111.f k [g11] [g11]) true := Ev.of_mono (api_Grade_111.mono _ _) (k := 5) (by kernel_rfl)
  exact Ev.bind h3 (Ev.pure _)
theorem count11 : Ev (fun k => grade_Count.f k [g11]) (2, 0) := by
  refine Ev.to (count_ev anti11) ?_
  have h : (allL.filter fun g => [g11].any fun o => belowG o g).length = 2 := by kernel_rfl
  rw [h]
  rfl
theorem alive_ev : Ev (fun k => kimberlitelaw02_alive.f k) true := by
  unfold kimberlitelaw02_alive.f
  refine Ev.bind count11 ?_
  have h1 : Ev (fun k => grade_Level.f k (([(⟨(⟨0, 0, 0⟩ : S36), 10, 1⟩ : S38), (⟨(⟨1, 0, 0⟩ : S36), 4, 1⟩ : S38)] : List (S38)))) ([7, 7], 3, 0) := Ev.of_mono (grade_Level.mono _) (k := 40) (by kernel_rfl)
  refine Ev.bind h1 ?_
  have h2 : grade_Width.f (([(⟨0, 0, 1⟩ : S36), (⟨0, 1, 0⟩ : S36), (⟨0, 1, 1⟩ : S36)] : List (S36))) = some (2, [0, 1], 0) := by kernel_rfl
  rw [h2]
  simp only [Option.bind_some, if_true]
  have h3 : Ev (fun k => kimberlitelaw02_same.f k [7, 7] [7, 7]) true := Ev.of_mono (kimberlitelaw02_same.mono _ _) (k := 10) (by kernel_rfl)
  refine Ev.bind h3 ?_
  simp only [if_true]
  have h4 : Ev (fun k => kimberlitelaw02_same.f k [0, 1] [0, 1]) true := Ev.of_mono (kimberlitelaw02_same.mono _ _) (k := 10) (by kernel_rfl)
  exact Ev.bind h4 (Ev.pure _)
end Go.Proofs.Ytnbdfmdjedakcaa.PP

/- Clash and Level: what they answer; the reference answers the same. Plain. No conditions. -/
namespace Go.Proofs.Ytnbdfmdjedakcaa.PP
open Go.RowKit Go.Proofs.YtnbdfmdjedakcaaW.PrintWords Go.Proofs.YtnbdfmdjedakcaaW.PrintLast Go.Proofs.YtnbdfmdjedakcaaW.PrintMore Go.Proofs.Ytnbdfmdjedakcaa
set_option linter.unusedVariables false
set_option linter.unusedSimpArgs false
/-- A valid quote. -/
def okQ (q : S38) : Prop := gok q.f0 = true ∧ 0 ≤ q.f1 ∧ q.f1 ≤ 1073741824 ∧ 1 ≤ q.f2 ∧ q.f2 ≤ 1048576
instance (q : S38) : Decidable (okQ q) := by unfold okQ; infer_instance
abbrev qA (l : List S38) (i : Nat) : S38 := rd_T38 l (i : Int)
theorem suc64 {j n : Nat} (h : j ≤ 1000000) : wrap64 ((j : Int) + 1) = ((j + 1 : Nat) : Int) := by rw [w64 (by omega) (by omega)]; rfl
/-- The error of quotes from the j-th on. -/
def qErr (l : List S38) : Nat → Nat → Int
  | 0, _ => 0
  | m + 1, j => if okQ (qA l j) then qErr l m (j + 1) else 2
theorem quotes_l0 (l : List S38) : ∀ m j, j + m = l.length → l.length ≤ 24 → Ev (fun k => grade_quotes.l0 k l (l.length : Int) (j : Int)) (qErr l m j)
  | 0, j, h, hn => by
    refine Ev.step (Ev.pure _) (fun k => ?_)
    show grade_quotes.l0 (k + 1) l (l.length : Int) (j : Int) = _
    rw [grade_quotes.l0, if_neg (by omega)]
    rfl
  | m + 1, j, h, hn => by
    have e0 : ∀ k, grade_quotes.l0 (k + 1) l (l.length : Int) (j : Int) = if okQ (qA l j) then grade_quotes.l0 k l (l.length : Int) ((j + 1 : Nat) : Int) else some 2 := fun k => by
      rw [grade_quotes.l0, if_pos (by omega), if_pos (by omega), if_pos (by omega), suc64 (n := 0) (by omega)]
      show (if gok (qA l j).f0 = true then _ else _) = _
      by_cases h1 : gok (qA l j).f0 = true
      · rw [if_pos h1]
        by_cases h2 : (qA l j).f1 < 0
        · rw [if_pos h2, if_neg (fun z => by have := z.2; omega)]
        · rw [if_neg h2]
          by_cases h3 : (qA l j).f1 > 1073741824
          · rw [if_pos h3, if_neg (fun z => by have := z.2; omega)]
          · rw [if_neg h3]
            by_cases h4 : (qA l j).f2 < 1
            · rw [if_pos h4, if_neg (fun z => by have := z.2; omega)]
            · rw [if_neg h4]
              by_cases h5 : (qA l j).f2 > 1048576
              · rw [if_pos h5, if_neg (fun z => by have := z.2; omega)]
              · rw [if_neg h5, if_pos ⟨h1, by omega, by omega, by omega, by omega⟩]
      · rw [if_neg h1, if_neg (fun z => h1 z.1)]
    by_cases hq : okQ (qA l j)
    · refine Ev.step ((quotes_l0 l m (j + 1) (by omega) hn).to ?_) (fun k => ?_)
      · rw [qErr, if_pos hq]
      · show grade_quotes.l0 (k + 1) l (l.length : Int) (j : Int) = _
        rw [e0, if_pos hq]
    · refine Ev.step (Ev.pure _) (fun k => ?_)
      show grade_quotes.l0 (k + 1) l (l.length : Int) (j : Int) = _
      rw [e0, if_neg hq, qErr, if_neg hq]
theorem refQuotes_l0 (l : List S38) (hl : l.length ≤ 1000000) : ∀ k (j : Nat), kimberliteref02_Quotes.l0 k l (j : Int) = grade_quotes.l0 k l (l.length : Int) (j : Int)
  | 0, j => by rw [kimberliteref02_Quotes.l0, grade_quotes.l0]
  | k + 1, j => by
    rw [kimberliteref02_Quotes.l0, grade_quotes.l0]
    by_cases h1 : (j : Int) < (l.length : Int)
    · rw [if_pos h1, if_pos h1, if_pos (show (0 : Int) ≤ (j : Int) by omega), if_pos (show (0 : Int) ≤ (j : Int) by omega), if_pos h1, suc64 (n := 0) (by omega), refQuotes_l0 l hl k (j + 1)]
      rfl
    · rw [if_neg h1, if_neg h1]
/-- The error of quotes. -/
def qErrF (l : List S38) : Int := if (l.length : Int) > 24 then 3 else qErr l l.length 0
theorem refQuotes_eq (l : List S38) (hl : l.length ≤ 1000000) (k : Nat) : kimberliteref02_Quotes.f k l = grade_quotes.f k l := by
  unfold kimberliteref02_Quotes.f grade_quotes.f
  by_cases h : (l.length : Int) > 24
  · rw [if_pos h, if_pos h]
  · rw [if_neg h, if_neg h]
    exact refQuotes_l0 l hl k 0
theorem quotes_ev (l : List S38) : Ev (fun k => grade_quotes.f k l) (qErrF l) := by
  unfold grade_quotes.f qErrF
  by_cases h : (l.length : Int) > 24
  · simp only [if_pos h]
    exact Ev.pure _
  · simp only [if_neg h]
    exact quotes_l0 l l.length 0 (by omega) (by omega)
theorem qErr_ok {l : List S38} : ∀ m j, qErr l m j = 0 → ∀ i, j ≤ i → i < j + m → okQ (qA l i)
  | 0, j, h, i, h1, h2 => by omega
  | m + 1, j, h, i, h1, h2 => by
    rw [qErr] at h
    by_cases hq : okQ (qA l j)
    · rw [if_pos hq] at h
      by_cases e : i = j
      · rw [e]; exact hq
      · exact qErr_ok m (j + 1) h i (by omega) (by omega)
    · rw [if_neg hq] at h
      exact absurd h (by decide)
theorem qErrF_ok {l : List S38} (h : qErrF l = 0) : l.length ≤ 24 ∧ ∀ i, i < l.length → okQ (qA l i) := by
  unfold qErrF at h
  by_cases h1 : (l.length : Int) > 24
  · rw [if_pos h1] at h; exact absurd h (by decide)
  · rw [if_neg h1] at h
    exact ⟨by omega, fun i hi => qErr_ok _ _ h i (by omega) (by omega)⟩
/-- Below, of two quotes. -/
def blQ (l : List S38) (i j : Nat) : Bool := belowG (qA l i).f0 (qA l j).f0
def dfQ (l : List S38) (i j : Nat) : Int := (qA l i).f1 - (qA l j).f1
/-- What has been found so far: the worst clash of the pairs ahead of (i, j). -/
structure CIn (l : List S38) (a b c : Int) (i j : Nat) : Prop where
  at_ : (a = -1 ∧ b = -1 ∧ c = 0) ∨ ∃ p q : Nat, a = p ∧ b = q ∧ p < l.length ∧ q < l.length ∧ p ≠ q ∧ blQ l p q = true ∧ c = dfQ l p q ∧ 0 < c
  most : ∀ p q : Nat, (p < i ∨ (p = i ∧ q < j)) → q < l.length → p ≠ q → blQ l p q = true → dfQ l p q ≤ c
theorem CIn.c0 {l : List S38} {a b c : Int} {i j : Nat} (h : CIn l a b c i j) : 0 ≤ c := by
  rcases h.at_ with ⟨_, _, h⟩ | ⟨p, q, _, _, _, _, _, _, _, h⟩ <;> omega
theorem df64 {l : List S38} (hok : ∀ i, i < l.length → okQ (qA l i)) {i j : Nat} (hi : i < l.length) (hj : j < l.length) : wrap64 ((qA l i).f1 - (qA l j).f1) = dfQ l i j := by
  have h1 := (hok i hi).2
  have h2 := (hok j hj).2
  exact w64 (by omega) (by omega)
theorem clash_step (l : List S38) (hok : ∀ i, i < l.length → okQ (qA l i)) (hn : l.length ≤ 24) (a b c : Int) (i j : Nat) (hi : i < l.length) (hj : j < l.length) (k : Nat) :
    grade_Clash.l1 (k + 1) l a b c (i : Int) l (l.length : Int) (i : Int) l (l.length : Int) (j : Int) (qA l i).f0.f0 (qA l i).f0.f1 (qA l i).f0.f2 (qA l i).f1 (qA l i).f2 =
      if i ≠ j ∧ blQ l i j = true ∧ c < dfQ l i j then grade_Clash.l1 k l i j (dfQ l i j) (i : Int) l (l.length : Int) (i : Int) l (l.length : Int) ((j + 1 : Nat) : Int) (qA l i).f0.f0 (qA l i).f0.f1 (qA l i).f0.f2 (qA l i).f1 (qA l i).f2
      else grade_Clash.l1 k l a b c (i : Int) l (l.length : Int) (i : Int) l (l.length : Int) ((j + 1 : Nat) : Int) (qA l i).f0.f0 (qA l i).f0.f1 (qA l i).f0.f2 (qA l i).f1 (qA l i).f2 := by
  rw [grade_Clash.l1, if_pos (by omega), if_pos (by omega), if_pos (by omega), suc64 (n := 0) (by omega)]
  by_cases hij : i = j
  · rw [if_pos (by omega), if_neg (fun z => z.1 hij)]
  · rw [if_neg (by omega)]
    have hb : grade_Below.f (qA l i).f0.f0 (qA l i).f0.f1 (qA l i).f0.f2 (rd_T38 l (j : Int)).f0.f0 (rd_T38 l (j : Int)).f0.f1 (rd_T38 l (j : Int)).f0.f2 = some (blQ l i j) := below_f (qA l i).f0 (qA l j).f0
    rw [hb, Option.bind_some]
    have hd : wrap64 ((qA l i).f1 - (rd_T38 l (j : Int)).f1) = dfQ l i j := df64 hok hi hj
    rw [hd]
    by_cases h1 : blQ l i j = true
    · rw [if_pos h1]
      by_cases h2 : c < dfQ l i j
      · rw [if_pos h2, if_pos ⟨hij, h1, h2⟩]
      · rw [if_neg h2, if_neg (fun z => h2 z.2.2)]
    · rw [if_neg h1, if_neg (fun z => h1 z.2.1)]
theorem clash_l1 (l : List S38) (hok : ∀ i, i < l.length → okQ (qA l i)) (hn : l.length ≤ 24) (i : Nat) (hi : i < l.length) (R : Int → Int → Int → Prop)
    (next : ∀ a b c, CIn l a b c (i + 1) 0 → ∃ x y z, Ev (fun k => grade_Clash.l0 k l a b c l (l.length : Int) ((i + 1 : Nat) : Int)) (x, y, 0) ∧ R x y z) :
    ∀ m (j : Nat) a b c, j + m = l.length → CIn l a b c i j → ∃ x y z, Ev (fun k => grade_Clash.l1 k l a b c (i : Int) l (l.length : Int) (i : Int) l (l.length : Int) (j : Int) (qA l i).f0.f0 (qA l i).f0.f1 (qA l i).f0.f2 (qA l i).f1 (qA l i).f2) (x, y, 0) ∧ R x y z
  | 0, j, a, b, c, hj, h => by
    obtain ⟨x, y, z, h1, h2⟩ := next a b c ⟨h.at_, fun p q hp hq => h.most p q (by omega) hq⟩
    refine ⟨x, y, z, Ev.step h1 (fun k => ?_), h2⟩
    show grade_Clash.l1 (k + 1) l a b c (i : Int) l (l.length : Int) (i : Int) l (l.length : Int) (j : Int) _ _ _ _ _ = _
    rw [grade_Clash.l1, if_neg (by omega), suc64 (n := 0) (by omega)]
  | m + 1, j, a, b, c, hj, h => by
    by_cases hq : i ≠ j ∧ blQ l i j = true ∧ c < dfQ l i j
    · obtain ⟨x, y, z, h1, h2⟩ := clash_l1 l hok hn i hi R next m (j + 1) i j (dfQ l i j) (by omega) ⟨Or.inr ⟨i, j, rfl, rfl, hi, by omega, hq.1, hq.2.1, rfl, by have := h.c0; omega⟩, fun p q hp hq1 hq2 hq3 => by
        by_cases e : p = i ∧ q = j
        · rw [e.1, e.2]; exact Int.le_refl _
        · have := h.most p q (by omega) hq1 hq2 hq3
          omega⟩
      refine ⟨x, y, z, Ev.step h1 (fun k => ?_), h2⟩
      show grade_Clash.l1 (k + 1) l a b c (i : Int) l (l.length : Int) (i : Int) l (l.length : Int) (j : Int) _ _ _ _ _ = _
      rw [clash_step l hok hn a b c i j hi (by omega) k, if_pos hq]
    · obtain ⟨x, y, z, h1, h2⟩ := clash_l1 l hok hn i hi R next m (j + 1) a b c (by omega) ⟨h.at_, fun p q hp hq1 hq2 hq3 => by
        by_cases e : p = i ∧ q = j
        · obtain ⟨rfl, rfl⟩ := e
          by_cases h9 : c < dfQ l p q
          · exact absurd ⟨hq2, hq3, h9⟩ hq
          · omega
        · exact h.most p q (by omega) hq1 hq2 hq3⟩
      refine ⟨x, y, z, Ev.step h1 (fun k => ?_), h2⟩
      show grade_Clash.l1 (k + 1) l a b c (i : Int) l (l.length : Int) (i : Int) l (l.length : Int) (j : Int) _ _ _ _ _ = _
      rw [clash_step l hok hn a b c i j hi (by omega) k, if_neg hq]
theorem clash_l0 (l : List S38) (hok : ∀ i, i < l.length → okQ (qA l i)) (hn : l.length ≤ 24) : ∀ m (i : Nat) a b c, i + m = l.length → CIn l a b c i 0 → ∃ x y z, Ev (fun k => grade_Clash.l0 k l a b c l (l.length : Int) (i : Int)) (x, y, 0) ∧ CIn l x y z l.length 0
  | 0, i, a, b, c, hi, h => by
    obtain rfl : i = l.length := by omega
    refine ⟨a, b, c, Ev.step (Ev.pure _) (fun k => ?_), h⟩
    show grade_Clash.l0 (k + 1) l a b c l (l.length : Int) (l.length : Int) = _
    rw [grade_Clash.l0, if_neg (by omega)]
  | m + 1, i, a, b, c, hi, h => by
    obtain ⟨x, y, z, h1, h2⟩ := clash_l1 l hok hn i (by omega) (fun x y z => CIn l x y z l.length 0) (fun a b c hc => clash_l0 l hok hn m (i + 1) a b c (by omega) hc) l.length 0 a b c (by omega) h
    refine ⟨x, y, z, Ev.step h1 (fun k => ?_), h2⟩
    show grade_Clash.l0 (k + 1) l a b c l (l.length : Int) (i : Int) = _
    rw [grade_Clash.l0, if_pos (by omega), if_pos (by omega), if_pos (by omega)]
    rfl
/-- Clash, of valid quotes. -/
theorem clash_ev (l : List S38) (h : qErrF l = 0) : ∃ x y z, Ev (fun k => grade_Clash.f k l) (x, y, 0) ∧ CIn l x y z l.length 0 := by
  obtain ⟨hn, hok⟩ := qErrF_ok h
  obtain ⟨x, y, z, h1, h2⟩ := clash_l0 l hok hn l.length 0 (-1) (-1) 0 (by omega) ⟨Or.inl ⟨rfl, rfl, rfl⟩, fun p q hp => by omega⟩
  refine ⟨x, y, z, ?_, h2⟩
  unfold grade_Clash.f
  refine Ev.bind (Ev.to (quotes_ev l) h) ?_
  simp only [if_true]
  exact h1
theorem clash_err (l : List S38) (h : qErrF l ≠ 0) : Ev (fun k => grade_Clash.f k l) (0, 0, qErrF l) := by
  unfold grade_Clash.f
  refine Ev.bind (quotes_ev l) ?_
  simp only [if_neg h]
  exact Ev.pure _
end Go.Proofs.Ytnbdfmdjedakcaa.PP

/- Level: what it answers; the reference's Clash and Level answer the same. Plain. No conditions. -/
namespace Go.Proofs.Ytnbdfmdjedakcaa.PP
open Go.RowKit Go.Proofs.YtnbdfmdjedakcaaW.PrintWords Go.Proofs.YtnbdfmdjedakcaaW.PrintLast Go.Proofs.YtnbdfmdjedakcaaW.PrintMore Go.Proofs.Ytnbdfmdjedakcaa
set_option linter.unusedVariables false
set_option linter.unusedSimpArgs false
theorem blQ_f (l : List S38) (i j : Nat) : grade_Below.f (rd_T38 l (i : Int)).f0.f0 (rd_T38 l (i : Int)).f0.f1 (rd_T38 l (i : Int)).f0.f2 (rd_T38 l (j : Int)).f0.f0 (rd_T38 l (j : Int)).f0.f1 (rd_T38 l (j : Int)).f0.f2 = some (blQ l i j) := below_f (qA l i).f0 (qA l j).f0
theorem refClash_l (l : List S38) (hl : l.length ≤ 1000000) : ∀ k, (∀ a b c (i : Nat), kimberliteref02_Clash.l0 k l a b c (i : Int) = grade_Clash.l0 k l a b c l (l.length : Int) (i : Int)) ∧
    (∀ a b c (i j : Nat), i < l.length → kimberliteref02_Clash.l1 k l a b c (i : Int) (j : Int) = grade_Clash.l1 k l a b c (i : Int) l (l.length : Int) (i : Int) l (l.length : Int) (j : Int) (qA l i).f0.f0 (qA l i).f0.f1 (qA l i).f0.f2 (qA l i).f1 (qA l i).f2)
  | 0 => ⟨fun a b c i => by rw [kimberliteref02_Clash.l0, grade_Clash.l0], fun a b c i j hi => by rw [kimberliteref02_Clash.l1, grade_Clash.l1]⟩
  | k + 1 => by
    obtain ⟨ih0, ih1⟩ := refClash_l l hl k
    refine ⟨fun a b c i => ?_, fun a b c i j hi => ?_⟩
    · rw [kimberliteref02_Clash.l0, grade_Clash.l0]
      by_cases h : (i : Int) < (l.length : Int)
      · rw [if_pos h, if_pos h, if_pos (show (0 : Int) ≤ (i : Int) by omega), if_pos h]
        exact ih1 a b c i 0 (by omega)
      · rw [if_neg h, if_neg h]
    · rw [kimberliteref02_Clash.l1, grade_Clash.l1]
      by_cases h : (j : Int) < (l.length : Int)
      · rw [if_pos h, if_pos h, if_pos (show (0 : Int) ≤ (j : Int) by omega), if_pos h]
        have hw : wrap64 ((j : Int) + 1) = ((j + 1 : Nat) : Int) := suc64 (n := 0) (by omega)
        have hw' : wrap64 ((i : Int) + 1) = ((i + 1 : Nat) : Int) := suc64 (n := 0) (by omega)
        by_cases hij : (i : Int) = (j : Int)
        · rw [if_pos hij, if_pos hij, hw]
          exact ih1 a b c i (j + 1) hi
        · rw [if_neg hij, if_neg hij, if_pos (show (0 : Int) ≤ (i : Int) by omega), if_pos (show (i : Int) < (l.length : Int) by omega), if_pos (show (0 : Int) ≤ (j : Int) by omega)]
          rw [show kimberliteref02_Below.f (rd_T38 l (i : Int)).f0.f0 (rd_T38 l (i : Int)).f0.f1 (rd_T38 l (i : Int)).f0.f2 (rd_T38 l (j : Int)).f0.f0 (rd_T38 l (j : Int)).f0.f1 (rd_T38 l (j : Int)).f0.f2 = some (blQ l i j) from blQ_f l i j, blQ_f l i j, Option.bind_some, Option.bind_some, hw]
          by_cases h1 : blQ l i j = true
          · rw [if_pos h1, if_pos h1]
            by_cases h2 : wrap64 ((rd_T38 l (i : Int)).f1 - (rd_T38 l (j : Int)).f1) > c
            · rw [if_pos h2, if_pos h2]
              exact ih1 _ _ _ i (j + 1) hi
            · rw [if_neg h2, if_neg h2]
              exact ih1 _ _ _ i (j + 1) hi
          · rw [if_neg h1, if_neg h1]
            exact ih1 _ _ _ i (j + 1) hi
      · rw [if_neg h, if_neg h, suc64 (n := 0) (by omega)]
        exact ih0 a b c (i + 1)
theorem refClash_eq (l : List S38) (hl : l.length ≤ 1000000) (k : Nat) : kimberliteref02_Clash.f k l = grade_Clash.f k l := by
  unfold kimberliteref02_Clash.f grade_Clash.f
  rw [refQuotes_eq l hl k]
  have h := (refClash_l l hl k).1 (-1) (-1) 0 0
  congr 1
  funext t
  by_cases ht : t = 0
  · rw [if_pos ht, if_pos ht]; exact h
  · rw [if_neg ht, if_neg ht]
theorem refLevel_l (l : List S38) (hl : l.length ≤ 1000000) (s : Int) : ∀ k, (∀ x (i : Nat), kimberliteref02_Level.l0 k l s x (i : Int) = grade_Level.l0 k l s x l (l.length : Int) (i : Int)) ∧
    (∀ x (i j : Nat), i < l.length → kimberliteref02_Level.l1 k l s x (i : Int) (j : Int) = grade_Level.l1 k l s x (i : Int) l (l.length : Int) (i : Int) l (l.length : Int) (j : Int) (qA l i).f0.f0 (qA l i).f0.f1 (qA l i).f0.f2 (qA l i).f1 (qA l i).f2)
  | 0 => ⟨fun x i => by rw [kimberliteref02_Level.l0, grade_Level.l0], fun x i j hi => by rw [kimberliteref02_Level.l1, grade_Level.l1]⟩
  | k + 1 => by
    obtain ⟨ih0, ih1⟩ := refLevel_l l hl s k
    refine ⟨fun x i => ?_, fun x i j hi => ?_⟩
    · rw [kimberliteref02_Level.l0, grade_Level.l0]
      by_cases h : (i : Int) < (l.length : Int)
      · rw [if_pos h, if_pos h, if_pos (show (0 : Int) ≤ (i : Int) by omega), if_pos h]
        exact ih1 x i 0 (by omega)
      · rw [if_neg h, if_neg h]
    · rw [kimberliteref02_Level.l1, grade_Level.l1]
      by_cases h : (j : Int) < (l.length : Int)
      · rw [if_pos h, if_pos h, if_pos (show (0 : Int) ≤ (j : Int) by omega), if_pos (show (0 : Int) ≤ (j : Int) by omega), if_pos h, if_pos (show (0 : Int) ≤ (i : Int) by omega), if_pos (show (i : Int) < (l.length : Int) by omega)]
        have hw : wrap64 ((j : Int) + 1) = ((j + 1 : Nat) : Int) := suc64 (n := 0) (by omega)
        rw [show kimberliteref02_Below.f (rd_T38 l (j : Int)).f0.f0 (rd_T38 l (j : Int)).f0.f1 (rd_T38 l (j : Int)).f0.f2 (rd_T38 l (i : Int)).f0.f0 (rd_T38 l (i : Int)).f0.f1 (rd_T38 l (i : Int)).f0.f2 = some (blQ l j i) from blQ_f l j i,
          show grade_Below.f (rd_T38 l (j : Int)).f0.f0 (rd_T38 l (j : Int)).f0.f1 (rd_T38 l (j : Int)).f0.f2 (qA l i).f0.f0 (qA l i).f0.f1 (qA l i).f0.f2 = some (blQ l j i) from blQ_f l j i, Option.bind_some, Option.bind_some, hw]
        by_cases h1 : blQ l j i = true
        · rw [if_pos h1, if_pos h1, if_pos (show (0 : Int) ≤ (i : Int) by omega)]
          by_cases h2 : (i : Int) < (x.length : Int)
          · rw [if_pos h2, if_pos h2]
            exact ih1 _ i (j + 1) hi
          · rw [if_neg h2, if_neg h2]
        · rw [if_neg h1, if_neg h1]
          exact ih1 _ i (j + 1) hi
      · rw [if_neg h, if_neg h, suc64 (n := 0) (by omega)]
        exact ih0 x (i + 1)
theorem refLevel_j0 (l : List S38) (hl : l.length ≤ 1000000) (s : Int) : ∀ k, kimberliteref02_Level.j0 k l s = grade_Level.j0 k l s
  | 0 => by rw [kimberliteref02_Level.j0, grade_Level.j0]
  | k + 1 => by
    rw [kimberliteref02_Level.j0, grade_Level.j0]
    rw [show kimberliteref02_Level.l0 k l s (List.replicate (l.length : Int).toNat 0) 0 = grade_Level.l0 k l s (List.replicate (l.length : Int).toNat 0) l (l.length : Int) 0 from (refLevel_l l hl s k).1 _ 0]
theorem refLevel_eq (l : List S38) (hl : l.length ≤ 1000000) (k : Nat) : kimberliteref02_Level.f k l = grade_Level.f k l := by
  unfold kimberliteref02_Level.f grade_Level.f
  rw [refClash_eq l hl k]
  simp only [refLevel_j0 l hl]
/-- A level: the greatest of 0 and of the prices beneath less the strain, of the first m quotes. -/
def lvA (l : List S38) (s : Int) (a : Nat) : Nat → Int
  | 0 => 0
  | m + 1 => if blQ l m a = true then max (lvA l s a m) ((qA l m).f1 - s) else lvA l s a m
structure LIn (l : List S38) (s : Int) (x : List Int) (i j : Nat) : Prop where
  len : x.length = l.length
  done : ∀ a, a < i → a < l.length → x.getD a 0 = lvA l s a l.length
  here : i < l.length → x.getD i 0 = lvA l s i j
  rest : ∀ a, i < a → a < l.length → x.getD a 0 = 0
theorem mx_max (a b : Int) : mx a b = max a b := by unfold mx; omega
theorem level_l1 (l : List S38) (hok : ∀ i, i < l.length → okQ (qA l i)) (hn : l.length ≤ 24) (s : Int) (hs0 : 0 ≤ s) (hs : s ≤ 1073741824) (i : Nat) (hi : i < l.length) (R : List Int → Prop)
    (next : ∀ x, LIn l s x (i + 1) 0 → ∃ f, Ev (fun k => grade_Level.l0 k l s x l (l.length : Int) ((i + 1 : Nat) : Int)) (f, s, 0) ∧ R f) :
    ∀ m (j : Nat) x, j + m = l.length → LIn l s x i j → ∃ f, Ev (fun k => grade_Level.l1 k l s x (i : Int) l (l.length : Int) (i : Int) l (l.length : Int) (j : Int) (qA l i).f0.f0 (qA l i).f0.f1 (qA l i).f0.f2 (qA l i).f1 (qA l i).f2) (f, s, 0) ∧ R f
  | 0, j, x, hj, h => by
    obtain rfl : j = l.length := by omega
    obtain ⟨f, h1, h2⟩ := next x ⟨h.len, fun a ha hal => by
      by_cases e : a = i
      · rw [e]; exact h.here hi
      · exact h.done a (by omega) hal, fun h3 => h.rest (i + 1) (by omega) h3, fun a ha hal => h.rest a (by omega) hal⟩
    refine ⟨f, Ev.step h1 (fun k => ?_), h2⟩
    show grade_Level.l1 (k + 1) l s x (i : Int) l (l.length : Int) (i : Int) l (l.length : Int) (l.length : Int) _ _ _ _ _ = _
    rw [grade_Level.l1, if_neg (by omega), suc64 (n := 0) (by omega)]
  | m + 1, j, x, hj, h => by
    have hw : wrap64 ((j : Int) + 1) = ((j + 1 : Nat) : Int) := suc64 (n := 0) (by omega)
    have hbl : grade_Below.f (rd_T38 l (j : Int)).f0.f0 (rd_T38 l (j : Int)).f0.f1 (rd_T38 l (j : Int)).f0.f2 (qA l i).f0.f0 (qA l i).f0.f1 (qA l i).f0.f2 = some (blQ l j i) := blQ_f l j i
    by_cases hb : blQ l j i = true
    · have hp1 : 0 ≤ (rd_T38 l (j : Int)).f1 := (hok j (by omega)).2.1
      have hp2 : (rd_T38 l (j : Int)).f1 ≤ 1073741824 := (hok j (by omega)).2.2.1
      have hset : mx (rd x (i : Int)) (wrap64 ((rd_T38 l (j : Int)).f1 - s)) = lvA l s i (j + 1) := by
        rw [w64 (by omega) (by omega), mx_max, lvA, if_pos hb, ← h.here hi]
        unfold rd
        rw [Int.toNat_natCast]
      obtain ⟨f, h1, h2⟩ := level_l1 l hok hn s hs0 hs i hi R next m (j + 1) (x.set i (lvA l s i (j + 1))) (by omega) ⟨by rw [List.length_set]; exact h.len, fun a ha hal => by
          rw [List.getD_eq_getElem?_getD, List.getElem?_set_ne (by omega), ← List.getD_eq_getElem?_getD]; exact h.done a ha hal, fun _ => by
          rw [List.getD_eq_getElem?_getD, List.getElem?_set_self (by rw [h.len]; exact hi)]; rfl, fun a ha hal => by
          rw [List.getD_eq_getElem?_getD, List.getElem?_set_ne (by omega), ← List.getD_eq_getElem?_getD]; exact h.rest a ha hal⟩
      refine ⟨f, Ev.step h1 (fun k => ?_), h2⟩
      show grade_Level.l1 (k + 1) l s x (i : Int) l (l.length : Int) (i : Int) l (l.length : Int) (j : Int) _ _ _ _ _ = _
      rw [grade_Level.l1, if_pos (by omega), if_pos (by omega), if_pos (by omega), hbl, Option.bind_some, if_pos hb, if_pos (by omega), if_pos (by rw [h.len]; omega), hset, hw, Int.toNat_natCast]
    · obtain ⟨f, h1, h2⟩ := level_l1 l hok hn s hs0 hs i hi R next m (j + 1) x (by omega) ⟨h.len, h.done, fun h3 => by rw [lvA, if_neg hb]; exact h.here h3, h.rest⟩
      refine ⟨f, Ev.step h1 (fun k => ?_), h2⟩
      show grade_Level.l1 (k + 1) l s x (i : Int) l (l.length : Int) (i : Int) l (l.length : Int) (j : Int) _ _ _ _ _ = _
      rw [grade_Level.l1, if_pos (by omega), if_pos (by omega), if_pos (by omega), hbl, Option.bind_some, if_neg hb, hw]
theorem level_l0 (l : List S38) (hok : ∀ i, i < l.length → okQ (qA l i)) (hn : l.length ≤ 24) (s : Int) (hs0 : 0 ≤ s) (hs : s ≤ 1073741824) : ∀ m (i : Nat) x, i + m = l.length → LIn l s x i 0 → ∃ f, Ev (fun k => grade_Level.l0 k l s x l (l.length : Int) (i : Int)) (f, s, 0) ∧ LIn l s f l.length 0
  | 0, i, x, hi, h => by
    obtain rfl : i = l.length := by omega
    refine ⟨x, Ev.step (Ev.pure _) (fun k => ?_), h⟩
    show grade_Level.l0 (k + 1) l s x l (l.length : Int) (l.length : Int) = _
    rw [grade_Level.l0, if_neg (by omega)]
  | m + 1, i, x, hi, h => by
    obtain ⟨f, h1, h2⟩ := level_l1 l hok hn s hs0 hs i (by omega) (fun f => LIn l s f l.length 0) (fun x hx => level_l0 l hok hn s hs0 hs m (i + 1) x (by omega) hx) l.length 0 x (by omega) h
    refine ⟨f, Ev.step h1 (fun k => ?_), h2⟩
    show grade_Level.l0 (k + 1) l s x l (l.length : Int) (i : Int) = _
    rw [grade_Level.l0, if_pos (by omega), if_pos (by omega), if_pos (by omega)]
    rfl
theorem level_j0 (l : List S38) (hok : ∀ i, i < l.length → okQ (qA l i)) (hn : l.length ≤ 24) (s : Int) (hs0 : 0 ≤ s) (hs : s ≤ 1073741824) : ∃ f, Ev (fun k => grade_Level.j0 k l s) (f, s, 0) ∧ LIn l s f l.length 0 := by
  have hrep : ∀ a, (List.replicate l.length (0 : Int)).getD a 0 = 0 := fun a => by
    rw [List.getD_eq_getElem?_getD, List.getElem?_replicate]
    split <;> rfl
  obtain ⟨f, h1, h2⟩ := level_l0 l hok hn s hs0 hs l.length 0 (List.replicate l.length 0) (by omega) ⟨by simp, fun a ha => by omega, fun _ => hrep 0, fun a _ _ => hrep a⟩
  refine ⟨f, Ev.step h1 (fun k => ?_), h2⟩
  show grade_Level.j0 (k + 1) l s = _
  rw [grade_Level.j0, if_pos (by omega), if_pos (by rw [Int.toNat_natCast]; omega), Int.toNat_natCast]
  rfl
/-- Clash and Level, of valid quotes. -/
theorem level_ev (l : List S38) (h : qErrF l = 0) : ∃ x y z f, Ev (fun k => grade_Clash.f k l) (x, y, 0) ∧ CIn l x y z l.length 0 ∧ Ev (fun k => grade_Level.f k l) (f, Int.tdiv (z + 1) 2, 0) ∧ LIn l (Int.tdiv (z + 1) 2) f l.length 0 ∧ z ≤ 1073741824 := by
  obtain ⟨hn, hok⟩ := qErrF_ok h
  obtain ⟨x, y, z, h1, h2⟩ := clash_ev l h
  have hz : 0 ≤ z ∧ z ≤ 1073741824 := by
    refine ⟨h2.c0, ?_⟩
    rcases h2.at_ with ⟨_, _, h3⟩ | ⟨p, q, _, _, hp, hq, _, _, h3, _⟩
    · omega
    · have a1 := (hok p hp).2
      have a2 := (hok q hq).2
      unfold dfQ at h3
      omega
  have htd : Int.tdiv (z + 1) 2 = (z + 1) / 2 := Int.tdiv_eq_ediv_of_nonneg (by omega)
  obtain ⟨f, h4, h5⟩ := level_j0 l hok hn (Int.tdiv (z + 1) 2) (by rw [htd]; omega) (by rw [htd]; omega)
  refine ⟨x, y, z, f, h1, h2, ?_, h5, hz.2⟩
  unfold grade_Level.f
  refine Ev.bind h1 ?_
  simp only [if_true]
  rcases h2.at_ with ⟨rfl, rfl, rfl⟩ | ⟨p, q, rfl, rfl, hp, hq, hpq, hbl, hz1, hz2⟩
  · simp only [show ¬ ((-1 : Int) ≥ 0) by omega, if_false]
    exact h4
  · have e1 : wrap64 (wrap64 ((rd_T38 l (p : Int)).f1 - (rd_T38 l (q : Int)).f1) + 1) = z + 1 := by
      have e2 : wrap64 ((rd_T38 l (p : Int)).f1 - (rd_T38 l (q : Int)).f1) = dfQ l p q := df64 hok hp hq
      rw [e2, ← hz1, w64 (by omega) (by omega)]
    have e3 : wrap64 (Int.tdiv (z + 1) 2) = Int.tdiv (z + 1) 2 := w64 (by rw [htd]; omega) (by rw [htd]; omega)
    refine Ev.same h4 (fun k => ?_)
    show (if (p : Int) ≥ 0 then _ else _) = _
    rw [if_pos (by omega), if_pos (by omega), if_pos (by omega), if_pos (by omega), if_pos (by omega)]
    rw [e1, e3]
end Go.Proofs.Ytnbdfmdjedakcaa.PP
