/- No conditions. -/
import Derived.Test.YtnbdfmdjedakcaaQ55
import Derived.Test.YtnbdfmdjedakcaaQ18
namespace Go.Proofs.Ytnbdfmdjedakcaa.PP
open Go.RowKit Go.Proofs.YtnbdfmdjedakcaaW.PrintWords Go.Proofs.YtnbdfmdjedakcaaW.PrintLast Go.Proofs.YtnbdfmdjedakcaaW.PrintMore Go.Proofs.Ytnbdfmdjedakcaa
set_option linter.unusedVariables false
set_option linter.unusedSimpArgs false
def Ev {α : Type} (F : Nat → Option α) (r : α) : Prop := ∃ k0, ∀ k, k0 ≤ k → F k = some r
theorem Ev.step {α : Type} {F G : Nat → Option α} {r : α} (h : Ev G r) (e : ∀ k, F (k + 1) = G k) : Ev F r := by
 obtain ⟨k0, h⟩ := h
 refine ⟨k0 + 1, fun k hk => ?_⟩
 obtain ⟨j, rfl⟩ : ∃ j, k = j + 1 := ⟨k - 1, by omega⟩
 rw [e]
 exact h j (by omega)
theorem Ev.same {α : Type} {F G : Nat → Option α} {r : α} (h : Ev G r) (e : ∀ k, F k = G k) : Ev F r := by
 obtain ⟨k0, h⟩ := h
 exact ⟨k0, fun k hk => by rw [e]; exact h k hk⟩
theorem Ev.pure {α : Type} (r : α) : Ev (fun _ => some r) r := ⟨0, fun _ _ => rfl⟩
theorem Ev.bind {α β : Type} {F : Nat → Option α} {G : Nat → α → Option β} {x : α} {r : β} (h : Ev F x) (g : Ev (fun k => G k x) r) : Ev (fun k => (F k).bind (G k)) r := by
 obtain ⟨k0, h⟩ := h
 obtain ⟨k1, g⟩ := g
 refine ⟨max k0 k1, fun k hk => ?_⟩
 show (F k).bind (G k) = _
 rw [h k (by omega)]
 exact g k (by omega)
theorem Ev.to {α : Type} {F : Nat → Option α} {x y : α} (h : Ev F x) (e : x = y) : Ev F y := e ▸ h
theorem Ev.of_mono {α : Type} {F : Nat → Option α} {r : α} (hm : ∀ k, LeO (F k) (F (k + 1))) {k : Nat} (h : F k = some r) : Ev F r := by
 refine ⟨k, fun j hj => ?_⟩
 induction j with
 | zero =>
  obtain rfl : k = 0 := by omega
  exact h
 | succ j ih =>
  by_cases e : k = j + 1
  ·rw [← e]; exact h
  ·exact hm j r (ih (by omega))
theorem w64 {x : Int} (h0 : -9223372036854775808 ≤ x) (h1 : x ≤ 9223372036854775807) : wrap64 x = x := by
 unfold wrap64
 omega
theorem range_map_succ {α : Type} (m : Nat) (f : Nat → α) : (List.range (m + 1)).map f = f 0 :: (List.range m).map (fun i => f (i + 1)) := by
 rw [List.range_succ_eq_map, List.map_cons, List.map_map]
 rfl
theorem all2 (a b : Int) (r : List S36) : ∀ m (c : Nat) (xs : List S36), c + m = 12 → xs.length + m < 5864062014805 → Ev (fun k => grade_all.l1 k (xs ++ (List.range m).map fun i => (⟨a, b, ((c + i : Nat) : Int)⟩ : S36)) a a (wrap64 (b + 1))) r → Ev (fun k => grade_all.l2 k xs a b a b (c : Int)) r
 | 0, c, xs, hc, hx, h => by
  refine Ev.step h (fun k => ?_)
  show grade_all.l2 (k + 1) xs a b a b (c : Int) = _
  rw [grade_all.l2, if_neg (by omega)]
  simp
 | m + 1, c, xs, hc, hx, h => by
  refine Ev.step (all2 a b r m (c + 1) (xs ++ [⟨a, b, (c : Int)⟩]) (by omega) (by simp; omega) ?_) (fun k => ?_)
  ·rw [range_map_succ, show (fun i : Nat => (⟨a, b, ((c + (i + 1) : Nat) : Int)⟩ : S36)) = fun i : Nat => (⟨a, b, ((c + 1 + i : Nat) : Int)⟩ : S36) from funext fun i => by rw [show c + (i + 1) = c + 1 + i by omega]] at h
   rw [List.append_assoc]
   exact h
  ·show grade_all.l2 (k + 1) xs a b a b (c : Int) = _
   rw [grade_all.l2, if_pos (by omega), if_pos (by omega), w64 (by omega) (by omega)]
   rfl
theorem all1 (a : Int) (r : List S36) : ∀ m (b : Nat) (xs : List S36), b + m = 12 → xs.length + m * 12 < 5864062014805 → Ev (fun k => grade_all.l0 k (xs ++ (List.range m).flatMap fun (j : Nat) => (List.range 12).map fun (i : Nat) => (⟨a, ((b + j : Nat) : Int), (i : Int)⟩ : S36)) (wrap64 (a + 1))) r → Ev (fun k => grade_all.l1 k xs a a (b : Int)) r
 | 0, b, xs, hb, hx, h => by
  refine Ev.step h (fun k => ?_)
  show grade_all.l1 (k + 1) xs a a (b : Int) = _
  rw [grade_all.l1, if_neg (by omega)]
  simp
 | m + 1, b, xs, hb, hx, h => by
  refine Ev.step (all2 a (b : Int) r 12 0 xs (by omega) (by omega) ?_) (fun k => ?_)
  ·have hb1 : wrap64 ((b : Int) + 1) = ((b + 1 : Nat) : Int) := by rw [w64 (by omega) (by omega)]; rfl
   rw [hb1]
   refine all1 a r m (b + 1) _ (by omega) (by simp; omega) ?_
   rw [show List.range (m + 1) = 0 :: (List.range m).map Nat.succ from List.range_succ_eq_map, List.flatMap_cons, List.flatMap_map, show (fun j : Nat => (List.range 12).map fun (i : Nat) => (⟨a, ((b + Nat.succ j : Nat) : Int), (i : Int)⟩ : S36)) = fun j : Nat => (List.range 12).map fun (i : Nat) => (⟨a, ((b + 1 + j : Nat) : Int), (i : Int)⟩ : S36) from funext fun j => by rw [show b + Nat.succ j = b + 1 + j by omega]] at h
   rw [List.append_assoc]
   have z : (fun i : Nat => (⟨a, (b : Int), ((0 + i : Nat) : Int)⟩ : S36)) = fun i : Nat => (⟨a, ((b + 0 : Nat) : Int), (i : Int)⟩ : S36) := funext fun i => by rw [Nat.zero_add, Nat.add_zero]
   rw [z]
   exact h
  ·show grade_all.l1 (k + 1) xs a a (b : Int) = _
   rw [grade_all.l1, if_pos (by omega)]
   rfl
theorem all0 (r : List S36) : ∀ m (a : Nat) (xs : List S36), a + m = 12 → xs.length + m * 144 < 5864062014805 → r = (xs ++ (List.range m).flatMap fun (q : Nat) => (List.range 12).flatMap fun (j : Nat) => (List.range 12).map fun (i : Nat) => (⟨((a + q : Nat) : Int), (j : Int), (i : Int)⟩ : S36)) → Ev (fun k => grade_all.l0 k xs (a : Int)) r
 | 0, a, xs, ha, hx, h => by
  refine Ev.step (Ev.pure r) (fun k => ?_)
  show grade_all.l0 (k + 1) xs (a : Int) = _
  rw [grade_all.l0, if_neg (by omega), h]
  simp
 | m + 1, a, xs, ha, hx, h => by
  refine Ev.step (all1 (a : Int) r 12 0 xs (by omega) (by omega) ?_) (fun k => ?_)
  ·have hb1 : wrap64 ((a : Int) + 1) = ((a + 1 : Nat) : Int) := by rw [w64 (by omega) (by omega)]; rfl
   rw [hb1]
   refine all0 r m (a + 1) _ (by omega) ?_ ?_
   ·have : ((List.range 12).flatMap fun (j : Nat) => (List.range 12).map fun (i : Nat) => (⟨(a : Int), ((0 + j : Nat) : Int), (i : Int)⟩ : S36)).length = 144 := by
     rw [List.length_flatMap]
     simp
     decide
    rw [List.length_append, this]
    omega
   ·rw [h, show List.range (m + 1) = 0 :: (List.range m).map Nat.succ from List.range_succ_eq_map, List.flatMap_cons, List.flatMap_map, show (fun q : Nat => (List.range 12).flatMap fun (j : Nat) => (List.range 12).map fun (i : Nat) => (⟨((a + Nat.succ q : Nat) : Int), (j : Int), (i : Int)⟩ : S36)) = fun q : Nat => (List.range 12).flatMap fun (j : Nat) => (List.range 12).map fun (i : Nat) => (⟨((a + 1 + q : Nat) : Int), (j : Int), (i : Int)⟩ : S36) from funext fun q => by rw [show a + Nat.succ q = a + 1 + q by omega]]
    rw [List.append_assoc]
    have z : (fun (j : Nat) => (List.range 12).map fun (i : Nat) => (⟨(a : Int), ((0 + j : Nat) : Int), (i : Int)⟩ : S36)) = fun (j : Nat) => (List.range 12).map fun (i : Nat) => (⟨((a + 0 : Nat) : Int), (j : Int), (i : Int)⟩ : S36) := funext fun j => by rw [Nat.zero_add, Nat.add_zero]
    rw [z]
  ·show grade_all.l0 (k + 1) xs (a : Int) = _
   rw [grade_all.l0, if_pos (by omega)]
   rfl
def allL : List S36 := (List.range 12).flatMap fun (q : Nat) => (List.range 12).flatMap fun (j : Nat) => (List.range 12).map fun (i : Nat) => (⟨(q : Int), (j : Int), (i : Int)⟩ : S36)
theorem all_ev : Ev grade_all.f allL := by
 refine Ev.same (all0 allL 12 0 [] (by omega) (by simp) ?_) (fun k => rfl)
 rw [List.nil_append, show (fun q : Nat => (List.range 12).flatMap fun (j : Nat) => (List.range 12).map fun (i : Nat) => (⟨((0 + q : Nat) : Int), (j : Int), (i : Int)⟩ : S36)) = fun q : Nat => (List.range 12).flatMap fun (j : Nat) => (List.range 12).map fun (i : Nat) => (⟨(q : Int), (j : Int), (i : Int)⟩ : S36) from funext fun q => by rw [Nat.zero_add]]
 rfl
theorem rdT36_get (xs : List S36) (j : Nat) (hj : j < xs.length) : rd_T36 xs (j : Int) = xs[j] := by
 unfold rd_T36
 simp [List.getD_eq_getElem?_getD, hj]
theorem count_l0 (cl : List S36) (xs : List S36) : ∀ m (j : Nat) (n : Nat), j + m = xs.length → xs.length < 1000000 → n ≤ j → Ev (fun k => grade_Count.l0 k cl (n : Int) xs (xs.length : Int) (j : Int)) ((((n + ((xs.drop j).filter fun g => cl.any fun o => belowG o g).length : Nat)) : Int), 0)
 | 0, j, n, hj, hx, hn => by
  refine Ev.step (Ev.pure _) (fun k => ?_)
  show grade_Count.l0 (k + 1) cl (n : Int) xs (xs.length : Int) (j : Int) = _
  rw [grade_Count.l0, if_neg (by omega), List.drop_eq_nil_of_le (by omega)]
  simp
 | m + 1, j, n, hj, hx, hn => by
  have hjl : j < xs.length := by omega
  have hw : wrap64 ((j : Int) + 1) = ((j + 1 : Nat) : Int) := by rw [w64 (by omega) (by omega)]; rfl
  have hw2 : wrap64 ((n : Int) + 1) = ((n + 1 : Nat) : Int) := by rw [w64 (by omega) (by omega)]; rfl
  have hd : xs.drop j = xs[j] :: xs.drop (j + 1) := List.drop_eq_getElem_cons hjl
  have hin : grade_in.f cl (rd_T36 xs (j : Int)).f0 (rd_T36 xs (j : Int)).f1 (rd_T36 xs (j : Int)).f2 = some (cl.any fun o => belowG o xs[j]) := by
   rw [rdT36_get xs j hjl]; rfl
  cases hc : cl.any fun o => belowG o xs[j] with
  | true =>
   refine Ev.step ((count_l0 cl xs m (j + 1) (n + 1) (by omega) hx (by omega)).to ?_) (fun k => ?_)
   ·rw [hd, List.filter_cons, if_pos hc]
    simp
    omega
   ·show grade_Count.l0 (k + 1) cl (n : Int) xs (xs.length : Int) (j : Int) = _
    rw [grade_Count.l0, if_pos (by omega), if_pos (by omega), if_pos (by omega), hin, Option.bind_some, if_pos hc, hw, hw2]
  | false =>
   refine Ev.step ((count_l0 cl xs m (j + 1) n (by omega) hx (by omega)).to ?_) (fun k => ?_)
   ·rw [hd, List.filter_cons, if_neg (by rw [hc]; decide)]
   ·show grade_Count.l0 (k + 1) cl (n : Int) xs (xs.length : Int) (j : Int) = _
    rw [grade_Count.l0, if_pos (by omega), if_pos (by omega), if_pos (by omega), hin, Option.bind_some, if_neg (by rw [hc]; decide), hw]
theorem allL_len : allL.length = 1728 := by
 kernel_rfl
theorem count_ev {cl : List S36} (ha : Ev (fun k => grade_antichain.f k cl) true) : Ev (fun k => grade_Count.f k cl) ((((allL.filter fun g => cl.any fun o => belowG o g).length : Nat) : Int), 0) := by
 unfold grade_Count.f
 refine Ev.bind ha ?_
 simp only [if_true]
 refine Ev.bind all_ev ?_
 have h := count_l0 cl allL allL.length 0 0 (by omega) (by rw [allL_len]; omega) (Nat.le_refl _)
 simpa using h
end Go.Proofs.Ytnbdfmdjedakcaa.PP
namespace Go.Proofs.Ytnbdfmdjedakcaa.PP
open Go.RowKit Go.Proofs.YtnbdfmdjedakcaaW.PrintWords Go.Proofs.YtnbdfmdjedakcaaW.PrintLast Go.Proofs.YtnbdfmdjedakcaaW.PrintMore Go.Proofs.Ytnbdfmdjedakcaa
set_option linter.unusedVariables false
set_option linter.unusedSimpArgs false
def g11 : S36 := ⟨11, 11, 10⟩
theorem ex11 : exF belowG [g11] = [g11] := by
 have h : (exGo belowG [g11] [g11].length).2 = [g11] := by kernel_rfl
 exact (congrArg sortG h).trans (List.mergeSort_singleton _)
theorem anti11 : Ev (fun k => grade_antichain.f k [g11]) true := by
 unfold grade_antichain.f
 have h1 : grade_listed.f [g11] 256 = some 0 := by kernel_rfl
 have h2 : grade_least.f [g11] = some [g11] := by
  unfold grade_least.f
  rw [if_pos (by decide), ex11]
 simp only [h1, h2, Option.bind_some, if_true]
 have h3 : Ev (fun k => api_Grade_111.f k [g11] [g11]) true := Ev.of_mono (api_Grade_111.mono _ _) (k := 5) (by kernel_rfl)
 exact Ev.bind h3 (Ev.pure _)
theorem count11 : Ev (fun k => grade_Count.f k [g11]) (2, 0) := by
 refine Ev.to (count_ev anti11) ?_
 have h : (allL.filter fun g => [g11].any fun o => belowG o g).length = 2 := by kernel_rfl
 rw [h]
 rfl
theorem alive_ev : Ev (fun k => kimberlitelaw02_alive.f k) true := by
 obtain ⟨k1, h1⟩ := count11
 have e2 : Ev (fun k => grade_Level.f k [q0A, q1A]) ([7, 7], 3, 0) := Ev.of_mono (grade_Level.mono _) (k := 40) (by kernel_rfl)
 have e3 : Ev (fun k => kimberlitelaw02_same.f k [7, 7] [7, 7]) true := Ev.of_mono (kimberlitelaw02_same.mono _ _) (k := 10) (by kernel_rfl)
 have e4 : Ev (fun k => kimberlitelaw02_same.f k [0, 1] [0, 1]) true := Ev.of_mono (kimberlitelaw02_same.mono _ _) (k := 10) (by kernel_rfl)
 obtain ⟨k2, h2⟩ := e2
 obtain ⟨k3, h3⟩ := e3
 obtain ⟨k4, h4⟩ := e4
 refine ⟨k1 + k2 + k3 + k4, fun k hk => ?_⟩
 show kimberlitelaw02_alive.f k = some true
 unfold kimberlitelaw02_alive.f
 rw [if_pos ⟨h1 k (by omega), h2 k (by omega), h3 k (by omega), h4 k (by omega)⟩]
end Go.Proofs.Ytnbdfmdjedakcaa.PP
