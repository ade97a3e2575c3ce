/- No conditions. -/
import Derived.Test.YtnbdfmdjedakcaaQ8
import Derived.Test.YtnbdfmdjedakcaaOpen
import Derived.WalkKit
import Derived.ProofKit
import Derived.OpenShut
import Derived.ShutString
import Derived.ChangeOld
import Derived.Below
import Derived.SizedLaws
namespace Go.Proofs.Ytnbdfmdjedakcaa.PP
open Go.RowKit Go.Proofs.YtnbdfmdjedakcaaW.PrintWords Go.Proofs.YtnbdfmdjedakcaaW.PrintLast Go.Proofs.YtnbdfmdjedakcaaW.PrintMore Go.Proofs.Ytnbdfmdjedakcaa
set_option linter.unusedVariables false
set_option linter.unusedSimpArgs false
theorem sucD {j : Nat} (h : j ≤ 1000000000) : wrap64 ((j : Int) + 1) = ((j + 1 : Nat) : Int) := by rw [w64 (by omega) (by omega)]; rfl
theorem neD (x y : S36) : (!(x.f0 == y.f0) || (!(x.f1 == y.f1) || (!(x.f2 == y.f2)))) = !eqG x y := by
 unfold eqG
 cases x.f0 == y.f0 <;> cases x.f1 == y.f1 <;> cases x.f2 == y.f2 <;> rfl
theorem refBefore_f {l : List S36} {i j : Nat} (hi : i < l.length) (hj : j < l.length) : kimberliteref02_Before.f l (i : Int) (j : Int) = some (befG l i j) := by
 unfold kimberliteref02_Before.f befG
 rw [if_pos (by omega), if_pos (by omega), if_pos (by omega), if_pos (by omega), rdT36_get l i hi, rdT36_get l j hj]
 rw [show kimberliteref02_Below.f l[i].f0 l[i].f1 l[i].f2 l[j].f0 l[j].f1 l[j].f2 = some (belowG l[i] l[j]) from below_f _ _]
 simp only [Option.bind_some, neD, getElem!_pos l i hi, getElem!_pos l j hj]
 cases he : eqG l[i] l[j] with
 | true =>
  have hb : belowG l[i] l[j] = true := by rw [← eqG_iff.1 he]; exact below_refl _
  rw [hb]
  simp
 | false =>
  cases hb : belowG l[i] l[j] <;> simp
def ofN (xs : List Nat) : List Int := xs.map fun x : Nat => (x : Int)
theorem ofN_len (xs : List Nat) : (ofN xs).length = xs.length := by unfold ofN; rw [List.length_map]
theorem ofN_rd (xs : List Nat) {i : Nat} (h : i < xs.length) : rd (ofN xs) (i : Int) = (xs[i]! : Nat) := by
 unfold rd ofN
 rw [Int.toNat_natCast, List.getD_eq_getElem?_getD, List.getElem?_map, List.getElem?_eq_getElem h, getElem!_pos xs i h]
 rfl
def okP (l : List S36) (xs : List Nat) (i j : Nat) : Bool := !befG l xs[i]! xs[j]! && !befG l xs[j]! xs[i]!
section
variable {l : List S36} {xs : List Nat}
theorem preN {j : Nat} (h : j ≤ 1000000000) (h0 : 0 < j) : wrap64 ((j : Int) - 1) = ((j - 1 : Nat) : Int) := by rw [w64 (by omega) (by omega)]; omega
theorem apart_l1 (hx : ∀ i, i < xs.length → xs[i]! < l.length) (hl : xs.length ≤ 1000000) (i : Nat) (hi : i < xs.length) (r : Bool) (h : Ev (fun k => kimberlitelaw02_apart.l0 k l (ofN xs) ((i + 1 : Nat) : Int)) r) : ∀ m (j : Nat), j + m = i → Ev (fun k => kimberlitelaw02_apart.l1 k l (ofN xs) (i : Int) (j : Int)) ((List.range' j m).all (okP l xs i) && r)
 | 0, j, hj => by
  refine Ev.step (h.to (by simp)) (fun k => ?_)
  show kimberlitelaw02_apart.l1 (k + 1) l (ofN xs) (i : Int) (j : Int) = _
  rw [kimberlitelaw02_apart.l1, if_neg (by omega), sucD (by omega)]
 | m + 1, j, hj => by
  have ih := apart_l1 hx hl i hi r h m (j + 1) (by omega)
  have e : ∀ k, kimberlitelaw02_apart.l1 (k + 1) l (ofN xs) (i : Int) (j : Int) = if befG l xs[i]! xs[j]! = true then some false else if befG l xs[j]! xs[i]! = true then some false else kimberlitelaw02_apart.l1 k l (ofN xs) (i : Int) ((j + 1 : Nat) : Int) := fun k => by
   rw [kimberlitelaw02_apart.l1, if_pos (by omega), ofN_len, if_pos (by omega), if_pos (by omega), if_pos (by omega), if_pos (by omega), ofN_rd xs hi, ofN_rd xs (show j < xs.length by omega), refBefore_f (hx i hi) (hx j (by omega)), refBefore_f (hx j (by omega)) (hx i hi), sucD (by omega)]
   rfl
  rw [List.range'_succ, List.all_cons]
  unfold okP
  cases h1 : befG l xs[i]! xs[j]! with
  | true => exact Ev.step (Ev.pure _) (fun k => by rw [e, h1]; rfl)
  | false =>
   cases h2 : befG l xs[j]! xs[i]! with
   | true => exact Ev.step (Ev.pure _) (fun k => by rw [e, h1, h2]; rfl)
   | false => exact Ev.step ih (fun k => by rw [e, h1, h2]; rfl)
theorem apart_l0 (hx : ∀ i, i < xs.length → xs[i]! < l.length) (hs : ∀ i, 0 < i → i < xs.length → xs[i - 1]! < xs[i]!) (hl : xs.length ≤ 1000000) : ∀ m (i : Nat), i + m = xs.length → Ev (fun k => kimberlitelaw02_apart.l0 k l (ofN xs) (i : Int)) ((List.range' i m).all fun a => (List.range' 0 a).all (okP l xs a))
 | 0, i, hi => by
  refine Ev.step (Ev.pure _) (fun k => ?_)
  show kimberlitelaw02_apart.l0 (k + 1) l (ofN xs) (i : Int) = _
  rw [kimberlitelaw02_apart.l0, ofN_len, if_neg (by omega)]
  rfl
 | m + 1, i, hi => by
  have hil : i < xs.length := by omega
  have ih := apart_l0 hx hs hl m (i + 1) (by omega)
  have h1 := apart_l1 hx hl i hil _ ih i 0 (by omega)
  rw [List.range'_succ, List.all_cons]
  have hxi := hx i hil
  refine Ev.step (G := fun k => kimberlitelaw02_apart.j1 k l (ofN xs) (i : Int) false) ?_ (fun k => ?_)
  ·refine Ev.step h1 (fun k => ?_)
   show kimberlitelaw02_apart.j1 (k + 1) l (ofN xs) (i : Int) false = _
   rw [kimberlitelaw02_apart.j1, if_neg (by decide)]
   rfl
  ·show kimberlitelaw02_apart.l0 (k + 1) l (ofN xs) (i : Int) = _
   rw [kimberlitelaw02_apart.l0, ofN_len, if_pos (by omega), if_pos (by omega), ofN_rd xs hil, if_neg (by omega), if_neg (by omega)]
   by_cases h0 : 0 < i
   ·have h2 := hs i h0 hil
    rw [if_pos (by omega), preN (by omega) h0, if_pos (by omega), if_pos (by omega), ofN_rd xs (show i - 1 < xs.length by omega), decide_eq_false (show ¬ ((xs[i - 1]! : Nat) : Int) ≥ ((xs[i]! : Nat) : Int) by omega)]
   ·rw [if_neg (by omega)]
def AscN (n : Nat) (xs : List Nat) : Prop := xs.Pairwise (· < ·) ∧ ∀ x ∈ xs, x < n
theorem AscN.at (h : AscN l.length xs) : (∀ i, i < xs.length → xs[i]! < l.length) ∧ ∀ i j, i < j → j < xs.length → xs[i]! < xs[j]! := by
 refine ⟨fun i hi => ?_, fun i j hij hj => ?_⟩
 ·rw [getElem!_pos xs i hi]; exact h.2 _ (List.getElem_mem hi)
 ·rw [getElem!_pos xs i (by omega), getElem!_pos xs j hj]
  exact List.pairwise_iff_getElem.1 h.1 i j (by omega) hj hij
theorem AscN.filter (n : Nat) (p : Nat → Bool) : AscN n ((List.range n).filter p) :=
 ⟨List.pairwise_lt_range.filter _, fun x hx => List.mem_range.1 (List.mem_filter.1 hx).1⟩
theorem apart_ev (h : AscN l.length xs) (hl : xs.length ≤ 1000000) : ∃ b, Ev (fun k => kimberlitelaw02_apart.f k l (ofN xs)) b ∧ (b = true ↔ ∀ x y, x ∈ xs → y ∈ xs → befG l x y = false) := by
 obtain ⟨h1, h2⟩ := h.at
 refine ⟨_, apart_l0 h1 (fun i h0 hi => h2 (i - 1) i (by omega) hi) hl xs.length 0 (by omega), ?_⟩
 rw [List.all_eq_true]
 have irr := (bef_strict l).irr
 constructor
 ·intro hq x y hx hy
  obtain ⟨i, hi, rfl⟩ := List.mem_iff_getElem.1 hx
  obtain ⟨j, hj, rfl⟩ := List.mem_iff_getElem.1 hy
  have key : ∀ i j, i < xs.length → j < i → okP l xs i j = true := fun i j hi hj => by
   have h3 := hq i (by simp; omega)
   rw [List.all_eq_true] at h3
   exact h3 j (by simp; omega)
  rcases Nat.lt_trichotomy i j with h3 | rfl | h3
  ·have h4 := key j i hj h3
   unfold okP at h4
   rw [getElem!_pos xs i hi, getElem!_pos xs j hj] at h4
   simp only [Bool.and_eq_true, Bool.not_eq_true'] at h4
   exact h4.2
  ·exact irr _ (h.2 _ (List.getElem_mem hi))
  ·have h4 := key i j hi h3
   unfold okP at h4
   rw [getElem!_pos xs i hi, getElem!_pos xs j hj] at h4
   simp only [Bool.and_eq_true, Bool.not_eq_true'] at h4
   exact h4.1
 ·intro hq i hi
  rw [List.all_eq_true]
  intro j hj
  simp only [List.mem_range'_1] at hi hj
  unfold okP
  rw [getElem!_pos xs i (by omega), getElem!_pos xs j (by omega), hq _ _ (List.getElem_mem _) (List.getElem_mem _), hq _ _ (List.getElem_mem _) (List.getElem_mem _)]
  rfl
end
section
variable {l : List S36} {at_ : List Int} {c : Nat}
theorem rd_at (i : Nat) : rd at_ (i : Int) = at_.getD i 0 := by unfold rd; rw [Int.toNat_natCast]
theorem chained_l3 (hP : ChainedP l.length (befG l) at_ c) (hl : l.length ≤ 1000000) (i : Nat) (hi : i < l.length) (h : Ev (fun k => kimberliteref02_Chained.l2 k l at_ (c : Int) ((i + 1 : Nat) : Int)) true) : ∀ m (j : Nat), j + m = i → Ev (fun k => kimberliteref02_Chained.l3 k l at_ (c : Int) (i : Int) (j : Int)) true
 | 0, j, hj => by
  refine Ev.step h (fun k => ?_)
  show kimberliteref02_Chained.l3 (k + 1) l at_ (c : Int) (i : Int) (j : Int) = _
  rw [kimberliteref02_Chained.l3, if_neg (by omega), sucD (by omega)]
 | m + 1, j, hj => by
  have ih := chained_l3 hP hl i hi h m (j + 1) (by omega)
  refine Ev.step ih (fun k => ?_)
  show kimberliteref02_Chained.l3 (k + 1) l at_ (c : Int) (i : Int) (j : Int) = _
  rw [kimberliteref02_Chained.l3, if_pos (by omega), hP.1, if_pos (by omega), if_pos (by omega), if_pos (by omega), if_pos (by omega), rd_at, rd_at, refBefore_f hi (show j < l.length by omega), refBefore_f (show j < l.length by omega) hi, sucD (by omega)]
  by_cases e : at_.getD i 0 = at_.getD j 0
  ·rw [if_pos e]
   rcases hP.2.2.2 i j hi (by omega) (by omega) e with h1 | h1
   ·rw [h1]; rfl
   ·cases h2 : befG l i j with
    | true => rfl
    | false => rw [h1]; rfl
  ·rw [if_neg e]
theorem chained_l2 (hP : ChainedP l.length (befG l) at_ c) (hl : l.length ≤ 1000000) : ∀ m (i : Nat), i + m = l.length → Ev (fun k => kimberliteref02_Chained.l2 k l at_ (c : Int) (i : Int)) true
 | 0, i, hi => by
  refine Ev.step (Ev.pure _) (fun k => ?_)
  show kimberliteref02_Chained.l2 (k + 1) l at_ (c : Int) (i : Int) = _
  rw [kimberliteref02_Chained.l2, hP.1, if_neg (by omega)]
 | m + 1, i, hi => by
  have h1 := chained_l3 hP hl i (by omega) (chained_l2 hP hl m (i + 1) (by omega)) i 0 (by omega)
  have h2 := hP.2.2.1 i (by omega)
  refine Ev.step (G := fun k => kimberliteref02_Chained.j3 k l at_ (c : Int) (i : Int) false) ?_ (fun k => ?_)
  ·refine Ev.step h1 (fun k => ?_)
   show kimberliteref02_Chained.j3 (k + 1) l at_ (c : Int) (i : Int) false = _
   rw [kimberliteref02_Chained.j3, if_neg (by decide)]
   rfl
  ·show kimberliteref02_Chained.l2 (k + 1) l at_ (c : Int) (i : Int) = _
   rw [kimberliteref02_Chained.l2, hP.1, if_pos (by omega), if_pos (by omega), rd_at, if_neg (by omega), decide_eq_false (by omega)]
theorem chained_l1 (hP : ChainedP l.length (befG l) at_ c) (hl : l.length ≤ 1000000) (x : Nat) (h : Ev (fun k => kimberliteref02_Chained.l0 k l at_ (c : Int) ((x + 1 : Nat) : Int)) true) (hx : x ≤ 1000000) : ∀ m (i : Nat) (b : Bool), i + m = l.length → (b = true ∨ ∃ j, i ≤ j ∧ j < l.length ∧ at_.getD j 0 = (x : Int)) → Ev (fun k => kimberliteref02_Chained.l1 k l at_ (c : Int) (x : Int) b (i : Int)) true
 | 0, i, b, hi, hb => by
  obtain rfl : b = true := by
   rcases hb with hb | ⟨j, h1, h2, _⟩
   ·exact hb
   ·omega
  refine Ev.step h (fun k => ?_)
  show kimberliteref02_Chained.l1 (k + 1) l at_ (c : Int) (x : Int) true (i : Int) = _
  rw [kimberliteref02_Chained.l1, hP.1, if_neg (by omega), if_pos rfl, sucD (by omega)]
 | m + 1, i, b, hi, hb => by
  cases b with
  | true =>
   refine Ev.step (chained_l1 hP hl x h hx m (i + 1) true (by omega) (.inl rfl)) (fun k => ?_)
   show kimberliteref02_Chained.l1 (k + 1) l at_ (c : Int) (x : Int) true (i : Int) = _
   rw [kimberliteref02_Chained.l1, hP.1, if_pos (by omega), if_pos rfl, sucD (by omega)]
  | false =>
   refine Ev.step (chained_l1 hP hl x h hx m (i + 1) (at_.getD i 0 == (x : Int)) (by omega) ?_) (fun k => ?_)
   ·rcases hb with hb | ⟨j, h1, h2, h3⟩
    ·exact absurd hb (by decide)
    ·by_cases e : j = i
     ·subst e; exact .inl (by rw [h3]; simp)
     ·exact .inr ⟨j, by omega, h2, h3⟩
   ·show kimberliteref02_Chained.l1 (k + 1) l at_ (c : Int) (x : Int) false (i : Int) = _
    rw [kimberliteref02_Chained.l1, hP.1, if_pos (by omega), if_neg (by decide), if_pos (by omega), rd_at, sucD (by omega)]
theorem chained_l0 (hP : ChainedP l.length (befG l) at_ c) (hl : l.length ≤ 1000000) (hc : c ≤ 1000000) : ∀ m (x : Nat), x + m = c → Ev (fun k => kimberliteref02_Chained.l0 k l at_ (c : Int) (x : Int)) true
 | 0, x, hx => by
  refine Ev.step (chained_l2 hP hl l.length 0 (by omega)) (fun k => ?_)
  show kimberliteref02_Chained.l0 (k + 1) l at_ (c : Int) (x : Int) = _
  rw [kimberliteref02_Chained.l0, if_neg (by omega)]
  rfl
 | m + 1, x, hx => by
  obtain ⟨j, h1, h2⟩ := hP.2.1 x (by omega)
  refine Ev.step (chained_l1 hP hl x (chained_l0 hP hl hc m (x + 1) (by omega)) (by omega) l.length 0 false (by omega) (.inr ⟨j, Nat.zero_le _, h1, h2⟩)) (fun k => ?_)
  show kimberliteref02_Chained.l0 (k + 1) l at_ (c : Int) (x : Int) = _
  rw [kimberliteref02_Chained.l0, if_pos (by omega)]
  rfl
theorem chained_ev (hP : ChainedP l.length (befG l) at_ c) (hl : l.length ≤ 1000000) (hc : c ≤ 1000000) : Ev (fun k => kimberliteref02_Chained.f k l at_ (c : Int)) true := by
 unfold kimberliteref02_Chained.f
 simp only [hP.1, if_true]
 exact chained_l0 hP hl hc c 0 (by omega)
end
section
variable {l : List S36} {pick : List Bool} {w : Nat} {xs ys : List Nat}
theorem dil_l2 (hx : AscN l.length xs) (hy : AscN l.length ys) (hl : l.length ≤ 1000000) (hxl : xs.length ≤ 1000000) (hyl : ys.length ≤ 1000000) (i : Nat) (hi : i < ys.length) (h : Ev (fun k => kimberlitelaw02_GradeDilworth.l1 k l (w : Int) (ofN xs) (ofN ys) ((i + 1 : Nat) : Int)) true) : ∀ m (j : Nat) (b : Bool), j + m = xs.length → (b = true ∨ ∃ q, j ≤ q ∧ q < xs.length ∧ (ys[i]! = xs[q]! ∨ befG l ys[i]! xs[q]! = true)) → Ev (fun k => kimberlitelaw02_GradeDilworth.l2 k l (w : Int) (ofN xs) (ofN ys) (i : Int) b (j : Int)) true
 | 0, j, b, hj, hb => by
  obtain rfl : b = true := by
   rcases hb with hb | ⟨q, h1, h2, _⟩
   ·exact hb
   ·omega
  refine Ev.step h (fun k => ?_)
  show kimberlitelaw02_GradeDilworth.l2 (k + 1) l (w : Int) (ofN xs) (ofN ys) (i : Int) true (j : Int) = _
  rw [kimberlitelaw02_GradeDilworth.l2, ofN_len, if_neg (by omega), if_pos rfl, sucD (by omega)]
 | m + 1, j, b, hj, hb => by
  have hjl : j < xs.length := by omega
  cases b with
  | true =>
   refine Ev.step (dil_l2 hx hy hl hxl hyl i hi h m (j + 1) true (by omega) (.inl rfl)) (fun k => ?_)
   show kimberlitelaw02_GradeDilworth.l2 (k + 1) l (w : Int) (ofN xs) (ofN ys) (i : Int) true (j : Int) = _
   rw [kimberlitelaw02_GradeDilworth.l2, ofN_len, if_pos (by omega), if_pos rfl, sucD (by omega)]
  | false =>
   have e : ∀ k, kimberlitelaw02_GradeDilworth.l2 (k + 1) l (w : Int) (ofN xs) (ofN ys) (i : Int) false (j : Int) = if ((ys[i]! : Nat) : Int) = ((xs[j]! : Nat) : Int) then kimberlitelaw02_GradeDilworth.l2 k l (w : Int) (ofN xs) (ofN ys) (i : Int) true ((j + 1 : Nat) : Int) else kimberlitelaw02_GradeDilworth.l2 k l (w : Int) (ofN xs) (ofN ys) (i : Int) (befG l ys[i]! xs[j]!) ((j + 1 : Nat) : Int) := fun k => by
    rw [kimberlitelaw02_GradeDilworth.l2, ofN_len, if_pos (by omega), if_neg (by decide), if_pos (by omega), ofN_len, if_pos (by omega), if_pos (by omega), ofN_rd ys hi, ofN_rd xs hjl, refBefore_f (hy.at.1 i hi) (hx.at.1 j hjl), sucD (by omega)]
    rfl
   by_cases h1 : ((ys[i]! : Nat) : Int) = ((xs[j]! : Nat) : Int)
   ·exact Ev.step (dil_l2 hx hy hl hxl hyl i hi h m (j + 1) true (by omega) (.inl rfl)) (fun k => by rw [e, if_pos h1])
   ·refine Ev.step (dil_l2 hx hy hl hxl hyl i hi h m (j + 1) (befG l ys[i]! xs[j]!) (by omega) ?_) (fun k => by rw [e, if_neg h1])
    rcases hb with hb | ⟨q, h2, h3, h4⟩
    ·exact absurd hb (by decide)
    ·by_cases e2 : q = j
     ·subst e2
      rcases h4 with h4 | h4
      ·exact absurd (by rw [h4]) h1
      ·exact .inl h4
     ·exact .inr ⟨q, by omega, h3, h4⟩
theorem dil_end (hw : ys.length ≤ w) (i : Nat) : Ev (fun k => kimberlitelaw02_GradeDilworth.j5 k l (w : Int) (ofN xs) (ofN ys) (i : Int) false) true := by
 refine Ev.step (G := fun k => (kimberlitelaw02_alive.f k).bind fun t => some t) (Ev.bind alive_ev (Ev.pure _)) (fun k => ?_)
 show kimberlitelaw02_GradeDilworth.j5 (k + 1) l (w : Int) (ofN xs) (ofN ys) (i : Int) false = _
 rw [kimberlitelaw02_GradeDilworth.j5, if_neg (by decide), ofN_len, if_pos (by omega)]
theorem dil_l1 (hx : AscN l.length xs) (hy : AscN l.length ys) (hl : l.length ≤ 1000000) (hxl : xs.length ≤ 1000000) (hyl : ys.length ≤ 1000000) (hw : ys.length ≤ w) (hab : ys.length = w → ∀ y ∈ ys, ∃ x, x ∈ xs ∧ (y = x ∨ befG l y x = true)) : ∀ m (i : Nat), i + m = ys.length → Ev (fun k => kimberlitelaw02_GradeDilworth.l1 k l (w : Int) (ofN xs) (ofN ys) (i : Int)) true
 | 0, i, hi => by
  refine Ev.step (dil_end (l := l) (xs := xs) hw i) (fun k => ?_)
  show kimberlitelaw02_GradeDilworth.l1 (k + 1) l (w : Int) (ofN xs) (ofN ys) (i : Int) = _
  rw [kimberlitelaw02_GradeDilworth.l1, ofN_len, if_neg (by omega)]
 | m + 1, i, hi => by
  have e : ∀ k, kimberlitelaw02_GradeDilworth.l1 (k + 1) l (w : Int) (ofN xs) (ofN ys) (i : Int) = kimberlitelaw02_GradeDilworth.j5 k l (w : Int) (ofN xs) (ofN ys) (i : Int) (((ys.length : Nat) : Int) == (w : Int)) := fun k => by
   rw [kimberlitelaw02_GradeDilworth.l1, ofN_len, if_pos (by omega)]
  by_cases hq : ys.length = w
  ·have hb : (((ys.length : Nat) : Int) == (w : Int)) = true := by rw [hq]; simp
   obtain ⟨x, hxm, hxy⟩ := hab hq ys[i]! (by rw [getElem!_pos ys i (by omega)]; exact List.getElem_mem _)
   obtain ⟨q, hq2, rfl⟩ := List.mem_iff_getElem.1 hxm
   have h2 := dil_l2 hx hy hl hxl hyl i (by omega) (dil_l1 hx hy hl hxl hyl hw hab m (i + 1) (by omega)) xs.length 0 false (by omega) (.inr ⟨q, Nat.zero_le _, hq2, by rw [getElem!_pos xs q hq2]; exact hxy⟩)
   refine Ev.step (G := fun k => kimberlitelaw02_GradeDilworth.j5 k l (w : Int) (ofN xs) (ofN ys) (i : Int) true) ?_ (fun k => by rw [e, hb])
   refine Ev.step h2 (fun k => ?_)
   show kimberlitelaw02_GradeDilworth.j5 (k + 1) l (w : Int) (ofN xs) (ofN ys) (i : Int) true = _
   rw [kimberlitelaw02_GradeDilworth.j5, if_pos rfl]
   rfl
  ·have hb : (((ys.length : Nat) : Int) == (w : Int)) = false := by
    rw [beq_eq_false_iff_ne]; omega
   exact Ev.step (dil_end (l := l) (xs := xs) hw i) (fun k => by rw [e, hb])
def pickB (pick : List Bool) (x : Nat) : Bool := decide (x < pick.length) && pick.getD x false
theorem dil_j3 (hx : AscN l.length xs) (hl : l.length ≤ 1000000) (hxl : xs.length ≤ 1000000) (hle : ∀ P, Ant l.length (befG l) (fun _ => true) P → card l.length P ≤ w) (hab : ∀ P, Ant l.length (befG l) (fun _ => true) P → card l.length P = w → ∀ y, y < l.length → P y = true → ∃ x, x ∈ xs ∧ (y = x ∨ befG l y x = true)) (i : Nat) :
  Ev (fun k => kimberlitelaw02_GradeDilworth.j3 k l pick (w : Int) (ofN xs) (ofN ((List.range l.length).filter (pickB pick))) (i : Int) false) true := by
 have hy := AscN.filter l.length (pickB pick)
 have hc := card_filter l.length (pickB pick)
 have hcl := card_le l.length (pickB pick)
 obtain ⟨b, h1, h2⟩ := apart_ev (l := l) hy (by omega)
 refine Ev.step (G := fun k => (kimberlitelaw02_apart.f k l (ofN ((List.range l.length).filter (pickB pick)))).bind fun t527 => (if t527 = true then (kimberlitelaw02_GradeDilworth.l1 k l (w : Int) (ofN xs) (ofN ((List.range l.length).filter (pickB pick))) 0) else ((kimberlitelaw02_alive.f k).bind fun t528 => (some t528)))) ?_ (fun k => ?_)
 ·refine Ev.bind h1 ?_
  cases b with
  | false =>
   simp only [Bool.false_eq_true, if_false]
   exact Ev.bind alive_ev (Ev.pure _)
  | true =>
   simp only [if_true]
   have hA : Ant l.length (befG l) (fun _ => true) (pickB pick) := ⟨fun _ _ _ => rfl, fun x y hx hy px py => h2.1 rfl x y (List.mem_filter.2 ⟨List.mem_range.2 hx, px⟩) (List.mem_filter.2 ⟨List.mem_range.2 hy, py⟩)⟩
   have h3 := hle _ hA
   exact dil_l1 hx hy hl hxl (by omega) (by omega) (fun e y hym => by
    obtain ⟨a1, a2⟩ := List.mem_filter.1 hym
    exact hab _ hA (by omega) y (List.mem_range.1 a1) a2) ((List.range l.length).filter (pickB pick)).length 0 (by omega)
 ·show kimberlitelaw02_GradeDilworth.j3 (k + 1) l pick (w : Int) (ofN xs) _ (i : Int) false = _
  rw [kimberlitelaw02_GradeDilworth.j3, if_neg (by decide)]
theorem pick_past (n : Nat) {i : Nat} (hi : pick.length ≤ i) (hin : i ≤ n) : (List.range i).filter (pickB pick) = (List.range n).filter (pickB pick) := by
 obtain ⟨m, rfl⟩ : ∃ m, n = i + m := ⟨n - i, by omega⟩
 rw [List.range_add, List.filter_append]
 rw [show (List.map (fun x => i + x) (List.range m)).filter (pickB pick) = [] from List.filter_eq_nil_iff.2 fun x hx => by
  obtain ⟨y, _, rfl⟩ := List.mem_map.1 hx
  unfold pickB
  simp
  omega]
 simp
theorem dil_l0 (hl : l.length ≤ 1000000) (hpl : l.length ≤ 32) (hj : ∀ i : Nat, Ev (fun k => kimberlitelaw02_GradeDilworth.j3 k l pick (w : Int) (ofN xs) (ofN ((List.range l.length).filter (pickB pick))) (i : Int) false) true) : ∀ m (i : Nat), i + m = l.length → Ev (fun k => kimberlitelaw02_GradeDilworth.l0 k l pick (w : Int) (ofN xs) (ofN ((List.range i).filter (pickB pick))) (i : Int)) true
 | 0, i, hi => by
  obtain rfl : i = l.length := by omega
  refine Ev.step (hj l.length) (fun k => ?_)
  show kimberlitelaw02_GradeDilworth.l0 (k + 1) l pick (w : Int) (ofN xs) _ (l.length : Int) = _
  rw [kimberlitelaw02_GradeDilworth.l0, if_neg (by omega)]
 | m + 1, i, hi => by
  by_cases hp : i < pick.length
  ·have ih := dil_l0 hl hpl hj m (i + 1) (by omega)
   rw [List.range_succ, List.filter_append] at ih
   refine Ev.step (G := fun k => kimberlitelaw02_GradeDilworth.j3 k l pick (w : Int) (ofN xs) (ofN ((List.range i).filter (pickB pick))) (i : Int) true) ?_ (fun k => ?_)
   ·refine Ev.step ih (fun k => ?_)
    show kimberlitelaw02_GradeDilworth.j3 (k + 1) l pick (w : Int) (ofN xs) _ (i : Int) true = _
    have hlen : ((List.range i).filter (pickB pick)).length ≤ i := by
     have := List.length_filter_le (pickB pick) (List.range i)
     rwa [List.length_range] at this
    have e : rdOf false pick (i : Int) = pickB pick i := by
     unfold rdOf pickB
     rw [Int.toNat_natCast, decide_eq_true hp, Bool.true_and]
    rw [kimberlitelaw02_GradeDilworth.j3, if_pos rfl, if_pos (by omega), if_pos (by omega), e, sucD (by omega), List.filter_cons, List.filter_nil]
    cases pickB pick i with
    | true => rw [if_pos rfl, ofN_len, if_pos (by omega), if_pos rfl]; unfold ofN; rw [List.map_append]; rfl
    | false => rw [if_neg (by decide), if_neg (by decide), List.append_nil]
   ·show kimberlitelaw02_GradeDilworth.l0 (k + 1) l pick (w : Int) (ofN xs) _ (i : Int) = _
    rw [kimberlitelaw02_GradeDilworth.l0, if_pos (by omega), decide_eq_true (show (i : Int) < (pick.length : Int) by omega)]
  ·refine Ev.step (hj i) (fun k => ?_)
   show kimberlitelaw02_GradeDilworth.l0 (k + 1) l pick (w : Int) (ofN xs) _ (i : Int) = _
   rw [kimberlitelaw02_GradeDilworth.l0, if_pos (by omega), decide_eq_false (show ¬ (i : Int) < (pick.length : Int) by omega), pick_past (i := i) l.length (by omega) (by omega)]
end
theorem card_true : ∀ n, card n (fun _ : Nat => true) = n
 | 0 => rfl
 | n + 1 => by rw [card, card_true n]; rfl
theorem dil_ev (l : List S36) (pick : List Bool) : Ev (fun k => kimberlitelaw02_GradeDilworth.f k l pick) true := by
 unfold kimberlitelaw02_GradeDilworth.f grade_Width.f grade_Chains.f
 by_cases h0 : lsF l 32 = 0
 ·have hlen := lsF_len h0
  obtain ⟨N, L, m, hd, hM, hw, at_, hc, hP⟩ := chains_top l (by omega)
  rw [hw h0, hc h0]
  simp only [Option.bind_some, if_true]
  obtain ⟨xs, hxs, e1⟩ : ∃ xs, xs = (List.range l.length).filter (topA l.length (befG l) (fun _ => true) N L) ∧ topL l N L = ofN xs := ⟨_, rfl, rfl⟩
  have hx : AscN l.length xs := by rw [hxs]; exact AscN.filter _ _
  have tc := hM.top_card
  rw [card_true] at tc
  have hxl : xs.length = l.length - m := by rw [hxs, ← card_filter]; omega
  obtain ⟨b, h1, h2⟩ := apart_ev (l := l) hx (by omega)
  have hb : b = true := h2.2 fun x y hx hy => by
   rw [hxs] at hx hy
   obtain ⟨a1, a2⟩ := List.mem_filter.1 hx
   obtain ⟨a3, a4⟩ := List.mem_filter.1 hy
   exact hM.top_ant.2 x y (List.mem_range.1 a1) (List.mem_range.1 a3) a2 a4
  subst hb
  have hle : ∀ P, Ant l.length (befG l) (fun _ => true) P → card l.length P ≤ l.length - m := fun P hA => by
   have := hM.anti_le hA
   rw [card_true] at this
   omega
  have hab : ∀ P, Ant l.length (befG l) (fun _ => true) P → card l.length P = l.length - m → ∀ y, y < l.length → P y = true → ∃ x, x ∈ xs ∧ (y = x ∨ befG l y x = true) := fun P hA hcP y hy py => by
   obtain ⟨a, ha, ht, h3⟩ := hM.top_above hA (by rw [card_true]; omega) hy py
   exact ⟨a, by rw [hxs]; exact List.mem_filter.2 ⟨List.mem_range.2 ha, ht⟩, h3⟩
  have hlast := dil_l0 (l := l) (pick := pick) (w := l.length - m) (xs := xs) (by omega) (by omega) (fun i => dil_j3 hx (by omega) (by omega) hle hab i) l.length 0 (by omega)
  have hch := chained_ev hP (by omega) (by omega)
  rw [e1]
  generalize l.length - m = w at *
  refine Ev.step (G := fun k => (kimberliteref02_Chained.f k l at_ (w : Int)).bind fun t521 => (if t521 = true then ((kimberlitelaw02_apart.f k l (ofN xs)).bind fun t522 => (kimberlitelaw02_GradeDilworth.j1 k l pick (w : Int) (ofN xs) (!t522))) else (kimberlitelaw02_GradeDilworth.j1 k l pick (w : Int) (ofN xs) true))) ?_ (fun k => ?_)
  ·refine Ev.bind hch ?_
   simp only [if_true]
   refine Ev.bind h1 ?_
   refine Ev.step hlast (fun k => ?_)
   show kimberlitelaw02_GradeDilworth.j1 (k + 1) l pick (w : Int) (ofN xs) (!true) = _
   rw [kimberlitelaw02_GradeDilworth.j1, if_neg (by decide)]
   rfl
  ·show kimberlitelaw02_GradeDilworth.j0 (k + 1) l pick (w : Int) (ofN xs) 0 at_ (w : Int) 0 ((0 : Int) != 0) = _
   rw [kimberlitelaw02_GradeDilworth.j0, if_neg (by decide), if_pos rfl, ofN_len, if_pos (by omega)]
 ·have e1 : widthF l = some (0, [], lsF l 32) := by unfold widthF; rw [if_neg h0]
  have e2 : chainF l = some ([], 0, lsF l 32) := by unfold chainF; rw [if_neg h0]
  rw [e1, e2]
  simp only [Option.bind_some, if_neg h0]
  refine Ev.step (G := fun k => (kimberlitelaw02_alive.f k).bind fun t => some t) (Ev.bind alive_ev (Ev.pure _)) (fun k => ?_)
  show kimberlitelaw02_GradeDilworth.j0 (k + 1) l pick 0 [] (lsF l 32) [] 0 (lsF l 32) true = _
  rw [kimberlitelaw02_GradeDilworth.j0, if_pos rfl, if_pos rfl, if_pos rfl, if_pos rfl, if_pos (by rw [w64 (by simp) (by simp)]; simp)]
theorem pure_GradeDilworth (l : List S36) (pick : List Bool) : ∃ k, kimberlitelaw02_GradeDilworth.f k l pick = some true := by
 obtain ⟨k, hk⟩ := dil_ev l pick
 exact ⟨k, hk k (Nat.le_refl _)⟩
section
variable {H : Type} {enc : TypeId × Value → H} {W : World} {a : Option Addr} {len cap : Nat} {d : DataW H} {p : List MemPlace}
theorem trod_bools (h : DataW.Trod enc Try.prog W 0 (fun _ => true) true 53 (.slice a len cap) d p) : ∃ l : List Bool, l.length = len ∧ len ≤ cap ∧ Kd.C Kd.bool W a l.length l :=
 slice_any false Try.underlying53 (by kernel_rfl) (fun cs n y hl hh => by
  obtain ⟨b, e, _⟩ := DataW.trod_bool Try.underlying4 hh
  exact ⟨b, e⟩) h
end
end Go.Proofs.Ytnbdfmdjedakcaa.PP
namespace Go.Proofs.Ytnbdfmdjedakcaa.PP.gradeDilworth
open Go.ChangeShapes Go.WideShapes Go.ChangeAt Go.RowKit
set_option linter.unusedVariables false
set_option linter.unusedSimpArgs false
set_option maxRecDepth 100000 in
theorem lifted (os : Os) (started : os.Started) (H : Type) (enc : TypeId × Value → H) :
  ReturnsInHanded {} Try.checked os 8 .any (Rows.gradeDilworthSpec.pre6 enc Try.prog Try.f8 Rows.gradeDilworthRow.domain false) (Rows.gradeDilworthSpec.post enc Try.prog Try.f8 false true false false) := by
 refine returnsInHanded_of_change (C := Try.checked) own started (by kernel_rfl) Try.func8
  (ChangeSpec.witness6 (enc := enc) (C := Try.checked) false ⟨#[], #[.slice none 0 0, .slice none 0 0], []⟩ 8 (by kernel_rfl) (by kernel_rfl) (by kernel_rfl) (by kernel_rfl)) ?_
 intro W base args ds gs before hval0 hW hcnd _
 have hval : ∀ (j : Nat) t v, Try.f8.params[j]? = some t → args[j]? = some v → Value.okWide Try.prog W .any base t v := hval0
 have hW' := hW
 obtain ⟨p, q, hA0, hV, rfl, hfz, hnd⟩ := hW
 have hA : DataW.TrodAll enc Try.prog W 0 (fun _ => true) true Try.f8.params.toList args.toList ds p := hA0
 rw [Try.params8] at hA hval
 obtain ⟨v0, vs0, d0, ds0, p0, q0, hargs, rfl, rfl, h0, r0⟩ := trodAll_cons hA
 obtain ⟨v1, vs1, d1, ds1, p1, q1, rfl, rfl, rfl, h1, r1⟩ := trodAll_cons r0
 obtain ⟨rfl, rfl, rfl⟩ := trodAll_nil r1
 obtain rfl : args = #[v0, v1] := by cases args; simp_all
 obtain ⟨rfl, rfl⟩ := trodVars_none hV
 obtain ⟨A0, len0, c0, rfl⟩ := okWide_slice Try.underlying41 (hval 0 41 v0 rfl rfl)
 have k0 := h0
 have lt0 : ∀ x ∈ p0, x.block < W.heap.size := by obtain ⟨m, hm⟩ := k0; exact DataW.trod_lt m _ _ _ hm
 obtain ⟨l0, rfl, hc0, hr0⟩ := trod_grades h0
 obtain ⟨A1, len1, c1, rfl⟩ := okWide_slice Try.underlying53 (hval 1 53 v1 rfl rfl)
 have k1 := h1
 have lt1 : ∀ x ∈ p1, x.block < W.heap.size := by obtain ⟨m, hm⟩ := k1; exact DataW.trod_lt m _ _ _ hm
 obtain ⟨l1, rfl, hc1, hr1⟩ := trod_bools h1
 obtain ⟨k, hk⟩ := pure_GradeDilworth l0 l1
 clear hA0 hval0
 refine (kimberlitelaw02_GradeDilworth.calls k A0 c0 l0 A1 c1 l1 true W hr0 hc0 hr1 hc1 hk).mono fun e W' ⟨he, bel⟩ => ?_
 subst he
 exact ⟨_, rfl, _, _, _, [], _, [], hW', trodAll_mk1 (shut_bool Try.underlying4 _), (trodAll_cons_mk (Below.trod laidOut (by kernel_rfl) (of_decide_eq_true (by kernel_rfl)) k0 bel lt0) (trodAll_cons_mk (Below.trod laidOut (by kernel_rfl) (of_decide_eq_true (by kernel_rfl)) k1 bel lt1) trodAll_mk0)), rfl, bel.frame _, fun h => by cases h⟩
theorem over : Rows.gradeDilworthRow.holds Try.pinned (OpenSpec.ofChange Rows.gradeDilworthSpec) :=
 OpenClaim.holds_of_wide 8 Try.f8 rfl rfl rfl rfl rfl rfl rfl ⟨rfl, rfl, rfl, rfl, rfl⟩ rfl rfl rfl rfl rfl (by kernel_rfl) Try.func8 (by kernel_rfl)
  (of_decide_eq_true (by kernel_rfl)) (by unfold Func.isWrapper; first | (rw [if_pos (by decide +kernel)]; kernel_rfl) | (rw [if_neg (by decide +kernel)]; exact ⟨rfl, rfl⟩))
  (fun os started H enc _ => lifted os started H enc)
end Go.Proofs.Ytnbdfmdjedakcaa.PP.gradeDilworth
namespace Go.Proofs.Ytnbdfmdjedakcaa
theorem gradeDilworth_holds : Rows.GradeDilworthSaid := PP.gradeDilworth.over
#print axioms gradeDilworth_holds
end Go.Proofs.Ytnbdfmdjedakcaa
