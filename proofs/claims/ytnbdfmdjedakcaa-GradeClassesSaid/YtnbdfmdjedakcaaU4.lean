/- No conditions. -/
import Derived.Test.YtnbdfmdjedakcaaU3
import Derived.Test.YtnbdfmdjedakcaaQ50
namespace Go.Proofs.Ytnbdfmdjedakcaa.PP
open Go.RowKit Go.Proofs.YtnbdfmdjedakcaaW.PrintWords Go.Proofs.YtnbdfmdjedakcaaW.PrintLast Go.Proofs.YtnbdfmdjedakcaaW.PrintMore Go.Proofs.Ytnbdfmdjedakcaa
def incB (x y : S36) : Bool := !(belowG x y || belowG y x)
theorem refAnti_l1 (l : List S36) (i : Nat) (hi : i < l.length) (hl : l.length ≤ 1000000) (r : Bool) (h : Ev (fun k => kimberliteref02_Antichain.l0 k l ((i + 1 : Nat) : Int)) r) : ∀ m (j : Nat), j + m = i → Ev (fun k => kimberliteref02_Antichain.l1 k l (i : Int) (j : Int)) (((l.take i).drop j).all (fun y => incB y l[i]) && r)
 | 0, j, hj => by
  rw [List.drop_eq_nil_of_le (by simp; omega)]
  refine Ev.step h (fun k => ?_)
  show kimberliteref02_Antichain.l1 (k + 1) l (i : Int) (j : Int) = _
  rw [kimberliteref02_Antichain.l1, if_neg (by omega), sucN (by omega)]
 | m + 1, j, hj => by
  have hjl : j < l.length := by omega
  have hj2 : j < (l.take i).length := by simp; omega
  have ih := refAnti_l1 l i hi hl r h m (j + 1) (by omega)
  rw [List.drop_eq_getElem_cons hj2, List.all_cons, show (l.take i)[j] = l[j] by simp]
  have e : ∀ k, kimberliteref02_Antichain.l1 (k + 1) l (i : Int) (j : Int) = if incB l[j] l[i] = true then kimberliteref02_Antichain.l1 k l (i : Int) ((j + 1 : Nat) : Int) else some false := fun k => by
   rw [kimberliteref02_Antichain.l1, if_pos (by omega), if_pos (by omega), if_pos (by omega), if_pos (by omega), if_pos (by omega), rdG l j hjl, rdG l i hi, sucN (by omega)]
   rw [show kimberliteref02_Below.f l[j].f0 l[j].f1 l[j].f2 l[i].f0 l[i].f1 l[i].f2 = some (belowG l[j] l[i]) from below_f _ _, show kimberliteref02_Below.f l[i].f0 l[i].f1 l[i].f2 l[j].f0 l[j].f1 l[j].f2 = some (belowG l[i] l[j]) from below_f _ _]
   simp only [Option.bind_some]
   unfold incB
   cases belowG l[j] l[i] <;> cases belowG l[i] l[j] <;> rfl
  cases hq : incB l[j] l[i] with
  | true =>
   refine Ev.step ih (fun k => ?_)
   show kimberliteref02_Antichain.l1 (k + 1) l (i : Int) (j : Int) = _
   rw [e, hq, if_pos rfl]
  | false =>
   refine Ev.step (Ev.pure _) (fun k => ?_)
   show kimberliteref02_Antichain.l1 (k + 1) l (i : Int) (j : Int) = _
   rw [e, hq]
   rfl
def okFrom (l : List S36) : Nat → Nat → Bool
 | 0, _ => true
 | m + 1, i => gok l[i]! && ((decide (i = 0) || decide (plN l[i - 1]! < plN l[i]!)) && ((l.take i).all (fun y => incB y l[i]!) && okFrom l m (i + 1)))
theorem refAnti_l0 (l : List S36) (hl : l.length ≤ 1000000) : ∀ m (i : Nat), i + m = l.length → (i = 0 ∨ gok l[i - 1]! = true) → Ev (fun k => kimberliteref02_Antichain.l0 k l (i : Int)) (okFrom l m i)
 | 0, i, hi, _ => by
  refine Ev.step (Ev.pure _) (fun k => ?_)
  show kimberliteref02_Antichain.l0 (k + 1) l (i : Int) = _
  rw [kimberliteref02_Antichain.l0, if_neg (by omega)]
  rfl
 | m + 1, i, hi, hp => by
  have hil : i < l.length := by omega
  have ei : l[i]! = l[i] := getElem!_pos l i hil
  rw [okFrom, ei]
  cases hg : gok l[i] with
  | false =>
   have e : ∀ k, kimberliteref02_Antichain.j1 (k + 1) l (i : Int) true = some false := fun k => by rw [kimberliteref02_Antichain.j1, if_pos rfl]
   rw [Bool.false_and]
   refine Ev.step (G := fun k => kimberliteref02_Antichain.j1 k l (i : Int) true) (Ev.step (Ev.pure false) e) (fun k => ?_)
   show kimberliteref02_Antichain.l0 (k + 1) l (i : Int) = _
   rw [kimberliteref02_Antichain.l0, if_pos (by omega), if_pos (by omega), rdG l i hil]
   rw [show kimberliteref02_Good.f l[i].f0 l[i].f1 l[i].f2 = some (gok l[i]) from rfl, hg]
   rfl
  | true =>
   have ih := refAnti_l0 l hl m (i + 1) (by omega) (.inr (by rw [show i + 1 - 1 = i by omega, ei]; exact hg))
   have h1 := refAnti_l1 l i hil hl _ ih i 0 (by omega)
   rw [List.drop_zero] at h1
   simp only [Bool.true_and]
   have go : ∀ b : Bool, (∀ k, kimberliteref02_Antichain.l0 (k + 1) l (i : Int) = kimberliteref02_Antichain.j1 k l (i : Int) (!b)) → (decide (i = 0) || decide (plN l[i - 1]! < plN l[i])) = b → Ev (fun k => kimberliteref02_Antichain.l0 k l (i : Int)) ((decide (i = 0) || decide (plN l[i - 1]! < plN l[i])) && ((l.take i).all (fun y => incB y l[i]) && okFrom l m (i + 1))) := fun b e0 eb => by
    rw [eb]
    cases b with
    | true =>
     refine Ev.step ?_ e0
     refine Ev.step h1 (fun k => ?_)
     show kimberliteref02_Antichain.j1 (k + 1) l (i : Int) false = _
     rw [kimberliteref02_Antichain.j1, if_neg (by decide)]
     rfl
    | false =>
     refine Ev.step ?_ e0
     refine Ev.step (Ev.pure _) (fun k => ?_)
     show kimberliteref02_Antichain.j1 (k + 1) l (i : Int) true = _
     rw [kimberliteref02_Antichain.j1, if_pos rfl]
     rfl
   by_cases h0 : i = 0
   ·refine go true (fun k => ?_) (by rw [decide_eq_true h0]; rfl)
    rw [kimberliteref02_Antichain.l0, if_pos (by omega), if_pos (by omega), rdG l i hil]
    rw [show kimberliteref02_Good.f l[i].f0 l[i].f1 l[i].f2 = some (gok l[i]) from rfl, hg, Option.bind_some, if_pos rfl, if_neg (by omega)]
    rfl
   ·have hpr : i - 1 < l.length := by omega
    have ep : l[i - 1]! = l[i - 1] := getElem!_pos l (i - 1) hpr
    have gp : gok l[i - 1] = true := by
     rcases hp with h | h
     ·exact absurd h h0
     ·rw [← ep]; exact h
    rw [ep] at go ⊢
    refine go (decide (plN l[i - 1] < plN l[i])) (fun k => ?_) (by rw [decide_eq_false h0]; rfl)
    have hw : wrap64 ((i : Int) - 1) = ((i - 1 : Nat) : Int) := by rw [w64 (by omega) (by omega)]; omega
    rw [kimberliteref02_Antichain.l0, if_pos (by omega), if_pos (by omega), rdG l i hil, hw]
    rw [show kimberliteref02_Good.f l[i].f0 l[i].f1 l[i].f2 = some (gok l[i]) from rfl, hg, Option.bind_some, if_pos rfl, if_pos (by omega), if_pos (by omega), if_pos (by omega), rdG l (i - 1) hpr, place_f gp, place_f hg]
    simp only [Option.bind_some]
    congr 1
    rw [← decide_not]
    exact decide_eq_decide.2 (by omega)
theorem pl_lt {x y : S36} (hx : gok x = true) (hy : gok y = true) : plN x < plN y ↔ ltG x y = true := by
 rw [gok_iff] at hx hy
 rw [ltG_iff]
 unfold plN
 omega
theorem okFrom_iff (l : List S36) : ∀ m (i : Nat), i + m = l.length → (okFrom l m i = true ↔ ∀ j (hj : j < l.length), i ≤ j → gok l[j] = true ∧ (j = 0 ∨ plN l[j - 1]! < plN l[j]) ∧ ∀ q (hq : q < j), incB l[q] l[j] = true)
 | 0, i, hi => ⟨fun _ j hj hij => by omega, fun _ => rfl⟩
 | m + 1, i, hi => by
  have hil : i < l.length := by omega
  have ei : l[i]! = l[i] := getElem!_pos l i hil
  rw [okFrom, Bool.and_eq_true, Bool.and_eq_true, Bool.and_eq_true, okFrom_iff l m (i + 1) (by omega), ei, Bool.or_eq_true, decide_eq_true_eq, decide_eq_true_eq, List.all_eq_true]
  constructor
  ·rintro ⟨h1, h2, h3, h4⟩ j hj hij
   by_cases e : j = i
   ·subst e
    exact ⟨h1, h2, fun q hq => h3 _ (List.mem_iff_getElem.2 ⟨q, by simp; omega, by simp⟩)⟩
   ·exact h4 j hj (by omega)
  ·intro h
   refine ⟨(h i hil (Nat.le_refl _)).1, (h i hil (Nat.le_refl _)).2.1, fun y hy => ?_, fun j hj hij => h j hj (by omega)⟩
   obtain ⟨q, hq, rfl⟩ := List.mem_iff_getElem.1 hy
   simp only [List.length_take] at hq
   rw [List.getElem_take]
   exact (h i hil (Nat.le_refl _)).2.2 q (by omega)
theorem incB_iff {x y : S36} : incB x y = true ↔ ¬ belowG x y = true ∧ ¬ belowG y x = true := by
 unfold incB
 cases belowG x y <;> cases belowG y x <;> simp
theorem refAnti_iff {l : List S36} : (decide (l.length ≤ 144) && okFrom l l.length 0) = true ↔ Anti l := by
 rw [Bool.and_eq_true, decide_eq_true_eq, okFrom_iff l l.length 0 (by omega)]
 constructor
 ·rintro ⟨_, h⟩
  have hv : ∀ x ∈ l, gok x = true := fun x hx => by
   obtain ⟨j, hj, rfl⟩ := List.mem_iff_getElem.1 hx
   exact (h j hj (Nat.zero_le _)).1
  have step : ∀ d j, (hj : j + d + 1 < l.length) → ltG l[j] l[j + d + 1] = true := by
   intro d
   induction d with
   | zero =>
    intro j hj
    have h1 := (h (j + 1) hj (Nat.zero_le _)).2.1
    rcases h1 with h1 | h1
    ·omega
    ·rw [show j + 1 - 1 = j by omega, getElem!_pos l j (by omega)] at h1
     exact (pl_lt (hv _ (List.getElem_mem _)) (hv _ (List.getElem_mem _))).1 h1
   | succ d ih =>
    intro j hj
    have h0 := ih j (by omega)
    have h1 := (h (j + (d + 1) + 1) hj (Nat.zero_le _)).2.1
    rcases h1 with h1 | h1
    ·omega
    ·rw [show j + (d + 1) + 1 - 1 = j + d + 1 by omega, getElem!_pos l (j + d + 1) (by omega)] at h1
     exact ltG_trans h0 ((pl_lt (hv _ (List.getElem_mem _)) (hv _ (List.getElem_mem _))).1 h1)
  refine ⟨hv, List.pairwise_iff_getElem.2 fun i j hi hj hij => ?_, fun x hx y hy hb => ?_⟩
  ·obtain ⟨d, rfl⟩ : ∃ d, j = i + d + 1 := ⟨j - i - 1, by omega⟩
   exact step d i hj
  ·obtain ⟨i, hi, rfl⟩ := List.mem_iff_getElem.1 hx
   obtain ⟨j, hj, rfl⟩ := List.mem_iff_getElem.1 hy
   rcases Nat.lt_trichotomy i j with hij | hij | hij
   ·exact absurd hb (incB_iff.1 ((h j hj (Nat.zero_le _)).2.2 i hij)).1
   ·subst hij; rfl
   ·exact absurd hb (incB_iff.1 ((h i hi (Nat.zero_le _)).2.2 j hij)).2
 ·intro h
  refine ⟨h.short, fun j hj _ => ⟨h.1 _ (List.getElem_mem _), ?_, fun q hq => ?_⟩⟩
  ·by_cases h0 : j = 0
   ·exact .inl h0
   ·refine .inr ?_
    rw [getElem!_pos l (j - 1) (by omega)]
    exact (pl_lt (h.1 _ (List.getElem_mem _)) (h.1 _ (List.getElem_mem _))).2 (List.pairwise_iff_getElem.1 h.2.1 (j - 1) j (by omega) hj (by omega))
  ·have hlt := List.pairwise_iff_getElem.1 h.2.1 q j (by omega) hj hq
   rw [incB_iff]
   constructor
   ·intro hb
    have := h.2.2 _ (List.getElem_mem _) _ (List.getElem_mem _) hb
    rw [this] at hlt
    exact ltG_irr _ hlt
   ·intro hb
    have := h.2.2 _ (List.getElem_mem _) _ (List.getElem_mem _) hb
    rw [this] at hlt
    exact ltG_irr _ hlt
theorem refAnti_ev (l : List S36) (hl : l.length ≤ 1000000) : Ev (fun k => kimberliteref02_Antichain.f k l) (anB l) := by
 have e : (decide (l.length ≤ 144) && okFrom l l.length 0) = anB l := by rw [Bool.eq_iff_iff, refAnti_iff, anB_iff]
 rw [← e]
 unfold kimberliteref02_Antichain.f
 by_cases h : (l.length : Int) > 144
 ·simp only [h, if_true]
  rw [decide_eq_false (show ¬ l.length ≤ 144 by omega)]
  exact Ev.pure _
 ·simp only [h, if_false]
  rw [decide_eq_true (show l.length ≤ 144 by omega)]
  exact refAnti_l0 l hl l.length 0 (by omega) (.inl rfl)
end Go.Proofs.Ytnbdfmdjedakcaa.PP
