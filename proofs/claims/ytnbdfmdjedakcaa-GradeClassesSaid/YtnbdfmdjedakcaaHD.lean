/- No conditions. -/
import Derived.Test.YtnbdfmdjedakcaaHB
import Derived.Test.YtnbdfmdjedakcaaJA
import Derived.Test.YtnbdfmdjedakcaaQ0
import Derived.Test.YtnbdfmdjedakcaaHC
import Derived.Test.YtnbdfmdjedakcaaQ37
import Derived.Test.YtnbdfmdjedakcaaQ35
import Derived.Test.YtnbdfmdjedakcaaQ36
import Derived.Test.YtnbdfmdjedakcaaQ38
import Derived.Test.YtnbdfmdjedakcaaQ90
import Derived.Test.YtnbdfmdjedakcaaQ80
import Derived.Lib.AppendZerosOnto
import Derived.Test.YtnbdfmdjedakcaaQ31
import Derived.Maps.RangeWalk
import Derived.Maps.OwnSet
import Derived.DeepKeys4
import Derived.WideKeyPair
namespace Go.Proofs.Ytnbdfmdjedakcaa
open Go.RowKit Go.Proofs.YtnbdfmdjedakcaaW.PrintWords Go.Proofs.YtnbdfmdjedakcaaW.PrintLast Go.Proofs.YtnbdfmdjedakcaaW.PrintMore PP Go.Sort
set_option linter.unusedVariables false
set_option linter.unusedSimpArgs false
abbrev Asc (xs : List S36) : Prop := xs.Pairwise fun x y => ltG x y = true
theorem ltG_irr (x : S36) : ¬ ltG x x = true := by rw [ltG_iff]; omega
theorem ltG_trans {x y z : S36} (h1 : ltG x y = true) (h2 : ltG y z = true) : ltG x z = true := by rw [ltG_iff] at *; omega
theorem asc_ext : ∀ (xs ys : List S36), Asc xs → Asc ys → (∀ x, x ∈ xs ↔ x ∈ ys) → xs = ys
 | [], [], _, _, _ => rfl
 | [], y :: ys, _, _, h => absurd ((h y).mpr List.mem_cons_self) (by simp)
 | x :: xs, [], _, _, h => absurd ((h x).mp List.mem_cons_self) (by simp)
 | x :: xs, y :: ys, hx, hy, h => by
  obtain ⟨hx1, hx2⟩ := List.pairwise_cons.1 hx
  obtain ⟨hy1, hy2⟩ := List.pairwise_cons.1 hy
  have e : x = y := by
   rcases List.mem_cons.1 ((h x).mp List.mem_cons_self) with e | e
   ·exact e
   ·rcases List.mem_cons.1 ((h y).mpr List.mem_cons_self) with e2 | e2
    ·exact e2.symm
    ·exact absurd (ltG_trans (hx1 _ e2) (hy1 _ e)) (ltG_irr x)
  subst e
  rw [asc_ext xs ys hx2 hy2 (fun z => ?_)]
  constructor
  ·intro hz
   rcases List.mem_cons.1 ((h z).mp (List.mem_cons_of_mem _ hz)) with e | e
   ·subst e; exact absurd (hx1 _ hz) (ltG_irr _)
   ·exact e
  ·intro hz
   rcases List.mem_cons.1 ((h z).mpr (List.mem_cons_of_mem _ hz)) with e | e
   ·subst e; exact absurd (hy1 _ hz) (ltG_irr _)
   ·exact e
theorem gok_iff {x : S36} : gok x = true ↔ (0 ≤ x.f0 ∧ x.f0 ≤ 11) ∧ (0 ≤ x.f1 ∧ x.f1 ≤ 11) ∧ (0 ≤ x.f2 ∧ x.f2 ≤ 11) := by
 unfold gok gokB
 rw [Bool.and_eq_true, Bool.and_eq_true, lvB_true, lvB_true, lvB_true]
theorem mem_all {x : S36} : x ∈ allL ↔ gok x = true := by
 rw [gok_iff]
 unfold allL
 simp only [List.mem_flatMap, List.mem_map, List.mem_range]
 constructor
 ·rintro ⟨a, ha, b, hb, c, hc, rfl⟩
  simp only
  omega
 ·rintro ⟨h0, h1, h2⟩
  refine ⟨x.f0.toNat, by omega, x.f1.toNat, by omega, x.f2.toNat, by omega, ?_⟩
  obtain ⟨a, b, c⟩ := x
  simp only at *
  simp only [S36.mk.injEq]
  omega
theorem all_asc : Asc allL := by
 unfold allL Asc
 have r : ∀ n, (List.range n).Pairwise (· < ·) := fun n => List.pairwise_lt_range
 refine List.pairwise_flatMap.2 ⟨fun a _ => List.pairwise_flatMap.2 ⟨fun b _ => List.pairwise_map.2 ((r 12).imp fun {i j} h => ?_), (r 12).imp fun h => ?_⟩, (r 12).imp fun h => ?_⟩
 ·rw [ltG_iff]; exact .inr ⟨rfl, .inr ⟨rfl, by simpa using h⟩⟩
 ·intro x hx y hy
  simp only [List.mem_map] at hx hy
  obtain ⟨_, _, rfl⟩ := hx
  obtain ⟨_, _, rfl⟩ := hy
  rw [ltG_iff]; simp only [true_and]; omega
 ·intro x hx y hy
  simp only [List.mem_map, List.mem_flatMap] at hx hy
  obtain ⟨_, _, _, _, rfl⟩ := hx
  obtain ⟨_, _, _, _, rfl⟩ := hy
  rw [ltG_iff]; simp only; omega
theorem below_iff {x y : S36} : belowG x y = true ↔ x.f0 ≤ y.f0 ∧ x.f1 ≤ y.f1 ∧ x.f2 ≤ y.f2 := by
 unfold belowG; simp
theorem below_refl (x : S36) : belowG x x = true := by rw [below_iff]; omega
theorem below_trans {x y z : S36} (h1 : belowG x y = true) (h2 : belowG y z = true) : belowG x z = true := by rw [below_iff] at *; omega
theorem below_anti {x y : S36} (h1 : belowG x y = true) (h2 : belowG y x = true) : x = y := by
 rw [below_iff] at *
 obtain ⟨a, b, c⟩ := x
 obtain ⟨d, e, f⟩ := y
 simp only at *
 simp only [S36.mk.injEq]
 omega
theorem mem_isIn {l : List S36} {x : S36} : isIn l x = true ↔ x ∈ l := by
 unfold isIn
 rw [List.any_eq_true]
 constructor
 ·rintro ⟨y, hy, h⟩
  rw [eqG_iff.1 h]; exact hy
 ·intro h
  exact ⟨x, h, eqG_iff.2 rfl⟩
def alone (rule : S36 → S36 → Bool) (l : List S36) (x : S36) : Bool := !(l.any fun o => !eqG o x && rule o x)
theorem exGo_mem (rule : S36 → S36 → Bool) (l : List S36) : ∀ k, k ≤ l.length → (exGo rule l k).1.Nodup ∧ (exGo rule l k).2.Nodup ∧ (∀ x, x ∈ (exGo rule l k).1 ↔ ∃ j, j < k ∧ l[j]? = some x) ∧ ∀ x, x ∈ (exGo rule l k).2 ↔ x ∈ (exGo rule l k).1 ∧ alone rule l x = true
 | 0, _ => ⟨List.nodup_nil, List.nodup_nil, fun x => by simp [exGo], fun x => by simp [exGo]⟩
 | k + 1, hk => by
  obtain ⟨i1, i2, i3, i4⟩ := exGo_mem rule l k (by omega)
  have hx : l[k]? = some l[k]! := by rw [List.getElem?_eq_getElem (by omega), getElem!_pos l k (by omega)]
  have step : ∀ y, (∃ j, j < k + 1 ∧ l[j]? = some y) ↔ (∃ j, j < k ∧ l[j]? = some y) ∨ y = l[k]! := fun y => by
   constructor
   ·rintro ⟨j, hj, h⟩
    by_cases e : j = k
    ·subst e; right; rw [hx] at h; exact (Option.some.inj h).symm
    ·exact .inl ⟨j, by omega, h⟩
   ·rintro (⟨j, hj, h⟩ | rfl)
    ·exact ⟨j, by omega, h⟩
    ·exact ⟨k, by omega, hx⟩
  rw [exGo]
  generalize l[k]! = z at step
  by_cases hs : isIn (exGo rule l k).1 z = true
  ·rw [if_pos hs]
   refine ⟨i1, i2, fun y => ?_, i4⟩
   rw [step, i3]
   constructor
   ·exact .inl
   ·rintro (h | rfl)
    ·exact h
    ·exact (i3 _).1 (mem_isIn.1 hs)
  ·rw [if_neg hs]
   have hn : z ∉ (exGo rule l k).1 := fun h => hs (mem_isIn.2 h)
   refine ⟨?_, ?_, fun y => ?_, fun y => ?_⟩
   ·exact List.nodup_append.2 ⟨i1, by simp, by intro a ha b hb; simp only [List.mem_singleton] at hb; subst hb; rintro rfl; exact hn ha⟩
   ·split
    ·exact i2
    ·exact List.nodup_append.2 ⟨i2, by simp, by intro a ha b hb; simp only [List.mem_singleton] at hb; subst hb; rintro rfl; exact hn ((i4 _).1 ha).1⟩
   ·simp only [List.mem_append, List.mem_singleton, i3, step]
   ·simp only [List.mem_append, List.mem_singleton]
    by_cases ha : (l.any fun o => !eqG o z && rule o z) = true
    ·rw [if_pos ha, i4]
     constructor
     ·rintro ⟨h1, h2⟩; exact ⟨.inl h1, h2⟩
     ·rintro ⟨h1 | rfl, h2⟩
      ·exact ⟨h1, h2⟩
      ·unfold alone at h2; rw [ha] at h2; exact absurd h2 (by decide)
    ·rw [if_neg ha]
     simp only [List.mem_append, List.mem_singleton, i4]
     constructor
     ·rintro (⟨h1, h2⟩ | rfl)
      ·exact ⟨.inl h1, h2⟩
      ·exact ⟨.inr rfl, by unfold alone; simpa using ha⟩
     ·rintro ⟨h1 | rfl, h2⟩
      ·exact .inl ⟨h1, h2⟩
      ·exact .inr rfl
theorem ex_mem (rule : S36 → S36 → Bool) (l : List S36) (x : S36) : x ∈ exF rule l ↔ x ∈ l ∧ alone rule l x = true := by
 obtain ⟨_, _, i3, i4⟩ := exGo_mem rule l l.length (Nat.le_refl _)
 unfold exF sortG
 rw [List.mem_mergeSort, i4, i3]
 constructor
 ·rintro ⟨⟨j, _, h⟩, h2⟩; exact ⟨List.mem_of_getElem? h, h2⟩
 ·rintro ⟨h, h2⟩
  obtain ⟨j, hj, e⟩ := List.mem_iff_getElem.1 h
  exact ⟨⟨j, hj, by rw [List.getElem?_eq_getElem hj, e]⟩, h2⟩
theorem sortG_asc {xs : List S36} (h : xs.Nodup) : Asc (sortG xs) := by
 have h1 : (sortG xs).Nodup := (List.mergeSort_perm xs _).nodup_iff.2 h
 have h2 : (sortG xs).Pairwise fun x y => (!ltOf cfG y x) = true := by
  unfold sortG
  refine List.pairwise_mergeSort (fun a b c => ?_) (fun a b => ?_) xs
  ·simp only [ltOf_G, Bool.not_eq_true', ltG_no]; omega
  ·simp only [ltOf_G, Bool.or_eq_true, Bool.not_eq_true', ltG_no]; omega
 refine (h2.and h1).imp fun {x y} h => ?_
 obtain ⟨h, hne⟩ := h
 cases hq : ltG x y with
 | true => rfl
 | false =>
  refine absurd (ltG_total x y (by rw [ltOf_G]; exact hq) (by simpa using h)) hne
theorem ex_asc (rule : S36 → S36 → Bool) (l : List S36) : Asc (exF rule l) := sortG_asc (exGo_mem rule l l.length (Nat.le_refl _)).2.1
theorem filter_asc (p : S36 → Bool) : Asc (allL.filter p) := all_asc.filter _
theorem ex_filter (rule : S36 → S36 → Bool) (l : List S36) (h : ∀ x ∈ l, gok x = true) : exF rule l = allL.filter fun x => isIn l x && alone rule l x :=
 asc_ext _ _ (ex_asc _ _) (filter_asc _) fun x => by
  rw [ex_mem, List.mem_filter, mem_all, Bool.and_eq_true, mem_isIn]
  constructor
  ·rintro ⟨h1, h2⟩; exact ⟨h x h1, h1, h2⟩
  ·rintro ⟨_, h1, h2⟩; exact ⟨h1, h2⟩
def upS (l : List S36) (g : S36) : Bool := l.any fun o => belowG o g
theorem upS_iff {l : List S36} {g : S36} : upS l g = true ↔ ∃ o, o ∈ l ∧ belowG o g = true := by
 unfold upS; rw [List.any_eq_true]
def UpC (U : S36 → Bool) : Prop := ∀ x y, gok x = true → gok y = true → belowG x y = true → U x = true → U y = true
def DnC (U : S36 → Bool) : Prop := ∀ x y, gok x = true → gok y = true → belowG x y = true → U y = true → U x = true
theorem upS_up (l : List S36) : UpC (upS l) := fun x y _ _ h hx => by
 obtain ⟨o, ho, h2⟩ := upS_iff.1 hx
 exact upS_iff.2 ⟨o, ho, below_trans h2 h⟩
def nb (g : S36) (s : Int) (i : Nat) : S36 := if i = 0 then ⟨g.f0 + s, g.f1, g.f2⟩ else if i = 1 then ⟨g.f0, g.f1 + s, g.f2⟩ else ⟨g.f0, g.f1, g.f2 + s⟩
def hasNb (U : S36 → Bool) (s : Int) (g : S36) : Bool := (gok (nb g s 0) && U (nb g s 0)) || ((gok (nb g s 1) && U (nb g s 1)) || (gok (nb g s 2) && U (nb g s 2)))
theorem hasNb_iff {U : S36 → Bool} {s : Int} {g : S36} : hasNb U s g = true ↔ ∃ i, i < 3 ∧ gok (nb g s i) = true ∧ U (nb g s i) = true := by
 unfold hasNb
 simp only [Bool.or_eq_true, Bool.and_eq_true]
 constructor
 ·rintro (h | h | h)
  ·exact ⟨0, by omega, h⟩
  ·exact ⟨1, by omega, h⟩
  ·exact ⟨2, by omega, h⟩
 ·rintro ⟨i, hi, h⟩
  match i, hi with
  | 0, _ => exact .inl h
  | 1, _ => exact .inr (.inl h)
  | 2, _ => exact .inr (.inr h)
def edgeL (U : S36 → Bool) (s : Int) : List S36 := allL.filter fun g => U g && !hasNb U s g
theorem mem_edge {U : S36 → Bool} {s : Int} {g : S36} : g ∈ edgeL U s ↔ gok g = true ∧ U g = true ∧ hasNb U s g = false := by
 unfold edgeL
 rw [List.mem_filter, mem_all, Bool.and_eq_true, Bool.not_eq_true']
theorem edge_asc (U : S36 → Bool) (s : Int) : Asc (edgeL U s) := filter_asc _
theorem edge_congr {U V : S36 → Bool} {s : Int} (h : ∀ g, gok g = true → U g = V g) : edgeL U s = edgeL V s :=
 asc_ext _ _ (edge_asc _ _) (edge_asc _ _) fun g => by
  rw [mem_edge, mem_edge]
  have hn : hasNb U s g = hasNb V s g := by
   rw [Bool.eq_iff_iff, hasNb_iff, hasNb_iff]
   constructor
   ·rintro ⟨i, hi, h1, h2⟩; exact ⟨i, hi, h1, by rw [← h _ h1]; exact h2⟩
   ·rintro ⟨i, hi, h1, h2⟩; exact ⟨i, hi, h1, by rw [h _ h1]; exact h2⟩
  rw [hn]
  constructor
  ·rintro ⟨h1, h2⟩; rw [h g h1] at h2; exact ⟨h1, h2⟩
  ·rintro ⟨h1, h2⟩; rw [← h g h1] at h2; exact ⟨h1, h2⟩
theorem nb_below (g : S36) (i : Nat) : belowG (nb g (-1) i) g = true ∧ nb g (-1) i ≠ g := by
 obtain ⟨a, b, c⟩ := g
 unfold nb
 constructor
 ·rw [below_iff]; split
  ·simp only; omega
  ·split <;> (simp only; omega)
 ·split
  ·intro h; simp only [S36.mk.injEq] at h; omega
  ·split <;> (intro h; simp only [S36.mk.injEq] at h; omega)
theorem nb_above (g : S36) (i : Nat) : belowG g (nb g 1 i) = true ∧ nb g 1 i ≠ g := by
 obtain ⟨a, b, c⟩ := g
 unfold nb
 constructor
 ·rw [below_iff]; split
  ·simp only; omega
  ·split <;> (simp only; omega)
 ·split
  ·intro h; simp only [S36.mk.injEq] at h; omega
  ·split <;> (intro h; simp only [S36.mk.injEq] at h; omega)
theorem nb_between {o g : S36} (h : belowG o g = true) (hne : o ≠ g) (ho : gok o = true) (hg : gok g = true) :
  (∃ i, i < 3 ∧ gok (nb g (-1) i) = true ∧ belowG o (nb g (-1) i) = true) ∧ ∃ i, i < 3 ∧ gok (nb o 1 i) = true ∧ belowG (nb o 1 i) g = true := by
 obtain ⟨a, b, c⟩ := o
 obtain ⟨d, e, f⟩ := g
 rw [below_iff] at h
 rw [gok_iff] at ho hg
 simp only at h ho hg
 by_cases h0 : a < d
 ·refine ⟨⟨0, by omega, ?_, ?_⟩, 0, by omega, ?_, ?_⟩ <;> (first | rw [gok_iff] | rw [below_iff]) <;> (unfold nb; simp only [if_true]; omega)
 ·by_cases h1 : b < e
  ·refine ⟨⟨1, by omega, ?_, ?_⟩, 1, by omega, ?_, ?_⟩ <;> (first | rw [gok_iff] | rw [below_iff]) <;> (unfold nb; simp only [if_true, show ¬ (1 : Nat) = 0 by decide, if_false]; omega)
  ·by_cases h2 : c < f
   ·refine ⟨⟨2, by omega, ?_, ?_⟩, 2, by omega, ?_, ?_⟩ <;> (first | rw [gok_iff] | rw [below_iff]) <;> (unfold nb; simp only [show ¬ (2 : Nat) = 0 by decide, show ¬ (2 : Nat) = 1 by decide, if_false]; omega)
   ·exact absurd (by simp only [S36.mk.injEq]; omega) hne
theorem edge_min {U : S36 → Bool} (hU : UpC U) {g : S36} (hg : gok g = true) : hasNb U (-1) g = false ↔ ∀ o, gok o = true → U o = true → belowG o g = true → o = g := by
 constructor
 ·intro h o ho h1 h2
  refine Classical.byContradiction fun hne => ?_
  obtain ⟨⟨i, hi, a, b⟩, _⟩ := nb_between h2 hne ho hg
  have : hasNb U (-1) g = true := hasNb_iff.2 ⟨i, hi, a, hU _ _ ho a b h1⟩
  rw [h] at this
  exact absurd this (by decide)
 ·intro h
  cases hq : hasNb U (-1) g with
  | false => rfl
  | true =>
   obtain ⟨i, _, a, b⟩ := hasNb_iff.1 hq
   exact absurd (h _ a b (nb_below g i).1) (nb_below g i).2
theorem edge_max {U : S36 → Bool} (hU : DnC U) {g : S36} (hg : gok g = true) : hasNb U 1 g = false ↔ ∀ o, gok o = true → U o = true → belowG g o = true → o = g := by
 constructor
 ·intro h o ho h1 h2
  refine Classical.byContradiction fun hne => ?_
  obtain ⟨_, i, hi, a, b⟩ := nb_between h2 (fun e => hne e.symm) hg ho
  have : hasNb U 1 g = true := hasNb_iff.2 ⟨i, hi, a, hU _ _ a ho b h1⟩
  rw [h] at this
  exact absurd this (by decide)
 ·intro h
  cases hq : hasNb U 1 g with
  | false => rfl
  | true =>
   obtain ⟨i, _, a, b⟩ := hasNb_iff.1 hq
   exact absurd (h _ a b (nb_above g i).1) (nb_above g i).2
theorem alone_iff {rule : S36 → S36 → Bool} {l : List S36} {x : S36} : alone rule l x = true ↔ ∀ o, o ∈ l → rule o x = true → o = x := by
 unfold alone
 rw [Bool.not_eq_true', List.any_eq_false]
 constructor
 ·intro h o ho hr
  refine Classical.byContradiction fun hne => h o ho ?_
  rw [hr, Bool.and_true, Bool.not_eq_true']
  cases hq : eqG o x with
  | false => rfl
  | true => exact absurd (eqG_iff.1 hq) hne
 ·intro h o ho hr
  simp only [Bool.and_eq_true, Bool.not_eq_true'] at hr
  have := h o ho hr.2
  subst this
  rw [eqG_iff.2 rfl] at hr
  exact absurd hr.1 (by decide)
theorem least_edge {l : List S36} (h : ∀ x ∈ l, gok x = true) : exF belowG l = edgeL (upS l) (-1) :=
 asc_ext _ _ (ex_asc _ _) (edge_asc _ _) fun g => by
  rw [ex_mem, mem_edge, alone_iff]
  constructor
  ·rintro ⟨h1, h2⟩
   refine ⟨h g h1, upS_iff.2 ⟨g, h1, below_refl g⟩, (edge_min (upS_up l) (h g h1)).2 fun o ho h3 h4 => ?_⟩
   obtain ⟨p, hp, h5⟩ := upS_iff.1 h3
   have e := h2 p hp (below_trans h5 h4)
   subst e
   exact below_anti h4 h5
  ·rintro ⟨hg, h1, h2⟩
   rw [edge_min (upS_up l) hg] at h2
   obtain ⟨p, hp, h3⟩ := upS_iff.1 h1
   have e := h2 p (h p hp) (upS_iff.2 ⟨p, hp, below_refl p⟩) h3
   subst e
   exact ⟨hp, fun o ho h4 => h2 o (h o ho) (upS_iff.2 ⟨o, ho, below_refl o⟩) h4⟩
theorem down_to {U : S36 → Bool} : ∀ (n : Nat) (g : S36), gok g = true → U g = true → (g.f0 + g.f1 + g.f2).toNat ≤ n → ∃ o, o ∈ edgeL U (-1) ∧ belowG o g = true := by
 intro n
 induction n with
 | zero =>
  intro g hg hU hn
  refine ⟨g, mem_edge.2 ⟨hg, hU, ?_⟩, below_refl g⟩
  cases hq : hasNb U (-1) g with
  | false => rfl
  | true =>
   obtain ⟨i, _, a, b⟩ := hasNb_iff.1 hq
   obtain ⟨h1, h2⟩ := nb_below g i
   rw [gok_iff] at hg a
   rw [below_iff] at h1
   exact absurd (by generalize nb g (-1) i = q at *; obtain ⟨x, y, z⟩ := g; obtain ⟨u, v, t⟩ := q; simp only [S36.mk.injEq] at *; omega) h2
 | succ n ih =>
  intro g hg hU hn
  cases hq : hasNb U (-1) g with
  | false => exact ⟨g, mem_edge.2 ⟨hg, hU, hq⟩, below_refl g⟩
  | true =>
   obtain ⟨i, hi, a, b⟩ := hasNb_iff.1 hq
   have hs : ((nb g (-1) i).f0 + (nb g (-1) i).f1 + (nb g (-1) i).f2) = g.f0 + g.f1 + g.f2 - 1 := by
    unfold nb; split
    ·simp only; omega
    ·split <;> (simp only; omega)
   rw [gok_iff] at hg
   obtain ⟨o, ho, h2⟩ := ih _ a b (by omega)
   exact ⟨o, ho, below_trans h2 (nb_below g i).1⟩
theorem up_to {U : S36 → Bool} : ∀ (n : Nat) (g : S36), gok g = true → U g = true → (33 - (g.f0 + g.f1 + g.f2)).toNat ≤ n → ∃ o, o ∈ edgeL U 1 ∧ belowG g o = true := by
 intro n
 induction n with
 | zero =>
  intro g hg hU hn
  refine ⟨g, mem_edge.2 ⟨hg, hU, ?_⟩, below_refl g⟩
  cases hq : hasNb U 1 g with
  | false => rfl
  | true =>
   obtain ⟨i, _, a, b⟩ := hasNb_iff.1 hq
   obtain ⟨h1, h2⟩ := nb_above g i
   rw [gok_iff] at hg a
   rw [below_iff] at h1
   exact absurd (by generalize nb g 1 i = q at *; obtain ⟨x, y, z⟩ := g; obtain ⟨u, v, t⟩ := q; simp only [S36.mk.injEq] at *; omega) h2
 | succ n ih =>
  intro g hg hU hn
  cases hq : hasNb U 1 g with
  | false => exact ⟨g, mem_edge.2 ⟨hg, hU, hq⟩, below_refl g⟩
  | true =>
   obtain ⟨i, hi, a, b⟩ := hasNb_iff.1 hq
   have hs : ((nb g 1 i).f0 + (nb g 1 i).f1 + (nb g 1 i).f2) = g.f0 + g.f1 + g.f2 + 1 := by
    unfold nb; split
    ·simp only; omega
    ·split <;> (simp only; omega)
   rw [gok_iff] at hg
   obtain ⟨o, ho, h2⟩ := ih _ a b (by omega)
   exact ⟨o, ho, below_trans (nb_above g i).1 h2⟩
theorem up_min {U : S36 → Bool} (hU : UpC U) {g : S36} (hg : gok g = true) : upS (edgeL U (-1)) g = U g := by
 rw [Bool.eq_iff_iff, upS_iff]
 constructor
 ·rintro ⟨o, ho, h⟩
  obtain ⟨h1, h2, _⟩ := mem_edge.1 ho
  exact hU _ _ h1 hg h h2
 ·exact fun h => down_to _ g hg h (Nat.le_refl _)
theorem dn_max {U : S36 → Bool} (hU : DnC U) {g : S36} (hg : gok g = true) : ((edgeL U 1).any fun o => belowG g o) = U g := by
 rw [Bool.eq_iff_iff, List.any_eq_true]
 constructor
 ·rintro ⟨o, ho, h⟩
  obtain ⟨h1, h2, _⟩ := mem_edge.1 ho
  exact hU _ _ hg h1 h h2
 ·exact fun h => up_to _ g hg h (Nat.le_refl _)
theorem nodup_short : ∀ (n : Nat) (l : List Nat), l.Nodup → (∀ x ∈ l, x < n) → l.length ≤ n
 | 0, [], _, _ => Nat.le_refl _
 | 0, x :: l, _, h => absurd (h x List.mem_cons_self) (by omega)
 | n + 1, l, hn, h => by
  by_cases hm : n ∈ l
  ·have h1 := nodup_short n (l.erase n) (hn.erase n) (fun x hx => by
    have h2 := h x (List.mem_of_mem_erase hx)
    have h3 : x ≠ n := fun e => by subst e; exact (List.Nodup.not_mem_erase hn) hx
    omega)
   rw [List.length_erase_of_mem hm] at h1
   omega
  ·have := nodup_short n l hn (fun x hx => by
    have h2 := h x hx
    have h3 : x ≠ n := fun e => by subst e; exact hm hx
    omega)
   omega
def Anti (l : List S36) : Prop := (∀ x ∈ l, gok x = true) ∧ Asc l ∧ ∀ x ∈ l, ∀ y ∈ l, belowG x y = true → x = y
theorem Anti.nodup {l : List S36} (h : Anti l) : l.Nodup := h.2.1.imp fun {x y} hxy e => by subst e; exact ltG_irr _ hxy
theorem Anti.short {l : List S36} (h : Anti l) : l.length ≤ 144 := by
 have hk : (l.map fun x : S36 => x.f0.toNat * 12 + x.f1.toNat).Nodup := by
  refine List.pairwise_map.2 ?_
  have := h.nodup
  refine List.Pairwise.imp_of_mem (fun {x y} hx hy hne e => hne ?_) this
  have gx := gok_iff.1 (h.1 x hx)
  have gy := gok_iff.1 (h.1 y hy)
  by_cases hz : x.f2 ≤ y.f2
  ·exact h.2.2 x hx y hy (below_iff.2 (by omega))
  ·exact (h.2.2 y hy x hx (below_iff.2 (by omega))).symm
 have := nodup_short 144 _ hk (fun n hn => by
  obtain ⟨x, hx, rfl⟩ := List.mem_map.1 hn
  have gx := gok_iff.1 (h.1 x hx)
  omega)
 simpa using this
theorem Anti.least {l : List S36} (h : Anti l) : exF belowG l = l :=
 asc_ext _ _ (ex_asc _ _) h.2.1 fun x => by
  rw [ex_mem, alone_iff]
  exact ⟨fun a => a.1, fun a => ⟨a, fun o ho hr => h.2.2 o ho x a hr⟩⟩
theorem anti_of_least {l : List S36} (hv : ∀ x ∈ l, gok x = true) (h : exF belowG l = l) : Anti l := by
 refine ⟨hv, by rw [← h]; exact ex_asc _ _, fun x hx y hy hb => ?_⟩
 rw [← h, ex_mem, alone_iff] at hy
 exact hy.2 x hx hb
theorem Anti.edge {l : List S36} (h : Anti l) : edgeL (upS l) (-1) = l := by rw [← least_edge h.1]; exact h.least
theorem anti_min {U : S36 → Bool} (hU : UpC U) : Anti (edgeL U (-1)) :=
 ⟨fun x hx => (mem_edge.1 hx).1, edge_asc _ _, fun x hx y hy hb => by
  obtain ⟨h1, h2, _⟩ := mem_edge.1 hx
  obtain ⟨h3, h4, h5⟩ := mem_edge.1 hy
  exact (edge_min hU h3).1 h5 x h1 h2 hb⟩
theorem anti_max {U : S36 → Bool} (hU : DnC U) : Anti (edgeL U 1) :=
 ⟨fun x hx => (mem_edge.1 hx).1, edge_asc _ _, fun x hx y hy hb => by
  obtain ⟨h1, h2, h6⟩ := mem_edge.1 hx
  obtain ⟨h3, h4, h5⟩ := mem_edge.1 hy
  exact ((edge_max hU h1).1 h6 y h3 h4 hb).symm⟩
theorem anti_ex {l : List S36} (hv : ∀ x ∈ l, gok x = true) : Anti (exF belowG l) := by
 rw [least_edge hv]; exact anti_min (upS_up l)
end Go.Proofs.Ytnbdfmdjedakcaa
set_option linter.unusedVariables false
set_option linter.unusedSimpArgs false
namespace Go.Proofs.YtnbdfmdjedakcaaW.PrintWords
open Go.RowKit
theorem ReadsRow.inner_ {α : Type} {R : α → List Value → Prop} {size : Nat} {w : World} {ad : Addr} {n : Nat} {ps : List α} (h : ReadsRow R size w (some ad) n ps) :
  ∃ inner, Reps R size ps inner ∧ ∀ j u, inner[j]? = some u → w.cell? (ad.add j) = some u := by
 have key : ∀ m, m ≤ ps.length → ∃ inner, Reps R size (ps.take m) inner ∧ ∀ j u, inner[j]? = some u → w.cell? (ad.add j) = some u := by
  intro m
  induction m with
  | zero => exact fun _ => ⟨[], Reps.none _ _, fun j u hu => by simp at hu⟩
  | succ m ih =>
   intro hm
   obtain ⟨inner, hr, hc⟩ := ih (by omega)
   obtain ⟨ad', he, hcell⟩ := h.2.2 (by have := h.1; omega)
   injection he with he
   subst he
   obtain ⟨c, hcl, hp, hcc⟩ := hcell m _ (List.getElem?_eq_getElem (show m < ps.length by omega))
   refine ⟨inner ++ c, ?_, fun j u hu => ?_⟩
   ·rw [List.take_succ_eq_append_getElem (show m < ps.length by omega)]
    exact hr.snoc hp hcl
   ·have hil : inner.length = m * size := by rw [hr.1, List.length_take, Nat.min_eq_left (by omega)]
    rcases Nat.lt_or_ge j inner.length with hj | hj
    ·rw [List.getElem?_append_left hj] at hu
     exact hc j u hu
    ·rw [List.getElem?_append_right hj] at hu
     have := hcc (j - inner.length) u hu
     rwa [hil, Nat.add_sub_cancel' (by omega)] at this
 obtain ⟨inner, hr, hc⟩ := key ps.length (Nat.le_refl _)
 rw [List.take_length] at hr
 exact ⟨inner, hr, hc⟩
namespace Kd
theorem R_newB {α : Type} {d : Kd α} {e g : Nat} {ok : Nat → Prop} {w w1 : World} {v : Value} {xs : List α} {o : Obj} (h : d.R e w1 w.heap.size ok v xs) (hb : w.heap[g]? = some o) : d.R e w1 w.heap.size (fun k => ok k ∧ k ≠ g) v xs := R_mono (R_bound h) (fun k hk => ⟨hk.1, by have := (Array.getElem?_eq_some_iff.1 hb).1; have := hk.2.1; omega⟩)
theorem reps_append {α : Type} {R : α → List Value → Prop} {size : Nat} {ps qs : List α} {cs ds : List Value} (h : Reps R size ps cs) (h' : Reps R size qs ds) : Reps R size (ps ++ qs) (cs ++ ds) := by
 refine ⟨by rw [List.length_append, List.length_append, h.1, h'.1, Nat.add_mul], fun j p hj => ?_⟩
 rcases Nat.lt_or_ge j ps.length with hlt | hge
 ·rw [List.getElem?_append_left hlt] at hj
  have hle : j * size + size ≤ cs.length := by rw [h.1, ← Nat.succ_mul]; exact Nat.mul_le_mul_right _ hlt
  rw [List.drop_append_of_le_length (by omega), List.take_append_of_le_length (by rw [List.length_drop]; omega)]
  exact h.2 j p hj
 ·rw [List.getElem?_append_right hge] at hj
  have h2 := h'.2 (j - ps.length) p hj
  have hle : ps.length * size ≤ j * size := Nat.mul_le_mul_right _ hge
  rw [List.drop_append, List.drop_eq_nil_of_le (by rw [h.1]; exact hle), List.nil_append, h.1, ← Nat.sub_mul]
  exact h2
section
variable {P : Program} {ops : Array Oper} {rest : List Oper} {o : Oper} {a : Act} {Q : Exit → Act → World → Prop} {α : Type}
theorem R_append_rows (d : Kd α) {Rr : α → List Value → Prop} {w0 W : World} (base : Nat) (hgd : o.guard = none) (s x : Operand) (t e : TypeId) (z : Value) (bytes : Nat)
  (ho : o.op = .call { callee := .builtin .append, args := #[s, x], argTypes := #[t, t] })
  (ht : P.underlying t = some (.slice e)) (hinfo : (P.info? e).map (fun i => (i.zero, i.size, i.bytes)) = some (some z, d.sz, bytes)) (hz : z.cells.size = d.sz) (hs0 : 0 < d.sz) (hb0 : 0 < bytes)
  (v : Value) (xs ys : List α) (A : Option Addr) (m c : Nat) (ok okp : Nat → Prop) (hs : a.eval s = v) (hx : a.eval x = .slice A m c)
  (HO : d.R e W base ok v xs) (HR : ReadsRow Rr d.sz W A m ys) (hKM : ∀ x cs, Rr x cs → d.M W base okp x cs) (hokp : ∀ k, okp k → ok k ∧ some k ≠ v.ownBlock) (hfresh : ∀ k, W.heap.size ≤ k → ok k)
  (HB : Below base w0 W) (hbase : base ≤ W.heap.size) (hl : (xs.length + m) * bytes ≤ 140737488355328)
  (h : ∀ v1 w1, d.R e w1 base ok v1 (xs ++ ys) → Below base w0 w1 → W.grownBy w1 v.ownBlock → (v1.ownBlock = v.ownBlock ∨ ∃ b, v1.ownBlock = some b ∧ W.heap.size ≤ b) → wpList P ops Q rest (a.put o.dst v1) w1) :
  wpList P ops Q (o :: rest) a W := by
 obtain ⟨i0, hi, hzz⟩ := Option.map_eq_some_iff.1 hinfo
 simp only [Prod.mk.injEq] at hzz
 obtain ⟨hz0, hz1, hz2⟩ := hzz
 have hm : ys.length = m := HR.1
 have hlen : xs.length + m ≤ 140737488355328 := Nat.le_trans (Nat.le_mul_of_pos_right _ hb0) hl
 obtain ⟨hok, inner, hown, hr⟩ := HO
 have hrun : ∃ v1 w1, (Builtin.append_ #[t, t] o.type #[v, .slice A m c]).run P W = .ok v1 w1 ∧ d.R e w1 base ok v1 (xs ++ ys) ∧ W.grownBy w1 v.ownBlock ∧ (v1.ownBlock = v.ownBlock ∨ ∃ b, v1.ownBlock = some b ∧ W.heap.size ≤ b) := by
  rcases A with _ | ad
  ·have h0 : m = 0 := by
    rcases Nat.eq_zero_or_pos m with h0 | h0
    ·exact h0
    ·obtain ⟨ad, h, _⟩ := HR.2.2 h0
     cases h
   subst h0
   obtain rfl : ys = [] := List.eq_nil_of_length_eq_zero hm
   refine ⟨v, W, ?_, by rw [List.append_nil]; exact ⟨hok, inner, hown, hr⟩, World.grownBy.refl W _, .inl rfl⟩
   rcases hown.2 with ⟨rfl, hn⟩ | ⟨g, cap, cur, rfl, _, _, hnc, _⟩
   ·simp [Builtin.append_, run_underlying ht, sizeOf, typeInfo, hi, Builtin.lenOf, Builtin.firstCells]
   ·simp [Builtin.append_, run_underlying ht, sizeOf, typeInfo, hi, Builtin.lenOf, Builtin.firstCells, hnc, storeCells]
  ·obtain ⟨news, hnr, hnc⟩ := ReadsRow.inner_ HR
   have hnM : Reps (d.M W base okp) d.sz ys news := hnr.imp_ (fun p c hp => hKM p c hp)
   have hone : ∀ u ∈ news, u.oneCell' = true := by
    intro u hu
    obtain ⟨q, hq, rfl⟩ := List.mem_iff_getElem.1 hu
    have hql : q / d.sz < ys.length := by
     rw [Nat.div_lt_iff_lt_mul hs0]
     rw [← hnM.1]
     exact hq
    have hc := hnM.2 (q / d.sz) _ (List.getElem?_eq_getElem hql)
    refine d.K_one (d.K_of_M hc) _ ?_
    rw [List.mem_iff_getElem?]
    refine ⟨q % d.sz, ?_⟩
    rw [List.getElem?_take, if_pos (Nat.mod_lt _ hs0), List.getElem?_drop, Nat.mul_comm, Nat.div_add_mod, List.getElem?_eq_getElem hq]
   obtain ⟨v1, w1, hrun, h2, hg, _, hat⟩ := run_append_own_at (P := P) W base t o.type e i0 z d.sz bytes ht hi hz0 hz1 hz2 hz hs0 v xs.length inner hown ad m c news (by rw [hnM.1, hm]) hnc hone (by simp only [maxLen]; omega) hl hbase
   have hat' : v1.ownBlock = v.ownBlock ∨ ∃ b, v1.ownBlock = some b ∧ W.heap.size ≤ b := by
    rcases hat with hat | hat
    ·exact .inl hat
    ·exact .inr ⟨_, hat, Nat.le_refl _⟩
   have hne : ∀ k, some k ≠ v.ownBlock → k < W.heap.size → some k ≠ v1.ownBlock := by
    intro k hk hlt
    rcases hat' with hat | ⟨b, hb, hle⟩
    ·rw [hat]; exact hk
    ·rw [hb]
     intro he
     injection he with he
     omega
   have step : ∀ {q : α} {c : List Value} {o : Nat → Prop}, d.M W base o q c → (∀ k, o k → ok k ∧ some k ≠ v.ownBlock) → d.M w1 base (fun k => ok k ∧ some k ≠ v1.ownBlock) q c := by
    intro q c o hq ho
    have h1 := d.M_move (w1 := w1) (fun k hk => hg.block k hk.2.2.1 (ho k hk.1).2) (d.M_bound hq)
    exact d.M_mono (fun k hk => ⟨(ho k hk.1).1, hne k (ho k hk.1).2 hk.2.2.1⟩) h1
   refine ⟨v1, w1, hrun, ⟨fun k hk => ?_, inner ++ news, by rw [List.length_append, hm]; exact h2, reps_append (hr.imp_ (fun _ _ hq => step hq (fun _ hk => hk))) (hnM.imp_ (fun _ _ hq => step hq hokp))⟩, hg, hat'⟩
   rcases hat' with hat | ⟨b, hb, hle⟩
   ·exact hok k (hat ▸ hk)
   ·rw [hb] at hk
    injection hk with hk
    exact hfresh k (by omega)
 obtain ⟨v1, w1, hr1, h1, hg, hat⟩ := hrun
 refine wpList_plain hgd fun K hK => ?_
 unfold Oper.wp execOp
 simp only [ho, resolve, invoke, builtin, Sem.run_bind, Sem.run_pure, Result.andThen_ok, List.map_toArray, List.map_cons, List.map_nil, hs, hx, hr1]
 exact hK _ _ (h v1 w1 h1 (HB.grown hg hbase (own_base hown)) hg hat)
end
end Kd
end Go.Proofs.YtnbdfmdjedakcaaW.PrintWords
namespace Go.Proofs.Ytnbdfmdjedakcaa
open Go.RowKit Go.Proofs.YtnbdfmdjedakcaaW.PrintWords Go.Proofs.YtnbdfmdjedakcaaW.PrintLast Go.Proofs.YtnbdfmdjedakcaaW.PrintMore PP
attribute [local go_sem high] eqA36
set_option linter.unusedVariables false
set_option linter.unusedSimpArgs false
theorem mkG (n : Nat) (hn : n < 1000000000) (W : World) : (Instr.makeSlice 41 (.int .i64 n) (.int .i64 n)).run Try.prog W = .ok (.slice (some ⟨W.heap.size, 0, none⟩) n n) (W.alloc (.cells (madeCells #[.int .i64 0, .int .i64 0, .int .i64 0] (n * 3)) 36)) := by
 obtain ⟨i, hi, hz, hs, hb⟩ := info_parts info36
 have h := run_make (P := Try.prog) W 41 36 i (.agg #[.int .i64 0, .int .i64 0, .int .i64 0]) Try.underlying41 hi hz .i64 .i64 (n : Int) (n : Int) (by omega) (Int.le_refl _) (by rw [hb]; omega) (by omega)
 rw [hs, Int.toNat_natCast] at h
 exact h
def ownF (l : List S36) (k i : Nat) : Int := if i / 3 < k then n3 l[i / 3]!.f0 l[i / 3]!.f1 l[i / 3]!.f2 (i % 3) else 0
def markF (l : List S36) (i : Nat) : Int := if i / 3 < l.length then n3 l[i / 3]!.f0 l[i / 3]!.f1 l[i / 3]!.f2 (i % 3) else n3 7 7 77 (i % 3)
def OwnB (w : World) (g : Nat) (l : List S36) : Prop := VBlk encI 36 w g ((l.length + 1) * 3) (markF l)
theorem made3 (n j : Nat) (hj : j < n * 3) : (madeCells #[.int .i64 0, .int .i64 0, .int .i64 0] (n * 3))[j]? = some (encI 0) := by
 simp [madeCells, hj]
 have : j % 3 = 0 ∨ j % 3 = 1 ∨ j % 3 = 2 := by omega
 rcases this with e | e | e <;> simp [e, encI]
theorem VBlk.made3 {w : World} {b n : Nat} (h : w.heap[b]? = some (.cells (madeCells #[.int .i64 0, .int .i64 0, .int .i64 0] (n * 3)) 36 (0, 0))) : VBlk encI 36 w b (n * 3) (fun _ => 0) :=
 ⟨_, h, by simp [madeCells], fun j hj => Ytnbdfmdjedakcaa.made3 _ _ hj⟩
theorem VBlk.set3 {w : World} {b n : Nat} {f : Nat → Int} (h : VBlk encI 36 w b n f) (j : Nat) (hj : j * 3 + 2 < n) (x y z : Int) :
  VBlk encI 36 (((w.setCell ⟨b, j * 3, none⟩ (.int .i64 x)).setCell ⟨b, j * 3 + 1, none⟩ (.int .i64 y)).setCell ⟨b, j * 3 + 2, none⟩ (.int .i64 z)) b n (fun i => if i / 3 = j then n3 x y z (i % 3) else f i) :=
 (((h.set (j * 3) (by omega) x).set (j * 3 + 1) (by omega) y).set (j * 3 + 2) (by omega) z).congr fun i hi => by
  unfold upd n3
  by_cases e : i / 3 = j
  ·rw [if_pos e]
   have : i % 3 = 0 ∨ i % 3 = 1 ∨ i % 3 = 2 := by omega
   rcases this with e2 | e2 | e2
   ·rw [if_neg (by omega), if_neg (by omega), if_pos (by omega), if_pos e2]
   ·rw [if_neg (by omega), if_pos (by omega), if_neg (by omega), if_pos e2]
   ·rw [if_pos (by omega), if_neg (by omega), if_neg (by omega)]
  ·rw [if_neg e, if_neg (by omega), if_neg (by omega), if_neg (by omega)]
theorem OwnB.cells {w : World} {g : Nat} {l : List S36} (h : OwnB w g l) (j : Nat) (hj : j < l.length) : w.cell? ⟨g, j * 3, none⟩ = some (.int .i64 l[j]!.f0) ∧ w.cell? ⟨g, j * 3 + 1, none⟩ = some (.int .i64 l[j]!.f1) ∧ w.cell? ⟨g, j * 3 + 2, none⟩ = some (.int .i64 l[j]!.f2) := by
 have h0 := h.cell (j * 3) (by omega)
 have h1 := h.cell (j * 3 + 1) (by omega)
 have h2 := h.cell (j * 3 + 2) (by omega)
 unfold markF encI at h0 h1 h2
 rw [if_pos (by omega), show j * 3 / 3 = j by omega, show j * 3 % 3 = 0 by omega] at h0
 rw [if_pos (by omega), show (j * 3 + 1) / 3 = j by omega, show (j * 3 + 1) % 3 = 1 by omega] at h1
 rw [if_pos (by omega), show (j * 3 + 2) / 3 = j by omega, show (j * 3 + 2) % 3 = 2 by omega] at h2
 exact ⟨h0, h1, h2⟩
theorem OwnB.mark {w : World} {g : Nat} {l : List S36} (h : OwnB w g l) : w.cell? ⟨g, l.length * 3, none⟩ = some (.int .i64 7) ∧ w.cell? ⟨g, l.length * 3 + 1, none⟩ = some (.int .i64 7) ∧ w.cell? ⟨g, l.length * 3 + 2, none⟩ = some (.int .i64 77) := by
 have h0 := h.cell (l.length * 3) (by omega)
 have h1 := h.cell (l.length * 3 + 1) (by omega)
 have h2 := h.cell (l.length * 3 + 2) (by omega)
 unfold markF encI at h0 h1 h2
 rw [if_neg (by omega), show l.length * 3 % 3 = 0 by omega] at h0
 rw [if_neg (by omega), show (l.length * 3 + 1) % 3 = 1 by omega] at h1
 rw [if_neg (by omega), show (l.length * 3 + 2) % 3 = 2 by omega] at h2
 exact ⟨h0, h1, h2⟩
theorem OwnB.C {w : World} {g : Nat} {l : List S36} (h : OwnB w g l) (hl : l.length ≤ 1000000) : Kd.C k36 w (some ⟨g, 0, none⟩) l.length l := by
 refine ⟨rfl, by omega, fun _ => ⟨_, rfl, fun j v hj => ⟨[.int .i64 v.f0, .int .i64 v.f1, .int .i64 v.f2], rfl, k36_mk _ _, fun i u hi => ?_⟩⟩⟩
 obtain ⟨hjl, e⟩ := List.getElem?_eq_some_iff.1 hj
 have e2 : l[j]! = v := by rw [getElem!_pos l j hjl, e]
 obtain ⟨h0, h1, h2⟩ := h.cells j hjl
 rw [e2] at h0 h1 h2
 show w.cell? (Addr.add ⟨g, 0, none⟩ (j * 3 + i)) = some u
 have ea : Addr.add ⟨g, 0, none⟩ (j * 3 + i) = ⟨g, j * 3 + i, none⟩ := by simp [Addr.add]; omega
 rw [ea]
 match i, hi with
 | 0, hi => rw [← hi]; exact h0
 | 1, hi => rw [← hi]; exact h1
 | 2, hi => rw [← hi]; exact h2
theorem OwnB.below {w w' : World} {g : Nat} {l : List S36} (h : OwnB w g l) (hb : Below w.heap.size w w') : OwnB w' g l := h.of_heap (hb.block _ h.lt)
set_option maxRecDepth 100000 in
set_option maxHeartbeats 4000000 in
theorem own_any (w : World) (A : Option Addr) (c : Nat) (l : List S36) (hC : Kd.C k36 w A l.length l) (hl : l.length ≤ 1000) :
  Calls Try.prog 34 #[.slice A l.length c] w fun e w' => e = .returned (.slice (some ⟨w.heap.size, 0, none⟩) l.length (l.length + 1)) ∧ OwnB w' w.heap.size l ∧ Below w.heap.size w w' := by
 have hu36 := Try.underlying36
 have hm := mkG (l.length + 1) (by omega)
 have HC := Hd.mk (fun W (hb : Below w.heap.size w W) => Kd.C_below hC hb)
 have hcast : ((l.length + 1 : Nat) : Int) = (l.length : Int) + 1 := by omega
 rw [hcast] at hm
 have HL := Hd.mk hl
 clear hC hcast
 go_enter Try.func34, Try.ntmps34
 go_wp2_with fail
 go_loopg [4] l.length (fun gg v4 wr => ∃ k : Nat, v4 = .int .i64 k ∧ k ≤ l.length ∧ l.length - k ≤ gg ∧ Hd (Below w.heap.size w wr) ∧ Hd (VBlk encI 36 wr w.heap.size ((l.length + 1) * 3) (ownF l k)))
 case atStart =>
  refine ⟨0, rfl, Nat.zero_le _, by omega, ⟨(Below.refl _ w).alloc (Nat.le_refl _) _⟩, ⟨(VBlk.made3 (blk_new w _)).congr fun j _ => ?_⟩⟩
  unfold ownF; rw [if_neg (by omega)]
 case round =>
  obtain ⟨k, rfl, hk, hg, BW, VB⟩ := hrel
  by_cases hlt : k < l.length
  ·have hltz : (k : Int) < (l.length : Int) := by omega
   have hltz2 : (k : Int) < (l.length : Int) + 1 := by omega
   obtain ⟨ad, rfl, x0, x1, x2⟩ := at_T36 (HC.out _ BW.out) (k : Int) (by omega) hltz
   rw [getB, Int.toNat_natCast] at x0 x1 x2
   have g0 := VB.out.cell (k * 3) (by omega)
   have g1 := VB.out.cell (k * 3 + 1) (by omega)
   have g2 := VB.out.cell (k * 3 + 2) (by omega)
   have f0 := VB.out.frozen (k * 3)
   have f1 := VB.out.frozen (k * 3 + 1)
   have f2 := VB.out.frozen (k * 3 + 2)
   have nx := VB.out.set3 k (by omega) l[k]!.f0 l[k]!.f1 l[k]!.f2
   have NX := Hd.mk (nx.congr (g := ownF l (k + 1)) fun i hi => by
    unfold ownF
    by_cases e : i / 3 = k
    ·subst e; rw [if_pos rfl, if_pos (by omega)]
    ·rw [if_neg e]
     by_cases e2 : i / 3 < k
     ·rw [if_pos e2, if_pos (by omega)]
     ·rw [if_neg e2, if_neg (by omega)])
   have NB := Hd.mk (bel_set (bel_set (bel_set BW.out (Nat.le_refl _) (k * 3) (.int .i64 l[k]!.f0)) (Nat.le_refl _) (k * 3 + 1) (.int .i64 l[k]!.f1)) (Nat.le_refl _) (k * 3 + 2) (.int .i64 l[k]!.f2))
   clear nx
   unfold encI at g0 g1 g2
   generalize l[k]! = x at *
   generalize ownF l k (k * 3) = z0 at g0
   generalize ownF l k (k * 3 + 1) = z1 at g1
   generalize ownF l k (k * 3 + 2) = z2 at g2
   go_wp2_with fail
   go_roundg (l.length - (k + 1))
   case measure => omega
   case rel => exact ⟨k + 1, by go_num, by omega, by omega, NB, NX⟩
  ·have hltz : ¬ (k : Int) < (l.length : Int) := by omega
   obtain rfl : k = l.length := by omega
   have hl2 : (l.length : Int) < (l.length : Int) + 1 := by omega
   have hl3 : (l.length : Int) ≤ (l.length : Int) + 1 := by omega
   have g0 := VB.out.cell (l.length * 3) (by omega)
   have g1 := VB.out.cell (l.length * 3 + 1) (by omega)
   have g2 := VB.out.cell (l.length * 3 + 2) (by omega)
   have f0 := VB.out.frozen (l.length * 3)
   have f1 := VB.out.frozen (l.length * 3 + 1)
   have f2 := VB.out.frozen (l.length * 3 + 2)
   have nx := VB.out.set3 l.length (by omega) 7 7 77
   have NX := Hd.mk (nx.congr (g := markF l) fun i hi => by
    unfold ownF markF
    by_cases e : i / 3 = l.length
    ·rw [if_pos e, if_neg (by omega)]
    ·rw [if_neg e, if_pos (by omega), if_pos (by omega)])
   have NB := Hd.mk (bel_set (bel_set (bel_set BW.out (Nat.le_refl _) (l.length * 3) (.int .i64 7)) (Nat.le_refl _) (l.length * 3 + 1) (.int .i64 7)) (Nat.le_refl _) (l.length * 3 + 2) (.int .i64 77))
   clear nx
   unfold encI at g0 g1 g2
   generalize ownF l l.length (l.length * 3) = z0 at g0
   generalize ownF l l.length (l.length * 3 + 1) = z1 at g1
   generalize ownF l l.length (l.length * 3 + 2) = z2 at g2
   go_wp2_with fail
   go_ret
   exact ⟨rfl, NX.out, NB.out⟩
set_option maxRecDepth 100000 in
set_option maxHeartbeats 4000000 in
theorem kept_any (w : World) (g : Nat) (A : Option Addr) (c : Nat) (l : List S36) (hO : OwnB w g l) (hC : Kd.C k36 w A l.length l) (hl : l.length ≤ 1000) (hc : l.length ≤ c) (k : Nat) (hk : kimberlitelaw02_alike.f k l l = some true) :
  Calls Try.prog 40 #[.slice (some ⟨g, 0, none⟩) l.length (l.length + 1), .slice A l.length c] w fun e w' => e = .returned (.bool true) ∧ Below w.heap.size w w' := by
 have hu36 := Try.underlying36
 obtain ⟨m0, m1, m2⟩ := hO.mark
 have hcall := fun W (hb : Below w.heap.size w W) => kimberlitelaw02_alike.calls k _ (l.length + 1) l A c l true W (Kd.C_below (hO.C (by omega)) hb) (by omega) (Kd.C_below hC hb) hc hk
 have HCALL := Hd.mk hcall
 have h1 : (l.length : Int) < (l.length : Int) + 1 := by omega
 clear hO hC hcall hk
 go_enter Try.func40, Try.ntmps40
 go_wp2_with (first | (go_at_call 37; refine (HCALL.out _ (Below.refl _ _)).mono ?_; rintro e w' ⟨rfl, n, rfl⟩))
 go_ret
 exact ⟨rfl, bel_drewN' w n⟩
end Go.Proofs.Ytnbdfmdjedakcaa
namespace Go.Proofs.Ytnbdfmdjedakcaa.PP
open Go.RowKit Go.Proofs.YtnbdfmdjedakcaaW.PrintWords Go.Proofs.YtnbdfmdjedakcaaW.PrintLast Go.Proofs.YtnbdfmdjedakcaaW.PrintMore Go.Proofs.Ytnbdfmdjedakcaa
set_option linter.unusedVariables false
set_option linter.unusedSimpArgs false
theorem sucN {j : Nat} (h : j ≤ 1000000000) : wrap64 ((j : Int) + 1) = ((j + 1 : Nat) : Int) := by rw [w64 (by omega) (by omega)]; rfl
def lqG : List S36 → List S36 → Bool
 | [], [] => true
 | x :: xs, y :: ys => eqG x y && lqG xs ys
 | _, _ => false
theorem lqG_iff : ∀ {x y : List S36}, lqG x y = true ↔ x = y
 | [], [] => by simp [lqG]
 | [], _ :: _ => by simp [lqG]
 | _ :: _, [] => by simp [lqG]
 | x :: xs, y :: ys => by
  rw [lqG, Bool.and_eq_true, eqG_iff, lqG_iff, List.cons.injEq]
theorem ne_eqG (x y : S36) : (!(x.f0 == y.f0) || (!(x.f1 == y.f1) || (!(x.f2 == y.f2)))) = !eqG x y := by
 unfold eqG
 cases x.f0 == y.f0 <;> cases x.f1 == y.f1 <;> cases x.f2 == y.f2 <;> rfl
theorem rdG (x : List S36) (j : Nat) (h : j < x.length) : rd_T36 x (j : Int) = x[j] := rdT36_get x j h
theorem alike_l0 (x y : List S36) (hxy : x.length = y.length) : ∀ m (j : Nat), j + m = x.length → x.length ≤ 1000000 → Ev (fun k => kimberlitelaw02_alike.l0 k x y (j : Int)) (lqG (x.drop j) (y.drop j))
 | 0, j, hj, hx => by
  rw [List.drop_eq_nil_of_le (by omega), List.drop_eq_nil_of_le (by omega)]
  refine Ev.step (Ev.pure _) (fun k => ?_)
  show kimberlitelaw02_alike.l0 (k + 1) x y (j : Int) = _
  rw [kimberlitelaw02_alike.l0, if_neg (by omega)]
  rfl
 | m + 1, j, hj, hx => by
  have h1 : j < x.length := by omega
  have h2 : j < y.length := by omega
  rw [List.drop_eq_getElem_cons h1, List.drop_eq_getElem_cons h2, lqG]
  have e : ∀ k, kimberlitelaw02_alike.l0 (k + 1) x y (j : Int) = if eqG x[j] y[j] = true then kimberlitelaw02_alike.l0 k x y ((j + 1 : Nat) : Int) else some false := fun k => by
   rw [kimberlitelaw02_alike.l0, if_pos (by omega), if_pos (by omega), if_pos (by omega), ne_eqG, rdG x j h1, rdG y j h2, sucN (by omega)]
   cases eqG x[j] y[j] <;> rfl
  cases hq : eqG x[j] y[j] with
  | true =>
   refine Ev.step (alike_l0 x y hxy m (j + 1) (by omega) hx) (fun k => ?_)
   show kimberlitelaw02_alike.l0 (k + 1) x y (j : Int) = _
   rw [e, hq, if_pos rfl]
  | false =>
   refine Ev.step (Ev.pure _) (fun k => ?_)
   show kimberlitelaw02_alike.l0 (k + 1) x y (j : Int) = _
   rw [e, hq]
   rfl
theorem alike_ev (x y : List S36) (hx : x.length ≤ 1000000) : Ev (fun k => kimberlitelaw02_alike.f k x y) (lqG x y) := by
 unfold kimberlitelaw02_alike.f
 by_cases h : (x.length : Int) = (y.length : Int)
 ·simp only [h, if_true]
  have := alike_l0 x y (by omega) x.length 0 (by omega) hx
  simpa using this
 ·simp only [h, if_false]
  refine (Ev.pure false).to ?_
  cases hq : lqG x y with
  | false => rfl
  | true => exact absurd (by rw [lqG_iff.1 hq]) h
theorem alike_same (x : List S36) (hx : x.length ≤ 1000000) : Ev (fun k => kimberlitelaw02_alike.f k x x) true :=
 (alike_ev x x hx).to (lqG_iff.2 rfl)
theorem equal_l0 (x y : List S36) (hxy : x.length = y.length) : ∀ m (j : Nat), j + m = x.length → x.length ≤ 1000000 → Ev (fun k => api_Grade_111.l0 k x y (x.length : Int) (j : Int)) (lqG (x.drop j) (y.drop j))
 | 0, j, hj, hx => by
  rw [List.drop_eq_nil_of_le (by omega), List.drop_eq_nil_of_le (by omega)]
  refine Ev.step (Ev.pure _) (fun k => ?_)
  show api_Grade_111.l0 (k + 1) x y (x.length : Int) (j : Int) = _
  rw [api_Grade_111.l0, if_neg (by omega)]
  rfl
 | m + 1, j, hj, hx => by
  have h1 : j < x.length := by omega
  have h2 : j < y.length := by omega
  rw [List.drop_eq_getElem_cons h1, List.drop_eq_getElem_cons h2, lqG]
  have e : ∀ k, api_Grade_111.l0 (k + 1) x y (x.length : Int) (j : Int) = if eqG x[j] y[j] = true then api_Grade_111.l0 k x y (x.length : Int) ((j + 1 : Nat) : Int) else some false := fun k => by
   rw [api_Grade_111.l0, if_pos (by omega), if_pos (by omega), if_pos (by omega), if_pos (by omega), ne_eqG, rdG x j h1, rdG y j h2, sucN (by omega)]
   cases eqG x[j] y[j] <;> rfl
  cases hq : eqG x[j] y[j] with
  | true =>
   refine Ev.step (equal_l0 x y hxy m (j + 1) (by omega) hx) (fun k => ?_)
   show api_Grade_111.l0 (k + 1) x y (x.length : Int) (j : Int) = _
   rw [e, hq, if_pos rfl]
  | false =>
   refine Ev.step (Ev.pure _) (fun k => ?_)
   show api_Grade_111.l0 (k + 1) x y (x.length : Int) (j : Int) = _
   rw [e, hq]
   rfl
theorem equal_ev (x y : List S36) (hx : x.length ≤ 1000000) : Ev (fun k => api_Grade_111.f k x y) (lqG x y) := by
 unfold api_Grade_111.f
 by_cases h : (x.length : Int) = (y.length : Int)
 ·rw [show (fun k => if (x.length : Int) = (y.length : Int) then api_Grade_111.l0 k x y (x.length : Int) 0 else some false) = fun k => api_Grade_111.l0 k x y (x.length : Int) 0 from funext fun k => if_pos h]
  have := equal_l0 x y (by omega) x.length 0 (by omega) hx
  simpa using this
 ·simp only [h, if_false]
  refine (Ev.pure false).to ?_
  cases hq : lqG x y with
  | false => rfl
  | true => exact absurd (by rw [lqG_iff.1 hq]) h
def anB (l : List S36) : Bool := decide (lsF l 256 = 0) && lqG (exF belowG l) l
theorem lsF_iff {l : List S36} {m : Int} : lsF l m = 0 ↔ (l.length : Int) ≤ m ∧ ∀ x ∈ l, gok x = true := by
 unfold lsF
 by_cases h : m < (l.length : Int)
 ·rw [if_pos h]
  exact ⟨fun h => absurd h (by decide), fun h2 => absurd h2.1 (by omega)⟩
 ·rw [if_neg h]
  by_cases h2 : l.any (fun x => !gok x) = true
  ·rw [if_pos h2]
   refine ⟨fun h => absurd h (by decide), fun h3 => ?_⟩
   obtain ⟨x, hx, hn⟩ := List.any_eq_true.1 h2
   rw [h3.2 x hx] at hn
   exact absurd hn (by decide)
  ·rw [if_neg h2]
   refine ⟨fun _ => ⟨by omega, fun x hx => ?_⟩, fun _ => rfl⟩
   cases hq : gok x with
   | true => rfl
   | false => exact absurd (List.any_eq_true.2 ⟨x, hx, by rw [hq]; rfl⟩) h2
theorem anB_iff {l : List S36} : anB l = true ↔ Anti l := by
 unfold anB
 rw [Bool.and_eq_true, decide_eq_true_eq, lsF_iff, lqG_iff]
 constructor
 ·rintro ⟨⟨_, h1⟩, h2⟩; exact anti_of_least h1 h2
 ·intro h
  have := h.short
  exact ⟨⟨by omega, h.1⟩, h.least⟩
theorem exF_len (rule : S36 → S36 → Bool) (l : List S36) : (exF rule l).length ≤ l.length := by
 unfold exF sortG
 rw [List.length_mergeSort]
 exact exGo_len rule l l.length
theorem antichain_ev (l : List S36) (hl : l.length ≤ 1000000) : Ev (fun k => grade_antichain.f k l) (anB l) := by
 unfold grade_antichain.f grade_listed.f anB
 simp only [Option.bind_some]
 by_cases h : lsF l 256 = 0
 ·simp only [h, if_true, decide_true, Bool.true_and]
  unfold grade_least.f
  simp only [show l.length < 5000000000000 by omega, if_true, Option.bind_some]
  refine Ev.same (equal_ev _ _ (Nat.le_trans (exF_len _ _) hl)) (fun k => ?_)
  cases api_Grade_111.f k (exF belowG l) l <;> rfl
 ·simp only [h, if_false, decide_false, Bool.false_and]
  exact Ev.pure _
theorem refList_l0 (l : List S36) : ∀ m (j : Nat), j + m = l.length → l.length ≤ 1000000 → Ev (fun k => kimberliteref02_List.l0 k l (j : Int)) (if (l.drop j).any (fun x => !gok x) = true then 2 else 0)
 | 0, j, hj, hx => by
  rw [List.drop_eq_nil_of_le (by omega)]
  refine Ev.step (Ev.pure _) (fun k => ?_)
  show kimberliteref02_List.l0 (k + 1) l (j : Int) = _
  rw [kimberliteref02_List.l0, if_neg (by omega)]
  rfl
 | m + 1, j, hj, hx => by
  have h1 : j < l.length := by omega
  rw [List.drop_eq_getElem_cons h1, List.any_cons]
  have e : ∀ k, kimberliteref02_List.l0 (k + 1) l (j : Int) = if gok l[j] = true then kimberliteref02_List.l0 k l ((j + 1 : Nat) : Int) else some 2 := fun k => by
   rw [kimberliteref02_List.l0, if_pos (by omega), if_pos (by omega), rdG l j h1, sucN (by omega)]
   rfl
  cases hq : gok l[j] with
  | true =>
   refine Ev.step (refList_l0 l m (j + 1) (by omega) hx) (fun k => ?_)
   show kimberliteref02_List.l0 (k + 1) l (j : Int) = _
   rw [e, hq, if_pos rfl]
  | false =>
   refine Ev.step (Ev.pure _) (fun k => ?_)
   show kimberliteref02_List.l0 (k + 1) l (j : Int) = _
   rw [e, hq]
   rfl
theorem refList_ev (l : List S36) (most : Int) (hl : l.length ≤ 1000000) : Ev (fun k => kimberliteref02_List.f k l most) (lsF l most) := by
 unfold kimberliteref02_List.f lsF
 by_cases h : most < (l.length : Int)
 ·simp only [gt_iff_lt, h, if_true]
  exact Ev.pure _
 ·simp only [gt_iff_lt, h, if_false]
  have := refList_l0 l l.length 0 (by omega) hl
  simpa using this
def nthG (n : Nat) : S36 := ⟨((n / 144 : Nat) : Int), ((n / 12 % 12 : Nat) : Int), ((n % 12 : Nat) : Int)⟩
def plN (x : S36) : Nat := ((x.f0 * 12 + x.f1) * 12 + x.f2).toNat
theorem all_nth : allL = (List.range 1728).map nthG := by kernel_rfl
def rowB (U : S36 → Bool) : List Bool := allL.map U
theorem rowB_len (U : S36 → Bool) : (rowB U).length = 1728 := by unfold rowB; rw [List.length_map]; exact allL_len
theorem rowB_get (U : S36 → Bool) (n : Nat) (h : n < 1728) : (rowB U)[n]? = some (U (nthG n)) := by
 unfold rowB
 rw [all_nth, List.map_map, List.getElem?_map, List.getElem?_range h]
 rfl
theorem rowB_rd (U : S36 → Bool) (n : Nat) (h : n < 1728) : rdOf false (rowB U) (n : Int) = U (nthG n) := by
 unfold rdOf
 rw [Int.toNat_natCast, List.getD_eq_getElem?_getD, rowB_get U n h]
 rfl
theorem gok_nth {n : Nat} (h : n < 1728) : gok (nthG n) = true := by
 rw [gok_iff]
 unfold nthG
 simp only
 omega
theorem pl_nth {n : Nat} (h : n < 1728) : plN (nthG n) = n := by
 unfold plN nthG
 simp only
 omega
theorem nth_pl {x : S36} (h : gok x = true) : nthG (plN x) = x ∧ plN x < 1728 := by
 rw [gok_iff] at h
 obtain ⟨a, b, c⟩ := x
 unfold nthG plN
 simp only at h ⊢
 simp only [S36.mk.injEq]
 omega
theorem place_f {x : S36} (h : gok x = true) : kimberliteref02_place.f x.f0 x.f1 x.f2 = some (plN x : Int) := by
 rw [gok_iff] at h
 unfold kimberliteref02_place.f plN
 rw [w64 (x := x.f0 * 12) (by omega) (by omega), w64 (x := x.f0 * 12 + x.f1) (by omega) (by omega), w64 (x := (x.f0 * 12 + x.f1) * 12) (by omega) (by omega), w64 (x := (x.f0 * 12 + x.f1) * 12 + x.f2) (by omega) (by omega)]
 congr 1
 omega
theorem nth_f {n : Nat} (h : n < 1728) : kimberliteref02_Nth.f (n : Int) = some ((nthG n).f0, (nthG n).f1, (nthG n).f2) := by
 unfold kimberliteref02_Nth.f nthG
 have h1 : Int.tdiv (n : Int) 144 = ((n / 144 : Nat) : Int) := by rw [Int.tdiv_eq_ediv_of_nonneg (by omega)]; rfl
 have h2 : Int.tdiv (n : Int) 12 = ((n / 12 : Nat) : Int) := by rw [Int.tdiv_eq_ediv_of_nonneg (by omega)]; rfl
 rw [h1, h2, w64 (by omega) (by omega), w64 (by omega) (by omega), Int.tmod_eq_emod_of_nonneg (by omega), Int.tmod_eq_emod_of_nonneg (by omega)]
 rfl
theorem rowB_ext {xs : List Bool} {U : S36 → Bool} (hl : xs.length = 1728) (h : ∀ n, n < 1728 → xs[n]? = some (U (nthG n))) : xs = rowB U := by
 refine List.ext_getElem? fun n => ?_
 by_cases hn : n < 1728
 ·rw [h n hn, rowB_get U n hn]
 ·rw [List.getElem?_eq_none (by omega), List.getElem?_eq_none (by rw [rowB_len]; omega)]
theorem rowB_set (U : S36 → Bool) {x : S36} (h : gok x = true) (b : Bool) : (rowB U).set (plN x) b = rowB fun g => if eqG g x = true then b else U g := by
 obtain ⟨h1, h2⟩ := nth_pl h
 refine rowB_ext (by rw [List.length_set, rowB_len]) fun n hn => ?_
 rw [List.getElem?_set]
 by_cases e : plN x = n
 ·subst e
  rw [if_pos rfl, if_pos (by rw [rowB_len]; omega), h1, eqG_iff.2 rfl, if_pos rfl]
 ·rw [if_neg e, rowB_get U n hn, if_neg (fun hq => e (by rw [← eqG_iff.1 hq, pl_nth hn]))]
theorem marks_l0 (l : List S36) (hv : ∀ x ∈ l, gok x = true) : ∀ m (j : Nat), j + m = l.length → l.length ≤ 1000000 → Ev (fun k => kimberliteref02_marks.l0 k l (rowB (isIn (l.take j))) (j : Int)) (rowB (isIn l))
 | 0, j, hj, hx => by
  refine Ev.step (Ev.pure _) (fun k => ?_)
  show kimberliteref02_marks.l0 (k + 1) l (rowB (isIn (l.take j))) (j : Int) = _
  rw [kimberliteref02_marks.l0, if_neg (by omega), List.take_of_length_le (by omega)]
 | m + 1, j, hj, hx => by
  have h1 : j < l.length := by omega
  have hg : gok l[j] = true := hv _ (List.getElem_mem h1)
  obtain ⟨_, h2⟩ := nth_pl hg
  refine Ev.step (marks_l0 l hv m (j + 1) (by omega) hx) (fun k => ?_)
  show kimberliteref02_marks.l0 (k + 1) l (rowB (isIn (l.take j))) (j : Int) = _
  rw [kimberliteref02_marks.l0, if_pos (by omega), if_pos (by omega), rdG l j h1, place_f hg, Option.bind_some, if_pos (by omega), if_pos (by rw [rowB_len]; omega), Int.toNat_natCast, rowB_set _ hg, sucN (by omega)]
  congr 2
  funext g
  rw [List.take_succ_eq_append_getElem h1]
  unfold isIn
  rw [List.any_append, List.any_cons, List.any_nil, Bool.or_false]
  cases eqG g l[j] <;> simp
theorem marks_ev (l : List S36) (hv : ∀ x ∈ l, gok x = true) (hl : l.length ≤ 1000000) : Ev (fun k => kimberliteref02_marks.f k l) (rowB (isIn l)) := by
 unfold kimberliteref02_marks.f
 simp only [show (1728 : Nat) ≤ 281474976710656 by omega, if_true]
 have h := marks_l0 l hv l.length 0 (by omega) hl
 have e : rowB (isIn (l.take 0)) = List.replicate 1728 false := by
  refine (rowB_ext List.length_replicate fun n hn => ?_).symm
  rw [List.getElem?_replicate, if_pos hn]
  rfl
 rw [e] at h
 exact h
end Go.Proofs.Ytnbdfmdjedakcaa.PP
namespace Go.Proofs.Ytnbdfmdjedakcaa
open Go.RowKit Go.Proofs.YtnbdfmdjedakcaaW.PrintWords Go.Proofs.YtnbdfmdjedakcaaW.PrintLast Go.Proofs.YtnbdfmdjedakcaaW.PrintMore PP
attribute [local go_sem high] eqA36
set_option linter.unusedVariables false
set_option linter.unusedSimpArgs false
def PredC (g : Nat) (lb : Array Value) (p : S36 → Bool) (w : World) : Prop :=
 ∀ (W : World) (x : S36), Below w.heap.size w W → Calls Try.prog g (#[gv x] ++ lb) W fun e w' => e = .returned (.bool (p x)) ∧ Below W.heap.size W w'
theorem pred82 (w : World) (cb : Nat) (A : Option Addr) (c : Nat) (l : List S36) (hcb : w.heap[cb]? = some (.cells #[.slice A l.length c] 41 (0, 0))) (hC : Kd.C k36 w A l.length l) :
  PredC 82 #[.pointer (some ⟨cb, 0, none⟩)] (fun g => !upS l g) w := fun W o hb => by
 have l1 : cb < w.heap.size := (Array.getElem?_eq_some_iff.1 hcb).1
 have hz := hb.size
 have g1 : W.heap[cb]? = _ := (hb.block cb l1).trans hcb
 have c0 : W.cell? ⟨cb, 0, none⟩ = some (.slice A l.length c) := (blk_cell g1 0).trans rfl
 have n1 : cb ≠ W.heap.size := by omega
 have n3 : cb < W.heap.size := by omega
 have hru := fun W1 (h : Below w.heap.size w W1) => in_any W1 A c l o (Kd.C_below hC h) _ rfl
 have HB := Hd.mk hb
 have HZ := Hd.mk hz
 clear g1 hcb hb hz l1 hC
 show Calls Try.prog 82 #[.agg #[.int .i64 o.f0, .int .i64 o.f1, .int .i64 o.f2], .pointer (some ⟨cb, 0, none⟩)] W fun e w' => e = .returned (.bool (!(l.any fun q => belowG q o))) ∧ Below W.heap.size W w'
 unfold gv at hru
 generalize (l.any fun q => belowG q o) = r at hru ⊢
 have HR := Hd.mk hru
 clear hru
 go_enter Try.func82, Try.ntmps82
 go_wp2_with (go_at_call 83; refine (HR.out _ (HB.out.alloc HZ.out _)).mono ?_; rintro e w' ⟨rfl, hb'⟩)
 go_ret
 exact ⟨rfl, ((Below.refl _ W).alloc (Nat.le_refl _) _).trans (hb'.mono (by simp))⟩
theorem pred86 (w : World) (gb : Nat) (x : S36) (hgb : w.heap[gb]? = some (.cells #[.int .i64 x.f0, .int .i64 x.f1, .int .i64 x.f2] 36 (0, 0))) :
  PredB 86 #[.pointer (some ⟨gb, 0, none⟩)] (fun o => belowG x o) w := fun W o hb => by
 have l1 : gb < w.heap.size := (Array.getElem?_eq_some_iff.1 hgb).1
 have hz := hb.size
 have g1 : W.heap[gb]? = _ := (hb.block gb l1).trans hgb
 have c0 : W.cell? ⟨gb, 0, none⟩ = some (.int .i64 x.f0) := (blk_cell g1 0).trans rfl
 have c1 : W.cell? ⟨gb, 1, none⟩ = some (.int .i64 x.f1) := (blk_cell g1 1).trans rfl
 have c2 : W.cell? ⟨gb, 2, none⟩ = some (.int .i64 x.f2) := (blk_cell g1 2).trans rfl
 have n1 : gb ≠ W.heap.size := by omega
 have n3 : gb < W.heap.size := by omega
 have hru := fun W => rule26 W x o
 have HB := Hd.mk hb
 have HZ := Hd.mk hz
 clear g1 hgb hb hz l1
 show Calls Try.prog 86 #[.agg #[.int .i64 o.f0, .int .i64 o.f1, .int .i64 o.f2], .pointer (some ⟨gb, 0, none⟩)] W fun e w' => e = .returned (.bool (belowG x o)) ∧ Below w.heap.size w w'
 unfold gv at hru
 generalize belowG x o = r at hru ⊢
 go_enter Try.func86, Try.ntmps86
 go_wp2_with (go_at_call 26; refine (hru _).mono ?_; rintro e w' ⟨rfl, hb'⟩)
 go_ret
 exact ⟨rfl, (HB.out.alloc HZ.out _).trans (hb'.mono (by simp; have := HZ.out; omega))⟩
theorem pred84 (w : World) (cb : Nat) (A : Option Addr) (c : Nat) (l : List S36) (hcb : w.heap[cb]? = some (.cells #[.slice A l.length c] 41 (0, 0))) (hC : Kd.C k36 w A l.length l) :
  PredC 84 #[.pointer (some ⟨cb, 0, none⟩)] (fun g => !l.any fun m => belowG g m) w := fun W o hb => by
 have eg : ∀ args w, (callFunc 86 args).run Try.prog w = .ok (.enter 86 args) w := enters_of Try.func86 (by kernel_rfl) rfl
 have l1 : cb < w.heap.size := (Array.getElem?_eq_some_iff.1 hcb).1
 have hz := hb.size
 have g1 : W.heap[cb]? = _ := (hb.block cb l1).trans hcb
 have c0 : W.cell? ⟨cb, 0, none⟩ = some (.slice A l.length c) := (blk_cell g1 0).trans rfl
 have n1 : cb ≠ W.heap.size := by omega
 have n3 : cb < W.heap.size := by omega
 have hru := containsF_any (W.alloc (.cells #[.int .i64 o.f0, .int .i64 o.f1, .int .i64 o.f2] 36)) 86 _ _ eg A c l (Kd.C_below hC (hb.alloc hz _)) (pred86 _ W.heap.size o (blk_new W _)) _ rfl
 clear g1 hcb hb hz l1 hC
 show Calls Try.prog 84 #[.agg #[.int .i64 o.f0, .int .i64 o.f1, .int .i64 o.f2], .pointer (some ⟨cb, 0, none⟩)] W fun e w' => e = .returned (.bool (!(l.any fun m => belowG o m))) ∧ Below W.heap.size W w'
 generalize (l.any fun m => belowG o m) = r at hru ⊢
 have HR := Hd.mk hru
 clear hru
 go_enter Try.func84, Try.ntmps84
 go_wp2_with (go_at_call 85; refine HR.out.mono ?_; rintro e w' ⟨rfl, hb'⟩)
 go_ret
 exact ⟨rfl, ((Below.refl _ W).alloc (Nat.le_refl _) _).trans (hb'.mono (by simp))⟩
set_option maxRecDepth 100000 in
set_option maxHeartbeats 8000000 in
theorem edge_any (w : World) (g : Nat) (lb : Array Value) (p : S36 → Bool) (eg : ∀ args w, (callFunc g args).run Try.prog w = .ok (.enter g args) w) (hp : PredC g lb p w) (s : Int) (h1 : -1 ≤ s) (h2 : s ≤ 1) :
  Calls Try.prog 81 #[.func (.func g) #[] lb, .int .i64 s] w fun e w' => ∃ v, e = .returned v ∧ Kd.R k36 36 w' w.heap.size (fun _ => True) v (edgeL p s) ∧ Below w.heap.size w w' := by
 have hu36 := Try.underlying36
 obtain ⟨k0, hk0⟩ := all_ev
 have hall := fun W => grade_all.calls k0 allL W (hk0 k0 (Nat.le_refl _))
 have HP := Hd.mk hp
 have hv : ∀ x ∈ allL, gok x = true := fun x hx => mem_all.1 hx
 have hE : edgeL p s = allL.filter fun g => p g && !hasNb p s g := rfl
 rw [hE]
 have hn : allL.length = 1728 := allL_len
 have HN0 := Hd.mk hn
 have HV := Hd.mk hv
 clear hE hp hk0 hv
 have hbig : allL.length ≤ 9223372036854775807 := by omega
 clear hn
 generalize allL = L at *
 have HALL := Hd.mk hall
 clear hall
 go_enter Try.func81, Try.ntmps81
 go_wp2_with fail
 go_step3
 go_wp2_with fail
 go_step3
 go_wp2_with (go_at_call 90; refine (HALL.out _).mono ?_; rintro e w1 ⟨v, rfl, hR, hb⟩; have HBW0 := Hd.mk hb; obtain ⟨A, c, rfl, hlc, hC⟩ := Kd.R_reads hR; have HC := Hd.mk hC; clear hR hb hC)
 go_loopg [5, 12] L.length (fun gg v5 v12 wr => ∃ (j : Nat) (xs : List S36), v12 = .int .i64 j ∧ j ≤ L.length ∧ L.length - j ≤ gg ∧ Hd (xs = (L.take j).filter fun g => p g && !hasNb p s g) ∧ Hd (Below w1.heap.size w1 wr) ∧ Hd (Kd.R k36 36 wr w1.heap.size (fun _ => True) v5 xs))
 case atStart => exact ⟨0, [], rfl, by omega, by omega, ⟨rfl⟩, ⟨Below.refl _ _⟩, ⟨Kd.R_nil _ _ _ _ _⟩⟩
 case round =>
  obtain ⟨j, xs, rfl, hj, hg, HXS, BW, HR⟩ := hrel
  by_cases hlt : j < L.length
  ·have hltz : (j : Int) < (L.length : Int) := by omega
   obtain ⟨ad, rfl, x0, x1, x2⟩ := at_T36 (Kd.C_below HC.out BW.out) (j : Int) (by omega) hltz
   rw [getB, Int.toNat_natCast] at x0 x1 x2
   obtain ⟨x, hx⟩ : ∃ x, L[j]! = x := ⟨_, rfl⟩
   rw [hx] at x0 x1 x2
   have hok : gok x = true := HV.out x (by rw [← hx, getElem!_pos L j hlt]; exact List.getElem_mem hlt)
   rw [gok_iff] at hok
   obtain ⟨⟨b1, b2⟩, ⟨b3, b4⟩, b5, b6⟩ := hok
   have HX := Hd.mk hx
   clear hx
   have SN := Hd.mk (show ((L.take (j + 1)).filter fun g => p g && !hasNb p s g) = ((L.take j).filter fun g => p g && !hasNb p s g) ++ (if (p x && !hasNb p s x) = true then [x] else []) by
    rw [List.take_succ_eq_append_getElem hlt, List.filter_append, ← HX.out, getElem!_pos L j hlt]
    congr 1
    by_cases h : (p L[j] && !hasNb p s L[j]) = true
    ·rw [if_pos h, List.filter_cons, if_pos h]; rfl
    ·rw [if_neg h, List.filter_cons, if_neg h]; rfl)
   have HBW := Hd.mk HBW0.out
   go_wp2_with fail
   refine (HP.out _ x (HBW.out.trans ((BW.out.alloc BW.out.size _).mono HBW.out.size))).mono ?_
   rintro e w2 ⟨rfl, hb2⟩
   have BW2 := Hd.mk ((BW.out.alloc BW.out.size (.cells #[.int .i64 x.f0, .int .i64 x.f1, .int .i64 x.f2] 36)).trans (hb2.mono (by have := BW.out.size; simp; omega)))
   have R2 := Hd.mk (Kd.R_below (Kd.R_below HR.out ((Below.refl _ wr).alloc (Nat.le_refl _) (.cells #[.int .i64 x.f0, .int .i64 x.f1, .int .i64 x.f2] 36))) hb2)
   have gb2 := (hb2.block wr.heap.size (by simp)).trans (blk_new wr (.cells #[.int .i64 x.f0, .int .i64 x.f1, .int .i64 x.f2] 36))
   have GB2 := Hd.mk gb2
   have LT2 := Hd.mk (Array.getElem?_eq_some_iff.1 gb2).1
   clear hb2 gb2 x0 x1 x2
   have B2 := Hd.mk BW2.out
   cases hpx : p x with
   | false =>
    have HPX := Hd.mk hpx
    clear hpx
    go_wp2_with fail
    go_roundg (L.length - (j + 1))
    case measure => omega
    case rel => exact ⟨j + 1, xs, by go_num, by omega, by omega, ⟨by rw [HXS.out, SN.out, HPX.out]; simp⟩, BW2, R2⟩
   | true =>
    have HPX := Hd.mk hpx
    clear hpx
    go_wp2_with fail
    obtain ⟨wo, rfl⟩ : ∃ z : World, z = wr := ⟨_, rfl⟩
    go_loopg [20] 3 (fun gg v20 wq => ∃ i : Nat, v20 = .int .i64 i ∧ i ≤ 3 ∧ 3 - i ≤ gg ∧ Hd (∀ q, q < i → ¬ (gok (nb x s q) = true ∧ p (nb x s q) = true)) ∧ Hd (Below w2.heap.size w2 wq))
    case atStart => exact ⟨0, rfl, by omega, by omega, ⟨fun q hq => absurd hq (Nat.not_lt_zero _)⟩, ⟨Below.refl _ _⟩⟩
    case round =>
     obtain ⟨i, rfl, hi, hgi, HN, BQ⟩ := hrel
     obtain ⟨wq, rfl⟩ : ∃ z : World, z = wr := ⟨_, rfl⟩
     have gbq := (BQ.out.block _ LT2.out).trans GB2.out
     have x0 : wq.cell? ⟨wo.heap.size, 0, none⟩ = some (.int .i64 x.f0) := (blk_cell gbq 0).trans rfl
     have x1 : wq.cell? ⟨wo.heap.size, 1, none⟩ = some (.int .i64 x.f1) := (blk_cell gbq 1).trans rfl
     have x2 : wq.cell? ⟨wo.heap.size, 2, none⟩ = some (.int .i64 x.f2) := (blk_cell gbq 2).trans rfl
     clear gbq
     by_cases hi3 : i < 3
     ·have hii : i = 0 ∨ i = 1 ∨ i = 2 := by omega
      rcases hii with rfl | rfl | rfl
      ·cases hv : gokB (x.f0 + s) (x.f1) (x.f2) with
       | false =>
        have HN2 := Hd.mk (show ∀ q, q < 0 + 1 → ¬ (gok (nb x s q) = true ∧ p (nb x s q) = true) from fun q hq h => by
         by_cases e : q = 0
         ·subst e; rw [show gok (nb x s 0) = gokB (x.f0 + s) (x.f1) (x.f2) from rfl, hv] at h; exact absurd h.1 (by decide)
         ·exact HN.out q (by omega) h)
        have hcall := fun W => valid_any W (x.f0 + s) (x.f1) (x.f2)
        rw [hv] at hcall
        clear hv
        go_wp2_with (go_at_call 88; refine (hcall _).mono ?_; rintro e w3 ⟨rfl, hb3⟩; have HB3 := Hd.mk hb3; clear hb3)
        go_roundg (3 - (0 + 1))
        case measure => omega
        case rel => exact ⟨0 + 1, by go_num, by omega, by omega, HN2, ⟨(BQ.out.alloc BQ.out.size _).trans (HB3.out.mono (by have := BQ.out.size; simp; omega))⟩⟩
       | true =>
        cases hp : p ⟨x.f0 + s, x.f1, x.f2⟩ with
        | false =>
         have HN2 := Hd.mk (show ∀ q, q < 0 + 1 → ¬ (gok (nb x s q) = true ∧ p (nb x s q) = true) from fun q hq h => by
          by_cases e : q = 0
          ·subst e; rw [show p (nb x s 0) = p ⟨x.f0 + s, x.f1, x.f2⟩ from rfl, hp] at h; exact absurd h.2 (by decide)
          ·exact HN.out q (by omega) h)
         have hcall := fun W => valid_any W (x.f0 + s) (x.f1) (x.f2)
         rw [hv] at hcall
         have HPN := Hd.mk hp
         clear hv hp
         go_wp2_with fail
         refine (hcall _).mono ?_
         rintro e w3 ⟨rfl, hb3⟩
         have HB3 := Hd.mk hb3
         have hz3 := hb3.size
         have gb3 := (hb3.block wq.heap.size (by simp)).trans (blk_new wq (.cells #[.int .i64 (x.f0 + s), .int .i64 (x.f1), .int .i64 (x.f2)] 36))
         have y0 : w3.cell? ⟨wq.heap.size, 0, none⟩ = some (.int .i64 (x.f0 + s)) := (blk_cell gb3 0).trans rfl
         have y1 : w3.cell? ⟨wq.heap.size, 1, none⟩ = some (.int .i64 (x.f1)) := (blk_cell gb3 1).trans rfl
         have y2 : w3.cell? ⟨wq.heap.size, 2, none⟩ = some (.int .i64 (x.f2)) := (blk_cell gb3 2).trans rfl
         have BQ3 := Hd.mk ((BQ.out.alloc BQ.out.size (.cells #[.int .i64 (x.f0 + s), .int .i64 (x.f1), .int .i64 (x.f2)] 36)).trans (HB3.out.mono (by have := BQ.out.size; simp; omega)))
         clear hb3 gb3 hz3
         go_wp2_with fail
         refine (HP.out _ ⟨x.f0 + s, x.f1, x.f2⟩ (HBW.out.trans (B2.out.trans (BQ3.out.mono B2.out.size) |>.mono HBW.out.size))).mono ?_
         rintro e w4 ⟨rfl, hb4⟩
         have HB4 := Hd.mk hb4
         rw [HPN.out]
         clear hb4
         go_wp2_with fail
         go_roundg (3 - (0 + 1))
         case measure => omega
         case rel => exact ⟨0 + 1, by go_num, by omega, by omega, HN2, ⟨BQ3.out.trans (HB4.out.mono BQ3.out.size)⟩⟩
        | true =>
         have HNB := Hd.mk (show hasNb p s x = true from hasNb_iff.2 ⟨0, by omega, hv, hp⟩)
         have hcall := fun W => valid_any W (x.f0 + s) (x.f1) (x.f2)
         rw [hv] at hcall
         have HPN := Hd.mk hp
         clear hv hp
         go_wp2_with fail
         refine (hcall _).mono ?_
         rintro e w3 ⟨rfl, hb3⟩
         have HB3 := Hd.mk hb3
         have hz3 := hb3.size
         have gb3 := (hb3.block wq.heap.size (by simp)).trans (blk_new wq (.cells #[.int .i64 (x.f0 + s), .int .i64 (x.f1), .int .i64 (x.f2)] 36))
         have y0 : w3.cell? ⟨wq.heap.size, 0, none⟩ = some (.int .i64 (x.f0 + s)) := (blk_cell gb3 0).trans rfl
         have y1 : w3.cell? ⟨wq.heap.size, 1, none⟩ = some (.int .i64 (x.f1)) := (blk_cell gb3 1).trans rfl
         have y2 : w3.cell? ⟨wq.heap.size, 2, none⟩ = some (.int .i64 (x.f2)) := (blk_cell gb3 2).trans rfl
         have BQ3 := Hd.mk ((BQ.out.alloc BQ.out.size (.cells #[.int .i64 (x.f0 + s), .int .i64 (x.f1), .int .i64 (x.f2)] 36)).trans (HB3.out.mono (by have := BQ.out.size; simp; omega)))
         clear hb3 gb3 hz3
         go_wp2_with fail
         refine (HP.out _ ⟨x.f0 + s, x.f1, x.f2⟩ (HBW.out.trans (B2.out.trans (BQ3.out.mono B2.out.size) |>.mono HBW.out.size))).mono ?_
         rintro e w4 ⟨rfl, hb4⟩
         have BQ4 := Hd.mk (BQ3.out.trans (hb4.mono BQ3.out.size))
         rw [HPN.out]
         clear hb4
         go_wp2_with fail
         go_roundg (L.length - (j + 1))
         case measure => omega
         case rel => exact ⟨j + 1, xs, by go_num, by omega, by omega, ⟨by rw [HXS.out, SN.out, HPX.out, HNB.out]; simp⟩, ⟨BW2.out.trans (BQ4.out.mono BW2.out.size)⟩, ⟨Kd.R_below R2.out BQ4.out⟩⟩
      ·cases hv : gokB (x.f0) (x.f1 + s) (x.f2) with
       | false =>
        have HN2 := Hd.mk (show ∀ q, q < 1 + 1 → ¬ (gok (nb x s q) = true ∧ p (nb x s q) = true) from fun q hq h => by
         by_cases e : q = 1
         ·subst e; rw [show gok (nb x s 1) = gokB (x.f0) (x.f1 + s) (x.f2) from rfl, hv] at h; exact absurd h.1 (by decide)
         ·exact HN.out q (by omega) h)
        have hcall := fun W => valid_any W (x.f0) (x.f1 + s) (x.f2)
        rw [hv] at hcall
        clear hv
        go_wp2_with (go_at_call 88; refine (hcall _).mono ?_; rintro e w3 ⟨rfl, hb3⟩; have HB3 := Hd.mk hb3; clear hb3)
        go_roundg (3 - (1 + 1))
        case measure => omega
        case rel => exact ⟨1 + 1, by go_num, by omega, by omega, HN2, ⟨(BQ.out.alloc BQ.out.size _).trans (HB3.out.mono (by have := BQ.out.size; simp; omega))⟩⟩
       | true =>
        cases hp : p ⟨x.f0, x.f1 + s, x.f2⟩ with
        | false =>
         have HN2 := Hd.mk (show ∀ q, q < 1 + 1 → ¬ (gok (nb x s q) = true ∧ p (nb x s q) = true) from fun q hq h => by
          by_cases e : q = 1
          ·subst e; rw [show p (nb x s 1) = p ⟨x.f0, x.f1 + s, x.f2⟩ from rfl, hp] at h; exact absurd h.2 (by decide)
          ·exact HN.out q (by omega) h)
         have hcall := fun W => valid_any W (x.f0) (x.f1 + s) (x.f2)
         rw [hv] at hcall
         have HPN := Hd.mk hp
         clear hv hp
         go_wp2_with fail
         refine (hcall _).mono ?_
         rintro e w3 ⟨rfl, hb3⟩
         have HB3 := Hd.mk hb3
         have hz3 := hb3.size
         have gb3 := (hb3.block wq.heap.size (by simp)).trans (blk_new wq (.cells #[.int .i64 (x.f0), .int .i64 (x.f1 + s), .int .i64 (x.f2)] 36))
         have y0 : w3.cell? ⟨wq.heap.size, 0, none⟩ = some (.int .i64 (x.f0)) := (blk_cell gb3 0).trans rfl
         have y1 : w3.cell? ⟨wq.heap.size, 1, none⟩ = some (.int .i64 (x.f1 + s)) := (blk_cell gb3 1).trans rfl
         have y2 : w3.cell? ⟨wq.heap.size, 2, none⟩ = some (.int .i64 (x.f2)) := (blk_cell gb3 2).trans rfl
         have BQ3 := Hd.mk ((BQ.out.alloc BQ.out.size (.cells #[.int .i64 (x.f0), .int .i64 (x.f1 + s), .int .i64 (x.f2)] 36)).trans (HB3.out.mono (by have := BQ.out.size; simp; omega)))
         clear hb3 gb3 hz3
         go_wp2_with fail
         refine (HP.out _ ⟨x.f0, x.f1 + s, x.f2⟩ (HBW.out.trans (B2.out.trans (BQ3.out.mono B2.out.size) |>.mono HBW.out.size))).mono ?_
         rintro e w4 ⟨rfl, hb4⟩
         have HB4 := Hd.mk hb4
         rw [HPN.out]
         clear hb4
         go_wp2_with fail
         go_roundg (3 - (1 + 1))
         case measure => omega
         case rel => exact ⟨1 + 1, by go_num, by omega, by omega, HN2, ⟨BQ3.out.trans (HB4.out.mono BQ3.out.size)⟩⟩
        | true =>
         have HNB := Hd.mk (show hasNb p s x = true from hasNb_iff.2 ⟨1, by omega, hv, hp⟩)
         have hcall := fun W => valid_any W (x.f0) (x.f1 + s) (x.f2)
         rw [hv] at hcall
         have HPN := Hd.mk hp
         clear hv hp
         go_wp2_with fail
         refine (hcall _).mono ?_
         rintro e w3 ⟨rfl, hb3⟩
         have HB3 := Hd.mk hb3
         have hz3 := hb3.size
         have gb3 := (hb3.block wq.heap.size (by simp)).trans (blk_new wq (.cells #[.int .i64 (x.f0), .int .i64 (x.f1 + s), .int .i64 (x.f2)] 36))
         have y0 : w3.cell? ⟨wq.heap.size, 0, none⟩ = some (.int .i64 (x.f0)) := (blk_cell gb3 0).trans rfl
         have y1 : w3.cell? ⟨wq.heap.size, 1, none⟩ = some (.int .i64 (x.f1 + s)) := (blk_cell gb3 1).trans rfl
         have y2 : w3.cell? ⟨wq.heap.size, 2, none⟩ = some (.int .i64 (x.f2)) := (blk_cell gb3 2).trans rfl
         have BQ3 := Hd.mk ((BQ.out.alloc BQ.out.size (.cells #[.int .i64 (x.f0), .int .i64 (x.f1 + s), .int .i64 (x.f2)] 36)).trans (HB3.out.mono (by have := BQ.out.size; simp; omega)))
         clear hb3 gb3 hz3
         go_wp2_with fail
         refine (HP.out _ ⟨x.f0, x.f1 + s, x.f2⟩ (HBW.out.trans (B2.out.trans (BQ3.out.mono B2.out.size) |>.mono HBW.out.size))).mono ?_
         rintro e w4 ⟨rfl, hb4⟩
         have BQ4 := Hd.mk (BQ3.out.trans (hb4.mono BQ3.out.size))
         rw [HPN.out]
         clear hb4
         go_wp2_with fail
         go_roundg (L.length - (j + 1))
         case measure => omega
         case rel => exact ⟨j + 1, xs, by go_num, by omega, by omega, ⟨by rw [HXS.out, SN.out, HPX.out, HNB.out]; simp⟩, ⟨BW2.out.trans (BQ4.out.mono BW2.out.size)⟩, ⟨Kd.R_below R2.out BQ4.out⟩⟩
      ·cases hv : gokB (x.f0) (x.f1) (x.f2 + s) with
       | false =>
        have HN2 := Hd.mk (show ∀ q, q < 2 + 1 → ¬ (gok (nb x s q) = true ∧ p (nb x s q) = true) from fun q hq h => by
         by_cases e : q = 2
         ·subst e; rw [show gok (nb x s 2) = gokB (x.f0) (x.f1) (x.f2 + s) from rfl, hv] at h; exact absurd h.1 (by decide)
         ·exact HN.out q (by omega) h)
        have hcall := fun W => valid_any W (x.f0) (x.f1) (x.f2 + s)
        rw [hv] at hcall
        clear hv
        go_wp2_with (go_at_call 88; refine (hcall _).mono ?_; rintro e w3 ⟨rfl, hb3⟩; have HB3 := Hd.mk hb3; clear hb3)
        go_roundg (3 - (2 + 1))
        case measure => omega
        case rel => exact ⟨2 + 1, by go_num, by omega, by omega, HN2, ⟨(BQ.out.alloc BQ.out.size _).trans (HB3.out.mono (by have := BQ.out.size; simp; omega))⟩⟩
       | true =>
        cases hp : p ⟨x.f0, x.f1, x.f2 + s⟩ with
        | false =>
         have HN2 := Hd.mk (show ∀ q, q < 2 + 1 → ¬ (gok (nb x s q) = true ∧ p (nb x s q) = true) from fun q hq h => by
          by_cases e : q = 2
          ·subst e; rw [show p (nb x s 2) = p ⟨x.f0, x.f1, x.f2 + s⟩ from rfl, hp] at h; exact absurd h.2 (by decide)
          ·exact HN.out q (by omega) h)
         have hcall := fun W => valid_any W (x.f0) (x.f1) (x.f2 + s)
         rw [hv] at hcall
         have HPN := Hd.mk hp
         clear hv hp
         go_wp2_with fail
         refine (hcall _).mono ?_
         rintro e w3 ⟨rfl, hb3⟩
         have HB3 := Hd.mk hb3
         have hz3 := hb3.size
         have gb3 := (hb3.block wq.heap.size (by simp)).trans (blk_new wq (.cells #[.int .i64 (x.f0), .int .i64 (x.f1), .int .i64 (x.f2 + s)] 36))
         have y0 : w3.cell? ⟨wq.heap.size, 0, none⟩ = some (.int .i64 (x.f0)) := (blk_cell gb3 0).trans rfl
         have y1 : w3.cell? ⟨wq.heap.size, 1, none⟩ = some (.int .i64 (x.f1)) := (blk_cell gb3 1).trans rfl
         have y2 : w3.cell? ⟨wq.heap.size, 2, none⟩ = some (.int .i64 (x.f2 + s)) := (blk_cell gb3 2).trans rfl
         have BQ3 := Hd.mk ((BQ.out.alloc BQ.out.size (.cells #[.int .i64 (x.f0), .int .i64 (x.f1), .int .i64 (x.f2 + s)] 36)).trans (HB3.out.mono (by have := BQ.out.size; simp; omega)))
         clear hb3 gb3 hz3
         go_wp2_with fail
         refine (HP.out _ ⟨x.f0, x.f1, x.f2 + s⟩ (HBW.out.trans (B2.out.trans (BQ3.out.mono B2.out.size) |>.mono HBW.out.size))).mono ?_
         rintro e w4 ⟨rfl, hb4⟩
         have HB4 := Hd.mk hb4
         rw [HPN.out]
         clear hb4
         go_wp2_with fail
         go_roundg (3 - (2 + 1))
         case measure => omega
         case rel => exact ⟨2 + 1, by go_num, by omega, by omega, HN2, ⟨BQ3.out.trans (HB4.out.mono BQ3.out.size)⟩⟩
        | true =>
         have HNB := Hd.mk (show hasNb p s x = true from hasNb_iff.2 ⟨2, by omega, hv, hp⟩)
         have hcall := fun W => valid_any W (x.f0) (x.f1) (x.f2 + s)
         rw [hv] at hcall
         have HPN := Hd.mk hp
         clear hv hp
         go_wp2_with fail
         refine (hcall _).mono ?_
         rintro e w3 ⟨rfl, hb3⟩
         have HB3 := Hd.mk hb3
         have hz3 := hb3.size
         have gb3 := (hb3.block wq.heap.size (by simp)).trans (blk_new wq (.cells #[.int .i64 (x.f0), .int .i64 (x.f1), .int .i64 (x.f2 + s)] 36))
         have y0 : w3.cell? ⟨wq.heap.size, 0, none⟩ = some (.int .i64 (x.f0)) := (blk_cell gb3 0).trans rfl
         have y1 : w3.cell? ⟨wq.heap.size, 1, none⟩ = some (.int .i64 (x.f1)) := (blk_cell gb3 1).trans rfl
         have y2 : w3.cell? ⟨wq.heap.size, 2, none⟩ = some (.int .i64 (x.f2 + s)) := (blk_cell gb3 2).trans rfl
         have BQ3 := Hd.mk ((BQ.out.alloc BQ.out.size (.cells #[.int .i64 (x.f0), .int .i64 (x.f1), .int .i64 (x.f2 + s)] 36)).trans (HB3.out.mono (by have := BQ.out.size; simp; omega)))
         clear hb3 gb3 hz3
         go_wp2_with fail
         refine (HP.out _ ⟨x.f0, x.f1, x.f2 + s⟩ (HBW.out.trans (B2.out.trans (BQ3.out.mono B2.out.size) |>.mono HBW.out.size))).mono ?_
         rintro e w4 ⟨rfl, hb4⟩
         have BQ4 := Hd.mk (BQ3.out.trans (hb4.mono BQ3.out.size))
         rw [HPN.out]
         clear hb4
         go_wp2_with fail
         go_roundg (L.length - (j + 1))
         case measure => omega
         case rel => exact ⟨j + 1, xs, by go_num, by omega, by omega, ⟨by rw [HXS.out, SN.out, HPX.out, HNB.out]; simp⟩, ⟨BW2.out.trans (BQ4.out.mono BW2.out.size)⟩, ⟨Kd.R_below R2.out BQ4.out⟩⟩
     ·obtain rfl : i = 3 := by omega
      have HNB := Hd.mk (show hasNb p s x = false by
       cases hq : hasNb p s x with
       | false => rfl
       | true => obtain ⟨q, hq3, h⟩ := hasNb_iff.1 hq; exact absurd h (HN.out q hq3))
      have HLN := Hd.mk (show xs.length ≤ 1728 by
       rw [HXS.out, ← HN0.out]
       exact Nat.le_trans (List.length_filter_le _ _) (by simp; omega))
      have RQ := Hd.mk (Kd.R_below R2.out BQ.out)
      have BWQ := Hd.mk (BW2.out.trans (BQ.out.mono BW2.out.size))
      go_wp2_with (((with_reducible refine gate_builtin (b := .append) (xs := #[.tmp 38, .tmp 40]) rfl ?_); at_builtin; refine Kd.R_append k36 (w0 := w1) w1.heap.size rfl (.tmp 38) (.tmp 40) 41 36 (.agg #[(.int .i64 0), (.int .i64 0), (.int .i64 0)]) 24 rfl Try.underlying41 info36 rfl (by decide) (by omega) u5 _ x [.int .i64 x.f0, .int .i64 x.f1, .int .i64 x.f2] (fun _ => True) (fun _ => False) rfl rfl ?aP (fun _ hk => hk.elim) (fun _ _ => trivial) RQ.out BWQ.out ?aS ?aL ?_; (case aP => exact k36_mkM _ _ _ x); (case aS => exact BWQ.out.size); (case aL => have := HLN.out; omega); intro v5 w5 ho hb hg2 hat; have HO5 := Hd.mk ho; have HB5 := Hd.mk hb; clear ho hb hg2 hat))
      go_roundg (L.length - (j + 1))
      case measure => omega
      case rel => exact ⟨j + 1, _, by go_num, by omega, by omega, ⟨by rw [HXS.out, SN.out, HPX.out, HNB.out]; simp⟩, HB5, HO5⟩
  ·have hltz : ¬ (j : Int) < (L.length : Int) := by omega
   have HE := Hd.mk (show xs = L.filter fun g => p g && !hasNb p s g by rw [HXS.out, List.take_of_length_le (by omega)])
   go_wp2_with fail
   go_ret
   exact ⟨_, rfl, by rw [← HE.out]; exact Kd.R_lower HR.out HBW0.out.size, HBW0.out.trans (BW.out.mono HBW0.out.size)⟩
end Go.Proofs.Ytnbdfmdjedakcaa
namespace Go.Proofs.Ytnbdfmdjedakcaa
open Go.RowKit Go.Proofs.YtnbdfmdjedakcaaW.PrintWords Go.Proofs.YtnbdfmdjedakcaaW.PrintLast Go.Proofs.YtnbdfmdjedakcaaW.PrintMore PP
set_option linter.unusedVariables false
set_option linter.unusedSimpArgs false
theorem antichain_any (w : World) (A : Option Addr) (c : Nat) (l : List S36) (hC : Kd.C k36 w A l.length l) (hc : l.length ≤ c) (hl : l.length ≤ 1000000) (r : Bool) (hr : anB l = r) :
  Calls Try.prog 80 #[.slice A l.length c] w fun e w' => e = .returned (.bool r) ∧ Below w.heap.size w w' := by
 obtain ⟨k, hk⟩ := antichain_ev l hl
 subst hr
 exact grade_antichain.calls k A c l _ w hC hc (hk k (Nat.le_refl _))
def outF (l : List S36) : List S36 × Int := if anB l = true then (edgeL (fun g => !upS l g) 1, 0) else ([], 2)
def beyF (l : List S36) : List S36 × Int := if anB l = true then (edgeL (fun g => !l.any fun m => belowG g m) (-1), 0) else ([], 2)
set_option maxHeartbeats 2000000 in
theorem outside_any (w : World) (A : Option Addr) (c : Nat) (l : List S36) (hC : Kd.C k36 w A l.length l) (hc : l.length ≤ c) (hl : l.length ≤ 1000000) :
  Calls Try.prog 48 #[.slice A l.length c] w fun e w' => ∃ v, e = .returned (.tuple #[v, .int .i64 (outF l).2]) ∧ Kd.R k36 36 w' w.heap.size (fun _ => True) v (outF l).1 ∧ Below w.heap.size w w' := by
 have eg : ∀ args w, (callFunc 82 args).run Try.prog w = .ok (.enter 82 args) w := enters_of Try.func82 (by kernel_rfl) rfl
 have HA := Hd.mk (fun W (h : Below w.heap.size w W) => antichain_any W A c l (Kd.C_below hC h) hc hl)
 have HC := Hd.mk hC
 have B1 := Hd.mk ((Below.refl _ w).alloc (Nat.le_refl _) (.cells #[.slice A l.length c] 41))
 clear hC hc hl
 unfold outF
 cases hq : anB l with
 | false =>
  rw [if_neg (by decide)]
  simp only
  have HQ := Hd.mk hq
  clear hq
  go_enter Try.func48, Try.ntmps48
  go_wp2_with (go_at_call 80; refine (HA.out _ B1.out false HQ.out).mono ?_; rintro e w1 ⟨rfl, hb⟩; have HB := Hd.mk hb; clear hb)
  go_ret2
  exact ⟨_, rfl, Kd.R_nil _ _ _ _ _, B1.out.trans (HB.out.mono (by simp))⟩
 | true =>
  rw [if_pos rfl]
  simp only
  have HQ := Hd.mk hq
  clear hq
  go_enter Try.func48, Try.ntmps48
  go_wp2_with fail
  refine (HA.out _ B1.out true HQ.out).mono ?_
  rintro e w1 ⟨rfl, hb⟩
  have gb := (hb.block w.heap.size (by simp)).trans (blk_new w (.cells #[.slice A l.length c] 41))
  have c0 : w1.cell? ⟨w.heap.size, 0, none⟩ = some (.slice A l.length c) := (blk_cell gb 0).trans rfl
  have B2 := Hd.mk (B1.out.trans (hb.mono (by simp)))
  have HE := Hd.mk (edge_any w1 82 _ _ eg (pred82 w1 w.heap.size A c l gb (Kd.C_below HC.out B2.out)) 1 (by decide) (by decide))
  clear hb gb
  go_wp2_with fail
  refine HE.out.mono ?_
  rintro e w2 ⟨v, rfl, hR, hb2⟩
  have HR := Hd.mk hR
  have HB2 := Hd.mk hb2
  clear hR hb2 c0
  go_wp2_with fail
  go_ret2
  exact ⟨_, rfl, Kd.R_lower HR.out B2.out.size, B2.out.trans (HB2.out.mono B2.out.size)⟩
set_option maxHeartbeats 2000000 in
theorem beyond_any (w : World) (A : Option Addr) (c : Nat) (l : List S36) (hC : Kd.C k36 w A l.length l) (hc : l.length ≤ c) (hl : l.length ≤ 1000000) :
  Calls Try.prog 49 #[.slice A l.length c] w fun e w' => ∃ v, e = .returned (.tuple #[v, .int .i64 (beyF l).2]) ∧ Kd.R k36 36 w' w.heap.size (fun _ => True) v (beyF l).1 ∧ Below w.heap.size w w' := by
 have eg : ∀ args w, (callFunc 84 args).run Try.prog w = .ok (.enter 84 args) w := enters_of Try.func84 (by kernel_rfl) rfl
 have HA := Hd.mk (fun W (h : Below w.heap.size w W) => antichain_any W A c l (Kd.C_below hC h) hc hl)
 have HC := Hd.mk hC
 have B1 := Hd.mk ((Below.refl _ w).alloc (Nat.le_refl _) (.cells #[.slice A l.length c] 41))
 clear hC hc hl
 unfold beyF
 cases hq : anB l with
 | false =>
  rw [if_neg (by decide)]
  simp only
  have HQ := Hd.mk hq
  clear hq
  go_enter Try.func49, Try.ntmps49
  go_wp2_with (go_at_call 80; refine (HA.out _ B1.out false HQ.out).mono ?_; rintro e w1 ⟨rfl, hb⟩; have HB := Hd.mk hb; clear hb)
  go_ret2
  exact ⟨_, rfl, Kd.R_nil _ _ _ _ _, B1.out.trans (HB.out.mono (by simp))⟩
 | true =>
  rw [if_pos rfl]
  simp only
  have HQ := Hd.mk hq
  clear hq
  go_enter Try.func49, Try.ntmps49
  go_wp2_with fail
  refine (HA.out _ B1.out true HQ.out).mono ?_
  rintro e w1 ⟨rfl, hb⟩
  have gb := (hb.block w.heap.size (by simp)).trans (blk_new w (.cells #[.slice A l.length c] 41))
  have c0 : w1.cell? ⟨w.heap.size, 0, none⟩ = some (.slice A l.length c) := (blk_cell gb 0).trans rfl
  have B2 := Hd.mk (B1.out.trans (hb.mono (by simp)))
  have HE := Hd.mk (edge_any w1 84 _ _ eg (pred84 w1 w.heap.size A c l gb (Kd.C_below HC.out B2.out)) (-1) (by decide) (by decide))
  clear hb gb
  go_wp2_with fail
  refine HE.out.mono ?_
  rintro e w2 ⟨v, rfl, hR, hb2⟩
  have HR := Hd.mk hR
  have HB2 := Hd.mk hb2
  clear hR hb2 c0
  go_wp2_with fail
  go_ret2
  exact ⟨_, rfl, Kd.R_lower HR.out B2.out.size, B2.out.trans (HB2.out.mono B2.out.size)⟩
end Go.Proofs.Ytnbdfmdjedakcaa
namespace Go.Proofs.Ytnbdfmdjedakcaa
open Go.RowKit Go.Proofs.YtnbdfmdjedakcaaW.PrintWords Go.Proofs.YtnbdfmdjedakcaaW.PrintLast Go.Proofs.YtnbdfmdjedakcaaW.PrintMore PP
set_option linter.unusedVariables false
set_option linter.unusedSimpArgs false
def m12 (v : Int) : Int := (v % 18446744073709551616) % 12
theorem m12_lv (v : Int) : lvB (m12 v) = true := by rw [lvB_true]; unfold m12; omega
def modG (x : S36) : S36 := ⟨m12 x.f0, m12 x.f1, m12 x.f2⟩
theorem gok_mod (x : S36) : gok (modG x) = true := by
 unfold gok gokB modG
 simp only [m12_lv, Bool.and_self]
def classF (l : List S36) : List S36 := exF belowG ((l.take 60).map modG)
theorem classF_anti (l : List S36) : Anti (classF l) := anti_ex fun x hx => by
 obtain ⟨y, _, rfl⟩ := List.mem_map.1 hx
 exact gok_mod y
def pm (k j : Nat) (v : Int) : Int := if j < k then m12 v else v
theorem conv12 (v : Int) : wrap64 ((IntKind.u64.wrap v).tmod 12) = m12 v := by
 have h : IntKind.u64.wrap v = v % 18446744073709551616 := rfl
 have h2 : 0 ≤ v % 18446744073709551616 := Int.emod_nonneg _ (by decide)
 rw [h, Int.tmod_eq_emod_of_nonneg h2]
 unfold m12
 generalize v % 18446744073709551616 = z at *
 rw [PP.w64 (by omega) (by omega)]
theorem leastC_f (l : List S36) : ∃ z, grade_Least.f ((l.take 60).map modG) = some (classF l, z) := by
 unfold grade_Least.f grade_listed.f grade_least.f
 have h1 : ((l.take 60).map modG).length ≤ 60 := by simp; omega
 have h2 : lsF ((l.take 60).map modG) 256 = 0 := by
  unfold lsF
  rw [if_neg (by omega), if_neg]
  intro h
  obtain ⟨x, hx, hn⟩ := List.any_eq_true.1 h
  obtain ⟨y, _, rfl⟩ := List.mem_map.1 hx
  rw [gok_mod] at hn
  exact absurd hn (by decide)
 simp only [Option.bind_some, h2, if_true]
 rw [if_pos (by omega)]
 exact ⟨0, rfl⟩
set_option maxRecDepth 100000 in
set_option maxHeartbeats 8000000 in
theorem class_any (w : World) (A : Option Addr) (c : Nat) (l : List S36) (hC : Kd.C k36 w A l.length l) :
  Calls Try.prog 47 #[.slice A l.length c] w fun e w' => ∃ v, e = .returned v ∧ Kd.R k36 36 w' w.heap.size (fun _ => True) v (classF l) ∧ Below w.heap.size w w' := by
 have hu36 := Try.underlying36
 have HC := Hd.mk hC
 have hbig : l.length ≤ 9223372036854775807 := hC.2.1
 obtain ⟨z, hz⟩ := leastC_f l
 have HZ := Hd.mk hz
 clear hC hz
 go_enter Try.func47, Try.ntmps47
 go_wp2_with fail
 go_loopg [3, 4] 60 (fun gg v3 v4 wr => ∃ (i : Nat) (xs : List S36), v4 = .int .i64 i ∧ i ≤ l.length ∧ i ≤ 60 ∧ 60 - i ≤ gg ∧ Hd (xs = (l.take i).map modG) ∧ Hd (Kd.R k36 36 wr w.heap.size (fun _ => True) v3 xs) ∧ Hd (Below w.heap.size w wr))
 case atStart => exact ⟨0, [], rfl, by omega, by omega, by omega, ⟨rfl⟩, ⟨Kd.R_nil _ _ _ _ _⟩, ⟨Below.refl _ _⟩⟩
 case round =>
  obtain ⟨i, xs, rfl, hi, hi60, hg, HXS, HR, HB⟩ := hrel
  by_cases hlt : i < l.length
  ·have hltz : (i : Int) < (l.length : Int) := by omega
   by_cases h60 : i < 60
   ·have h60z : (i : Int) < 60 := by omega
    obtain ⟨ad, rfl, x0, x1, x2⟩ := at_T36 (Kd.C_below HC.out HB.out) (i : Int) (by omega) hltz
    rw [getB, Int.toNat_natCast] at x0 x1 x2
    obtain ⟨x, hx⟩ : ∃ x, l[i]! = x := ⟨_, rfl⟩
    rw [hx] at x0 x1 x2
    have HX := Hd.mk hx
    clear hx
    go_wp2_with fail
    obtain ⟨wo, rfl⟩ : ∃ wo : World, wo = wr := ⟨_, rfl⟩
    go_loopg [6] 3 (fun gg v6 wq => ∃ (k : Nat) (p q r : Int), v6 = .int .i64 k ∧ k ≤ 3 ∧ 3 - k ≤ gg ∧ Hd (p = pm k 0 x.f0 ∧ q = pm k 1 x.f1 ∧ r = pm k 2 x.f2) ∧ wq = wo.alloc (.cells #[.int .i64 p, .int .i64 q, .int .i64 r] 36))
    case atStart => exact ⟨0, _, _, _, rfl, by omega, by omega, ⟨rfl, rfl, rfl⟩, rfl⟩
    case round =>
     obtain ⟨k, p, q, r, rfl, hk, hg2, HV, rfl⟩ := hrel
     by_cases hk3 : k < 3
     ·have hkk : k = 0 ∨ k = 1 ∨ k = 2 := by omega
      clear x0 x1 x2
      rcases hkk with rfl | rfl | rfl
      ·go_wp2_with fail
       go_roundg (3 - 1)
       case measure => omega
       case rel =>
        obtain ⟨rfl, rfl, rfl⟩ := HV.out
        refine ⟨1, _, _, _, by go_num, by omega, by omega, ⟨?_⟩, rfl⟩
        exact ⟨conv12 _, rfl, rfl⟩
      ·go_wp2_with fail
       go_roundg (3 - 2)
       case measure => omega
       case rel =>
        obtain ⟨rfl, rfl, rfl⟩ := HV.out
        refine ⟨2, _, _, _, by go_num, by omega, by omega, ⟨?_⟩, rfl⟩
        exact ⟨rfl, conv12 _, rfl⟩
      ·go_wp2_with fail
       go_roundg (3 - 3)
       case measure => omega
       case rel =>
        obtain ⟨rfl, rfl, rfl⟩ := HV.out
        refine ⟨3, _, _, _, by go_num, by omega, by omega, ⟨?_⟩, rfl⟩
        exact ⟨rfl, rfl, conv12 _⟩
     ·obtain rfl : k = 3 := by omega
      obtain rfl : p = (modG x).f0 := HV.out.1.trans rfl
      obtain rfl : q = (modG x).f1 := HV.out.2.1.trans rfl
      obtain rfl : r = (modG x).f2 := HV.out.2.2.trans rfl
      clear HV
      have HX2 := Hd.mk (show xs ++ [modG x] = (l.take (i + 1)).map modG by
       rw [HXS.out, List.take_succ_eq_append_getElem hlt, List.map_append, ← HX.out, getElem!_pos l i hlt]
       rfl)
      have HLN := Hd.mk (show xs.length ≤ 60 by rw [HXS.out]; simp; omega)
      generalize modG x = y at *
      have hq := blk_new wo (.cells #[.int .i64 y.f0, .int .i64 y.f1, .int .i64 y.f2] 36)
      have HB1 := Hd.mk (HB.out.alloc HB.out.size (.cells #[.int .i64 y.f0, .int .i64 y.f1, .int .i64 y.f2] 36))
      have HR1 := Hd.mk (Kd.R_below HR.out ((Below.refl _ wo).alloc (Nat.le_refl _) (.cells #[.int .i64 y.f0, .int .i64 y.f1, .int .i64 y.f2] 36)))
      clear HR HB
      generalize wo.alloc (.cells #[.int .i64 y.f0, .int .i64 y.f1, .int .i64 y.f2] 36) = wq at *
      have g0 : wq.cell? ⟨wo.heap.size, 0, none⟩ = some (.int .i64 y.f0) := (blk_cell hq 0).trans rfl
      have g1 : wq.cell? ⟨wo.heap.size, 1, none⟩ = some (.int .i64 y.f1) := (blk_cell hq 1).trans rfl
      have g2 : wq.cell? ⟨wo.heap.size, 2, none⟩ = some (.int .i64 y.f2) := (blk_cell hq 2).trans rfl
      clear hq
      go_wp2_with (((with_reducible refine gate_builtin (b := .append) (xs := #[.tmp 35, .tmp 37]) rfl ?_); at_builtin; refine Kd.R_append k36 (w0 := w) w.heap.size rfl (.tmp 35) (.tmp 37) 41 36 (.agg #[(.int .i64 0), (.int .i64 0), (.int .i64 0)]) 24 rfl Try.underlying41 info36 rfl (by decide) (by omega) u3 _ y [.int .i64 y.f0, .int .i64 y.f1, .int .i64 y.f2] (fun _ => True) (fun _ => False) rfl rfl ?aP (fun _ hk => hk.elim) (fun _ _ => trivial) HR1.out HB1.out ?aS ?aL ?_; (case aP => exact k36_mkM _ _ _ y); (case aS => exact HB1.out.size); (case aL => have := HLN.out; omega); intro v2 w2 ho hb hg2 hat; have HO2 := Hd.mk ho; have HB2 := Hd.mk hb; clear ho hb hg2 hat))
      go_roundg (60 - (i + 1))
      case measure => omega
      case rel => exact ⟨i + 1, _, by go_num, by omega, by omega, by omega, HX2, HO2, HB2⟩
   ·have h60z : ¬ (i : Int) < 60 := by omega
    obtain rfl : i = 60 := by omega
    have HE := Hd.mk (show xs = (l.take 60).map modG from HXS.out)
    obtain ⟨A2, c2, rfl, hl2, hC2⟩ := Kd.R_reads HR.out
    have HCALL := Hd.mk (grade_Least.calls A2 c2 _ (classF l) z wr hC2 hl2 (by rw [HE.out]; exact HZ.out))
    clear hl2 hC2
    go_wp2_with (go_at_call 35; refine HCALL.out.mono ?_; rintro e w' ⟨v, rfl, hR', hb'⟩; have HR' := Hd.mk hR'; have HB' := Hd.mk hb'; clear hR' hb')
    go_ret
    exact ⟨_, rfl, Kd.R_lower HR'.out HB.out.size, HB.out.trans (HB'.out.mono HB.out.size)⟩
  ·have hltz : ¬ (i : Int) < (l.length : Int) := by omega
   have HE := Hd.mk (show xs = (l.take 60).map modG by rw [HXS.out, List.take_of_length_le (by omega), List.take_of_length_le (by omega)])
   obtain ⟨A2, c2, rfl, hl2, hC2⟩ := Kd.R_reads HR.out
   have HCALL := Hd.mk (grade_Least.calls A2 c2 _ (classF l) z wr hC2 hl2 (by rw [HE.out]; exact HZ.out))
   clear hl2 hC2
   go_wp2_with (go_at_call 35; refine HCALL.out.mono ?_; rintro e w' ⟨v, rfl, hR', hb'⟩; have HR' := Hd.mk hR'; have HB' := Hd.mk hb'; clear hR' hb')
   go_ret
   exact ⟨_, rfl, Kd.R_lower HR'.out HB.out.size, HB.out.trans (HB'.out.mono HB.out.size)⟩
end Go.Proofs.Ytnbdfmdjedakcaa
namespace Go.Proofs.Ytnbdfmdjedakcaa
open Go.RowKit Go.Proofs.YtnbdfmdjedakcaaW.PrintWords Go.Proofs.YtnbdfmdjedakcaaW.PrintLast Go.Proofs.YtnbdfmdjedakcaaW.PrintMore PP
set_option linter.unusedVariables false
set_option linter.unusedSimpArgs false
theorem append0 (w : World) (n : Nat) (h0 : 0 < n) (hn : n ≤ 2000000) : ∃ v w', (∀ ty, (Builtin.append_ #[41, 3] ty #[.slice none 0 0, .int .i64 n]).run Try.prog w = .ok v w') ∧ (∃ g G, v = .slice (some ⟨g, 0, none⟩) n G ∧ n ≤ G ∧ G ≤ 9223372036854775807 ∧ Kd.R k36 36 w' w.heap.size (fun _ => True) (.slice (some ⟨g, 0, none⟩) 0 G) []) ∧ Below w.heap.size w w' := by
 obtain ⟨i, hi, hz, hs, hb⟩ := info_parts info36
 have hold : (Builtin.firstCells i.size 0 (.slice none 0 0)).run Try.prog w.drew = .ok (#[] : Array Value) w.drew := by
  rw [hs]; exact run_firstCells_none w.drew 3 0 0 0
 have h := fun ty => Lib.run_append_grow_zeros w 41 3 ty 36 i (.agg #[.int .i64 0, .int .i64 0, .int .i64 0]) .i64 .i64 Try.underlying41 Try.underlying3 hi hz none 0 0 [] hold n h0 (by rw [hs]; decide) (by omega) (by omega) (by rw [hb]; omega)
  (by rw [hb]; exact growslice_fits (by omega) (by omega))
 rw [Nat.zero_add] at h
 refine ⟨_, _, h, ⟨w.heap.size, _, rfl, grownCap_ge w _ _ _, ?_, ?_⟩, (bel_drew' w).alloc (Nat.le_refl _) _⟩
 ·have := grownCap_le_maxLen w n 0 36 (by unfold maxLen; omega)
  unfold maxLen at this
  omega
 ·have hG := grownCap_ge w n 0 36
  refine ⟨fun _ _ => trivial, [], ⟨rfl, Or.inr ⟨w.heap.size, _, _, rfl, Nat.le_refl _, blk_new w.drew _, Nat.zero_le _, ?_, ?_, rfl⟩⟩, Reps.none _ _⟩
  ·have := grownCap_le_maxLen w n 0 36 (by unfold maxLen; omega)
   exact this
  ·show _ = _ * 3
   simp [Builtin.zeroCells, Value.cells]
   omega
set_option maxHeartbeats 1000000 in
theorem grow_any (w : World) (n : Nat) (hn : n ≤ 2000000) : Calls Try.prog 114 #[.slice none 0 0, .int .i64 n] w fun e w' => ∃ v, e = .returned v ∧ Kd.R k36 36 w' w.heap.size (fun _ => True) v [] ∧ Below w.heap.size w w' := by
 by_cases h0 : n = 0
 ·subst h0
  go_enter Try.func114, Try.ntmps114
  go_wp2
  go_ret
  exact ⟨_, rfl, Kd.R_nil _ _ _ _ _, Below.refl _ _⟩
 ·obtain ⟨v, w1, hrun, ⟨g, G, rfl, hG1, hG2, hR⟩, hB⟩ := append0 w n (by omega) hn
  have HR := Hd.mk hR
  have HB := Hd.mk hB
  have h1 : ¬ ((n : Int) < 0) := by omega
  have h2 : (n : Int) > 0 := by omega
  clear hR hB h0
  go_enter Try.func114, Try.ntmps114
  go_wp2_with (at_builtin; refine Lib.wpList_append_run _ rfl _ _ _ _ rfl _ _ rfl rfl _ _ (hrun _) ?_)
  go_ret
  exact ⟨_, rfl, HR.out, HB.out⟩
def cc2 (a b : List S36) (k : Nat) : List S36 := if k = 0 then [] else if k = 1 then a else a ++ b
set_option maxRecDepth 100000 in
set_option maxHeartbeats 4000000 in
theorem concat_any (w : World) (pb : Nat) (A B : Option Addr) (ca cb : Nat) (a b : List S36) (hp : w.heap[pb]? = some (.cells #[.slice A a.length ca, .slice B b.length cb] 41 (0, 0))) (hA : Kd.C k36 w A a.length a) (hB : Kd.C k36 w B b.length b) (ha : a.length ≤ 1000000) (hb : b.length ≤ 1000000) :
  Calls Try.prog 89 #[.slice (some ⟨pb, 0, none⟩) 2 2] w fun e w' => ∃ v, e = .returned v ∧ Kd.R k36 36 w' w.heap.size (fun _ => True) v (a ++ b) ∧ Below w.heap.size w w' := by
 have lt : pb < w.heap.size := (Array.getElem?_eq_some_iff.1 hp).1
 have c0 : w.cell? ⟨pb, 0, none⟩ = some (.slice A a.length ca) := (blk_cell hp 0).trans rfl
 have c1 : w.cell? ⟨pb, 1, none⟩ = some (.slice B b.length cb) := (blk_cell hp 1).trans rfl
 have HP := Hd.mk hp
 have HA := Hd.mk hA
 have HB := Hd.mk hB
 have LT := Hd.mk lt
 clear hp hA hB lt
 go_enter Try.func89, Try.ntmps89
 go_wp2_with fail
 go_loop [3, 11] (fun v3 v11 => ∃ (k : Nat) (z : Int), k ≤ 2 ∧ v11 = .int .i64 k ∧ v3 = .int .i64 z ∧ Hd (z = (cc2 a b k).length)) (fun _ v11 => 2 - (intOf v11).toNat)
 case atStart => exact ⟨0, 0, by omega, rfl, rfl, ⟨rfl⟩⟩
 case round =>
  obtain ⟨k, z, hk, rfl, rfl, HZ⟩ := hrel
  have hkk : k = 0 ∨ k = 1 ∨ k = 2 := by omega
  rcases hkk with rfl | rfl | rfl
  ·obtain rfl : z = 0 := HZ.out
   have h1 : ¬ ((a.length : Int) < 0) := by omega
   go_wp2_with fail
   go_round
   case rel => exact ⟨1, _, by omega, by go_num, rfl, ⟨rfl⟩⟩
   case measure => simp [intOf]
  ·obtain rfl : z = (a.length : Int) := HZ.out
   have h1 : ¬ ((a.length : Int) + (b.length : Int) < 0) := by omega
   go_wp2_with fail
   go_round
   case rel => exact ⟨2, _, by omega, by go_num, rfl, ⟨by unfold cc2; rw [if_neg (by decide), if_neg (by decide), List.length_append]; omega⟩⟩
   case measure => simp [intOf]
  ·obtain rfl : z = (((a.length + b.length : Nat)) : Int) := by
    have := HZ.out
    unfold cc2 at this
    rw [if_neg (by decide), if_neg (by decide), List.length_append] at this
    exact this
   have HG := Hd.mk (grow_any w (a.length + b.length) (by omega))
   clear c0 c1
   go_wp2_with (go_at_call 114; refine HG.out.mono ?_; rintro e w1 ⟨v, rfl, hR, hb1⟩; have HR0 := Hd.mk hR; have HB1 := Hd.mk hb1; clear hR hb1)
   go_loopg [6, 27] 2 (fun gg v6 v27 wr => ∃ (k : Nat) (xs : List S36), k ≤ 2 ∧ 2 - k ≤ gg ∧ v27 = .int .i64 k ∧ Hd (xs = cc2 a b k) ∧ Hd (Below w.heap.size w wr) ∧ Hd (Kd.R k36 36 wr w.heap.size (fun _ => True) v6 xs))
   case atStart => exact ⟨0, [], by omega, by omega, rfl, ⟨rfl⟩, HB1, HR0⟩
   case round =>
    clear HR0 HB1 HG
    obtain ⟨k, xs, hk, hg, rfl, HXS, HB2, HR⟩ := hrel
    have gp := (HB2.out.block pb LT.out).trans HP.out
    have hkk : k = 0 ∨ k = 1 ∨ k = 2 := by omega
    rcases hkk with rfl | rfl | rfl
    ·have c0 : wr.cell? ⟨pb, 0, none⟩ = some (.slice A a.length ca) := (blk_cell gp 0).trans rfl
     have HC := Hd.mk (Kd.C_below HA.out (Below.refl _ w) |> fun h => Kd.C_below h HB2.out)
     have HL := Hd.mk (show xs.length ≤ 1000000 by rw [HXS.out]; unfold cc2; simp; try omega)
     have HN := Hd.mk (show xs ++ a = cc2 a b (0 + 1) by rw [HXS.out]; rfl)
     clear gp
     go_wp2_with (((with_reducible refine gate_builtin (b := .append) (xs := #[.tmp 31, .tmp 32]) rfl ?_); at_builtin; refine Kd.R_append_rows k36 (Rr := k36.K wr) (w0 := w) w.heap.size rfl (.tmp 31) (.tmp 32) 41 36 (.agg #[(.int .i64 0), (.int .i64 0), (.int .i64 0)]) 24 rfl Try.underlying41 info36 rfl (by decide) (by omega) u6 _ a A a.length ca (fun _ => True) (fun _ => False) rfl rfl HR.out HC.out (fun x cs h => by rw [k36_open h]; exact k36_mkM _ _ _ x) (fun _ hk => hk.elim) (fun _ _ => trivial) HB2.out HB2.out.size (by have := HL.out; omega) ?_; intro v2 w2 ho hb hg2 hat; have HO2 := Hd.mk ho; have HB3 := Hd.mk hb; clear ho hb hg2 hat))
     go_roundg (2 - (0 + 1))
     case measure => omega
     case rel => exact ⟨0 + 1, _, by omega, by omega, by go_num, HN, HB3, HO2⟩
    ·have c1 : wr.cell? ⟨pb, 1, none⟩ = some (.slice B b.length cb) := (blk_cell gp 1).trans rfl
     have HC := Hd.mk (Kd.C_below HB.out (Below.refl _ w) |> fun h => Kd.C_below h HB2.out)
     have HL := Hd.mk (show xs.length ≤ 1000000 by rw [HXS.out]; unfold cc2; simp; try omega)
     have HN := Hd.mk (show xs ++ b = cc2 a b (1 + 1) by rw [HXS.out]; rfl)
     clear gp
     go_wp2_with (((with_reducible refine gate_builtin (b := .append) (xs := #[.tmp 31, .tmp 32]) rfl ?_); at_builtin; refine Kd.R_append_rows k36 (Rr := k36.K wr) (w0 := w) w.heap.size rfl (.tmp 31) (.tmp 32) 41 36 (.agg #[(.int .i64 0), (.int .i64 0), (.int .i64 0)]) 24 rfl Try.underlying41 info36 rfl (by decide) (by omega) u6 _ b B b.length cb (fun _ => True) (fun _ => False) rfl rfl HR.out HC.out (fun x cs h => by rw [k36_open h]; exact k36_mkM _ _ _ x) (fun _ hk => hk.elim) (fun _ _ => trivial) HB2.out HB2.out.size (by have := HL.out; omega) ?_; intro v2 w2 ho hb hg2 hat; have HO2 := Hd.mk ho; have HB3 := Hd.mk hb; clear ho hb hg2 hat))
     go_roundg (2 - (1 + 1))
     case measure => omega
     case rel => exact ⟨1 + 1, _, by omega, by omega, by go_num, HN, HB3, HO2⟩
    ·go_wp2_with fail
     go_ret
     have h9 := HXS.out
     unfold cc2 at h9
     rw [if_neg (by decide), if_neg (by decide)] at h9
     rw [← h9]
     exact ⟨_, rfl, HR.out, HB2.out⟩
def eitF (a b : List S36) : List S36 × Int := if (anB a && anB b) = true then (exF belowG (a ++ b), 0) else ([], 2)
set_option maxHeartbeats 4000000 in
theorem either_any (w : World) (A B : Option Addr) (ca cb : Nat) (a b : List S36) (hA : Kd.C k36 w A a.length a) (hB : Kd.C k36 w B b.length b) (hca : a.length ≤ ca) (hcb : b.length ≤ cb) (ha : a.length ≤ 1000000) (hb : b.length ≤ 1000000) :
  Calls Try.prog 53 #[.slice A a.length ca, .slice B b.length cb] w fun e w' => ∃ v, e = .returned (.tuple #[v, .int .i64 (eitF a b).2]) ∧ Kd.R k36 36 w' w.heap.size (fun _ => True) v (eitF a b).1 ∧ Below w.heap.size w w' := by
 have XA := Hd.mk (fun W (h : Below w.heap.size w W) => antichain_any W A ca a (Kd.C_below hA h) hca ha)
 have XB := Hd.mk (fun W (h : Below w.heap.size w W) => antichain_any W B cb b (Kd.C_below hB h) hcb hb)
 have HA := Hd.mk hA
 have HB := Hd.mk hB
 have LA := Hd.mk ha
 have LB := Hd.mk hb
 clear hA hB hca hcb ha hb
 unfold eitF
 cases qa : anB a with
 | false =>
  rw [Bool.false_and, if_neg (by decide)]
  have QA := Hd.mk qa
  clear qa
  simp only
  go_enter Try.func53, Try.ntmps53
  go_wp2_with (go_at_call 80; refine (XA.out _ (Below.refl _ _) false QA.out).mono ?_; rintro e w1 ⟨rfl, hb⟩; have HB1 := Hd.mk hb; clear hb)
  go_ret2
  exact ⟨_, rfl, Kd.R_nil _ _ _ _ _, HB1.out⟩
 | true =>
  have QA := Hd.mk qa
  clear qa
  cases qb : anB b with
  | false =>
   rw [Bool.and_false, if_neg (by decide)]
   have QB := Hd.mk qb
   clear qb
   simp only
   go_enter Try.func53, Try.ntmps53
   go_wp2_with fail
   refine (XA.out _ (Below.refl _ _) true QA.out).mono ?_
   rintro e w1 ⟨rfl, hb⟩
   have HB1 := Hd.mk hb
   clear hb
   go_wp2_with fail
   refine (XB.out _ HB1.out false QB.out).mono ?_
   rintro e w2 ⟨rfl, hb⟩
   have HB2 := Hd.mk hb
   clear hb
   go_wp2_with fail
   go_ret2
   exact ⟨_, rfl, Kd.R_nil _ _ _ _ _, HB1.out.trans (HB2.out.mono HB1.out.size)⟩
  | true =>
   rw [Bool.and_true, if_pos rfl]
   have QB := Hd.mk qb
   clear qb
   simp only
   go_enter Try.func53, Try.ntmps53
   go_wp2_with fail
   refine (XA.out _ (Below.refl _ _) true QA.out).mono ?_
   rintro e w1 ⟨rfl, hb⟩
   have HB1 := Hd.mk hb
   clear hb
   go_wp2_with fail
   refine (XB.out _ HB1.out true QB.out).mono ?_
   rintro e w2 ⟨rfl, hb⟩
   have HB2 := Hd.mk (HB1.out.trans (hb.mono HB1.out.size))
   clear hb
   go_wp2_with fail
   refine (concat_any _ w2.heap.size A B ca cb a b (blk_new w2 _) (Kd.C_below HA.out (HB2.out.alloc HB2.out.size _)) (Kd.C_below HB.out (HB2.out.alloc HB2.out.size _)) LA.out LB.out).mono ?_
   rintro e w3 ⟨v, rfl, hR, hb3⟩
   have HB3 := Hd.mk ((HB2.out.alloc HB2.out.size (.cells #[.slice A a.length ca, .slice B b.length cb] 41)).trans (hb3.mono (by have := HB2.out.size; simp; omega)))
   obtain ⟨A3, c3, rfl, hl3, hC3⟩ := Kd.R_reads hR
   have HC3 := Hd.mk (least_any w3 A3 c3 (a ++ b) hC3 (by have := LA.out; have := LB.out; rw [List.length_append]; omega))
   clear hR hb3 hC3
   have HLL := Hd.mk hl3
   clear hl3
   obtain ⟨ab, hab⟩ : ∃ ab, a ++ b = ab := ⟨_, rfl⟩
   rw [hab] at HC3
   have HAB := Hd.mk hab
   rw [hab] at HLL ⊢
   clear hab
   go_wp2_with fail
   refine HC3.out.mono ?_
   rintro e w4 ⟨v, rfl, hR, hb4⟩
   have HR4 := Hd.mk hR
   have HB4 := Hd.mk hb4
   clear hR hb4
   go_wp2_with fail
   go_ret2
   refine ⟨_, rfl, ?_, HB3.out.trans (HB4.out.mono HB3.out.size)⟩
   rw [HAB.out]
   exact Kd.R_lower HR4.out HB3.out.size
end Go.Proofs.Ytnbdfmdjedakcaa
namespace Go.Proofs.Ytnbdfmdjedakcaa
open Go.RowKit Go.Proofs.YtnbdfmdjedakcaaW.PrintWords Go.Proofs.YtnbdfmdjedakcaaW.PrintLast Go.Proofs.YtnbdfmdjedakcaaW.PrintMore PP Go.WideMaps Go.WideElems Go.ChangeMaps
set_option linter.unusedVariables false
set_option linter.unusedSimpArgs false
theorem lawG : Maps.Keyed Try.prog 36 := Maps.Keyed.of_law (deep_law_laid (by kernel_rfl) (m := 2) (by omega) (of_decide_eq_true (by kernel_rfl)) (by kernel_rfl) (by kernel_rfl))
def klG (x : S36) : Lit := .string (keyBytes [.int .i64 x.f0, .int .i64 x.f1, .int .i64 x.f2])
theorem wf_lv {a : Int} (h0 : 0 ≤ a) (h1 : a ≤ 11) : (Lit.int .i64 a).wf = true := WalkArith.wf_i64 (by omega)
theorem arrG : ArrKey Try.prog 36 3 3 := ⟨Try.underlying36, by kernel_rfl, by kernel_rfl, by kernel_rfl⟩
theorem sizeG : ∃ m, Try.prog.types.size = m + 1 := ⟨Try.prog.types.size - 1, by
 have h : decide (0 < Try.prog.types.size) = true := by kernel_rfl
 have := of_decide_eq_true h
 omega⟩
theorem keyG {x : S36} (h : gok x = true) : keyOf Try.prog 36 (gv x) = some (klG x) := by
 rw [gok_iff] at h
 obtain ⟨⟨a1, a2⟩, ⟨a3, a4⟩, a5, a6⟩ := h
 have w0 := wf_lv a1 a2
 have w1 := wf_lv a3 a4
 have w2 := wf_lv a5 a6
 have hkt := arrG.keyType sizeG
 obtain ⟨m, hm⟩ := sizeG
 have hc1 : Try.prog.cellsOf 3 = 1 := arrG.one
 have hc3 : Try.prog.cellsOf 36 = 3 := arrG.size
 unfold keyOf gv
 simp only [arrG.hu]
 rw [if_pos (by simp [hkt, Value.formed, arrG.hu, hc3]), hm]
 unfold Program.keyLits
 simp only [arrG.hu, Value.cells]
 rw [if_pos (by rw [hc3]; rfl), show List.range 3 = [0, 1, 2] from rfl, List.mapM_cons, List.mapM_cons, List.mapM_cons, List.mapM_nil]
 obtain ⟨m', rfl⟩ : ∃ m', m = m' + 1 := by
  refine ⟨m - 1, ?_⟩
  have h : decide (1 < Try.prog.types.size) = true := by kernel_rfl
  have := of_decide_eq_true h
  omega
 simp [hc1, Program.keyLits, Try.underlying3, w0, w1, w2, klG]
theorem keyG_inv {key : Value} {kl : Lit} (h : keyOf Try.prog 36 key = some kl) : ∃ x, key = gv x ∧ kl = klG x := by
 obtain ⟨m, hm⟩ := sizeG
 have hc1 : Try.prog.cellsOf 3 = 1 := arrG.one
 have hc3 : Try.prog.cellsOf 36 = 3 := arrG.size
 obtain ⟨xs, L, rfl, hL, rfl⟩ := keyOf_top (by kernel_rfl) h
 rw [hm] at hL
 unfold Program.keyLits at hL
 simp only [arrG.hu] at hL
 by_cases hs : xs.toList.length = Try.prog.cellsOf 36
 ·rw [if_pos hs] at hL
  rw [hc3] at hs
  obtain ⟨c0, c1, c2, he⟩ : ∃ c0 c1 c2, xs.toList = [c0, c1, c2] := by
   generalize xs.toList = l at hs
   rcases l with _ | ⟨c0, _ | ⟨c1, _ | ⟨c2, _ | ⟨c3, l⟩⟩⟩⟩
   ·exact absurd hs (by simp)
   ·exact absurd hs (by simp)
   ·exact absurd hs (by simp)
   ·exact ⟨c0, c1, c2, rfl⟩
   ·exact absurd hs (by simp)
  rw [he] at hL
  have hxs : xs = #[c0, c1, c2] := by rw [← Array.toList_inj, he]
  subst hxs
  rw [show List.range 3 = [0, 1, 2] from rfl, List.mapM_cons, List.mapM_cons, List.mapM_cons, List.mapM_nil] at hL
  obtain ⟨m', rfl⟩ : ∃ m', m = m' + 1 := by
   refine ⟨m - 1, ?_⟩
   have h : decide (1 < Try.prog.types.size) = true := by kernel_rfl
   have := of_decide_eq_true h
   omega
  have one : ∀ c : Value, ∀ l, Try.prog.keyLits (m' + 1 + 1) 3 [c] = some l → ∃ a : Int, c = .int .i64 a ∧ l = [.int .i64 a] := fun c l hl => by
   unfold Program.keyLits at hl
   cases c <;> simp [Try.underlying3] at hl
   obtain ⟨⟨rfl, _⟩, rfl⟩ := hl
   exact ⟨_, rfl, rfl⟩
  simp [hc1, Option.bind_eq_some_iff] at hL
  obtain ⟨y0, h0, L1, ⟨y1, h1, L2, ⟨y2, h2, e2⟩, e1⟩, e0⟩ := hL
  subst e2 e1 e0
  obtain ⟨a, rfl, rfl⟩ := one _ _ h0
  obtain ⟨b, rfl, rfl⟩ := one _ _ h1
  obtain ⟨c, rfl, rfl⟩ := one _ _ h2
  exact ⟨⟨a, b, c⟩, rfl, by simp [klG]⟩
 ·rw [if_neg hs] at hL
  exact absurd hL (by simp)
theorem gv_inj {x y : S36} (h : gv x = gv y) : x = y := by
 obtain ⟨a, b, c⟩ := x
 obtain ⟨d, e, f⟩ := y
 unfold gv at h
 simp at h
 simp [h]
theorem klG_inj {x y : S36} (hx : gok x = true) (hy : gok y = true) (h : klG x = klG y) : x = y :=
 gv_inj (lawG.inj (keyG hx) (by rw [h]; exact keyG hy))
theorem klG_key (x : S36) : WideAt.IsKeyLit (klG x) := trivial
def KeysAre (D : DataW Unit) (js : List S36) : Prop := ∀ kl, Maps.has D kl = true ↔ ∃ x, x ∈ js ∧ kl = klG x
def MapG (w : World) (mb n : Nat) (js : List S36) : Prop := ∃ D : DataW Unit, w.ownsMap Try.prog 36 (plainElem Try.prog 4) mb n D ∧ KeysAre D js
theorem MapG.kept {w w' : World} {mb n : Nat} {js : List S36} {row : Option Nat} (h : MapG w mb n js) (hg : w.grownBy w' row) (hne : some mb ≠ row) : MapG w' mb n js := by
 obtain ⟨D, h1, h2⟩ := h
 exact ⟨D, h1.kept hg hne, h2⟩
theorem MapG.below {w w' : World} {mb n : Nat} {js : List S36} (h : MapG w mb n js) (hb : Below w.heap.size w w') : MapG w' mb n js :=
 h.kept (row := none) ⟨hb.os, hb.tape, hb.output, hb.size, fun i hi _ => hb.block i hi⟩ (by simp)
theorem MapG.lt {w : World} {mb n : Nat} {js : List S36} (h : MapG w mb n js) : mb < w.heap.size := by
 obtain ⟨D, h1, h2⟩ := h
 exact h1.lt
theorem MapG.made (w : World) : MapG (w.alloc (.map #[] 0)) w.heap.size 0 [] :=
 ⟨.map [], World.ownsMap_made w _ _ _, fun kl => ⟨fun h => absurd h (by simp [Maps.has]), fun ⟨x, h, _⟩ => absurd h (by simp)⟩⟩
theorem KeysAre.put {D : DataW Unit} {js : List S36} (h : KeysAre D js) (hm : Maps.IsMap D) (x : S36) (d : DataW Unit) : KeysAre (D.put (klG x) d) (js ++ [x]) := fun kl => by
 by_cases e : kl = klG x
 ·subst e
  rw [Maps.has_put_same hm (klG_key x)]
  exact ⟨fun _ => ⟨x, by simp, rfl⟩, fun _ => rfl⟩
 ·rw [Maps.has_put_other e, h kl]
  constructor
  ·rintro ⟨y, hy, rfl⟩; exact ⟨y, by simp [hy], rfl⟩
  ·rintro ⟨y, hy, rfl⟩
   rcases List.mem_append.1 hy with hy | hy
   ·exact ⟨y, hy, rfl⟩
   ·rw [List.mem_singleton.1 hy] at e; exact absurd rfl e
theorem wpList_gput (w : World) {ops : Array Oper} {rest : List Oper} {o : Oper} {a : Act} {Q : Exit → Act → World → Prop} (hg : o.guard = none) (m x v : Operand) (hop : o.op = Op.mapUpdate 89 m x v) (mb n : Nat) (js : List S36) (g : S36) (hok : gok g = true) (hm : a.eval m = .map (some mb)) (hx : a.eval x = gv g) (hv : a.eval v = .bool true) (h : MapG w mb n js) (hn : n < 1000000000)
  (hK : ∀ w', MapG w' mb (n + 1) (js ++ [g]) → w.grownBy w' (some mb) → wpList Try.prog ops Q rest (a.put o.dst undef) w') : wpList Try.prog ops Q (o :: rest) a w := by
 obtain ⟨D, h1, h2⟩ := h
 refine wpList_mapUpdate_own w hg m x v 89 hop 36 4 lawG Try.underlying89 (plainElem Try.prog 4) mb n D hm h1 (by unfold maxLen; omega) (gv g) (.bool true) (klG g) hx hv (keyG hok) _ [] (plainElem_bool Try.underlying4 true) ?_
 intro w' hw' hg'
 exact hK w' ⟨_, hw', h2.put (h1.isMap) g _⟩ hg'
def RngG (w : World) (mb r n : Nat) (js outs : List S36) (cnt : Nat) : Prop := ∃ (D : DataW Unit) (left : Lit → Bool), w.ranges Try.prog 36 (plainElem Try.prog 4) mb r n D left cnt ∧ KeysAre D js ∧ (∀ kl, left kl = true → Maps.has D kl = true) ∧ ∀ x, x ∈ outs ↔ (x ∈ js ∧ left (klG x) = false)
theorem RngG.below {w w' : World} {mb r n cnt : Nat} {js outs : List S36} {row : Option Nat} (h : RngG w mb r n js outs cnt) (hg : w.grownBy w' row) (h1 : some mb ≠ row) (h2 : some r ≠ row) : RngG w' mb r n js outs cnt := by
 obtain ⟨D, left, a, b⟩ := h
 exact ⟨D, left, a.kept hg h1 h2, b⟩
theorem wpList_grange (w : World) {ops : Array Oper} {rest : List Oper} {o : Oper} {a : Act} {Q : Exit → Act → World → Prop} (hg : o.guard = none) (m : Operand) (hop : o.op = Op.range 89 m) (mb n : Nat) (js : List S36) (hm : a.eval m = .map (some mb)) (h : MapG w mb n js)
  (hK : ∀ w' cnt, cnt ≤ n → RngG w' mb w.heap.size n js [] cnt → w.grownBy w' none → w'.heap.size = w.heap.size + 1 → wpList Try.prog ops Q rest (a.put o.dst (.pointer (some ⟨w.heap.size, 0, none⟩))) w') : wpList Try.prog ops Q (o :: rest) a w := by
 obtain ⟨D, h1, h2⟩ := h
 refine wpList_range_own w hg m 89 hop 36 4 lawG Try.underlying89 (plainElem Try.prog 4) mb n D hm h1 ?_
 intro w' hr hg' hs
 refine hK w' _ h1.size_le ⟨D, _, hr, h2, fun _ h => h, fun x => ⟨fun h => absurd h (by simp), fun ⟨h3, h4⟩ => ?_⟩⟩ hg' hs
 rw [(h2 _).2 ⟨x, h3, rfl⟩] at h4
 exact absurd h4 (by decide)
theorem wpList_gnext (w : World) {ops : Array Oper} {rest : List Oper} {o : Oper} {a : Act} {Q : Exit → Act → World → Prop} (hg : o.guard = none) (it : Operand) (hop : o.op = Op.next it false) (mb r n : Nat) (js outs : List S36) (cnt : Nat) (hjs : ∀ x ∈ js, gok x = true) (hit : a.eval it = .pointer (some ⟨r, 0, none⟩)) (h : RngG w mb r n js outs cnt)
  (hDone : (∀ x, x ∈ outs ↔ x ∈ js) → wpList Try.prog ops Q rest (a.put o.dst (.tuple #[.bool false])) w)
  (hMore : ∀ (x : S36) (c : Value) (w' : World) (cnt' : Nat), x ∈ js → RngG w' mb r n js (outs ++ [x]) cnt' → cnt' < cnt → w.grownBy w' (some r) → w'.heap.size = w.heap.size → (Instr.entry (.pointer (some ⟨r, 0, none⟩))).run Try.prog w' = .ok (.tuple #[gv x, c]) w' → wpList Try.prog ops Q rest (a.put o.dst (.tuple #[.bool true, gv x, c])) w') :
  wpList Try.prog ops Q (o :: rest) a w := by
 obtain ⟨D, left, h1, h2, h3, h4⟩ := h
 refine wpList_next_ranges (β := Value) w hg it hop 36 lawG (plainElem Try.prog 4) gv (fun v => v) (fun key kl hk => by obtain ⟨x, e, _⟩ := keyG_inv hk; exact ⟨x, e⟩) (fun v y _ => ⟨v, rfl⟩) mb r n D left cnt hit h1 ?_ ?_
 ·intro _ hl
  exact hDone fun x => by rw [h4]; exact ⟨fun h => h.1, fun h => ⟨h, hl _⟩⟩
 ·intro x c kl y w' cnt' hkey hlk _ _ hrg hlt hgr hsz hen
  obtain ⟨x', e, rfl⟩ := keyG_inv hkey
  have := gv_inj e
  subst this
  obtain ⟨z, hz, ez⟩ := (h2 _).1 (h3 _ hlk)
  have hxz : x = z := gv_inj (lawG.inj hkey (by rw [ez]; exact keyG (hjs z hz)))
  subst hxz
  refine hMore x c w' cnt' hz ⟨D, _, hrg, h2, fun kl h => h3 kl (by simp only [Bool.and_eq_true] at h; exact h.1), fun q => ?_⟩ hlt hgr hsz hen
  rw [List.mem_append, List.mem_singleton, h4]
  constructor
  ·rintro (⟨a1, a2⟩ | rfl)
   ·exact ⟨a1, by rw [a2]; rfl⟩
   ·exact ⟨hz, by rw [WideAt.sameKey_self (klG_key _)]; simp⟩
  ·rintro ⟨a1, a2⟩
   by_cases e : q = x
   ·exact .inr e
   ·refine .inl ⟨a1, ?_⟩
    cases hq : left (klG q) with
    | false => rfl
    | true =>
     rw [hq, Bool.true_and, Bool.not_eq_false'] at a2
     exact absurd (klG_inj (hjs q a1) (hjs x hz) (WideAt.sameKey_eq a2)) e
end Go.Proofs.Ytnbdfmdjedakcaa
namespace Go.Proofs.Ytnbdfmdjedakcaa
open Go.RowKit Go.Proofs.YtnbdfmdjedakcaaW.PrintWords Go.Proofs.YtnbdfmdjedakcaaW.PrintLast Go.Proofs.YtnbdfmdjedakcaaW.PrintMore PP
set_option linter.unusedVariables false
set_option linter.unusedSimpArgs false
theorem ex_congr {rule : S36 → S36 → Bool} {l l' : List S36} (h : ∀ x, x ∈ l ↔ x ∈ l') : exF rule l = exF rule l' :=
 asc_ext _ _ (ex_asc _ _) (ex_asc _ _) fun x => by
  rw [ex_mem, ex_mem, alone_iff, alone_iff, h]
  exact ⟨fun ⟨a, b⟩ => ⟨a, fun o ho => b o ((h o).2 ho)⟩, fun ⟨a, b⟩ => ⟨a, fun o ho => b o ((h o).1 ho)⟩⟩
def joinG (x y : S36) : S36 := ⟨mx x.f0 y.f0, mx x.f1 y.f1, mx x.f2 y.f2⟩
theorem gok_join {x y : S36} (hx : gok x = true) (hy : gok y = true) : gok (joinG x y) = true := by
 rw [gok_iff] at *
 unfold joinG mx
 simp only
 refine ⟨?_, ?_, ?_⟩ <;> (split <;> omega)
def joins (a b : List S36) : List S36 := a.flatMap fun x => b.map (joinG x)
theorem join_run (W : World) (x y : S36) : Calls Try.prog 31 #[.agg #[.int .i64 x.f0, .int .i64 x.f1, .int .i64 x.f2], .agg #[.int .i64 y.f0, .int .i64 y.f1, .int .i64 y.f2]] W fun e w' => e = .returned (.agg #[.int .i64 (joinG x y).f0, .int .i64 (joinG x y).f1, .int .i64 (joinG x y).f2]) ∧ Below W.heap.size W w' :=
 grade_Join.calls x.f0 x.f1 x.f2 y.f0 y.f1 y.f2 _ _ _ W rfl
theorem MapG.putBelow {B : World} {w w' : World} {mb : Nat} (hb : Below B.heap.size B w) (hm : B.heap.size ≤ mb) (hg : w.grownBy w' (some mb)) : Below B.heap.size B w' :=
 ⟨hg.os.trans hb.os, hg.tape.trans hb.tape, hg.output.trans hb.output, Nat.le_trans hb.size hg.size, fun i hi => (hg.block i (Nat.lt_of_lt_of_le hi hb.size) (fun e => by injection e with e; omega)).trans (hb.block i hi)⟩
theorem R_grownX {w w1 : World} {base : Nat} {ok : Nat → Prop} {v : Value} {xs : List S36} (h : Kd.R k36 36 w base ok v xs) {row : Option Nat} (hg : w.grownBy w1 row) (hok : ∀ k, ok k → some k ≠ row) : Kd.R k36 36 w1 base ok v xs :=
 Kd.R_step h fun k ho hk => hg.block k hk (hok k ho)
def botF (a b : List S36) : List S36 × Int := if (anB a && anB b) = true then (exF belowG (joins a b), 0) else ([], 2)
set_option maxRecDepth 100000 in
set_option maxHeartbeats 8000000 in
theorem both_yes (w : World) (A B : Option Addr) (ca cb : Nat) (a b : List S36) (hA : Kd.C k36 w A a.length a) (hB : Kd.C k36 w B b.length b) (hca : a.length ≤ ca) (hcb : b.length ≤ cb) (qa : anB a = true) (qb : anB b = true) :
  Calls Try.prog 54 #[.slice A a.length ca, .slice B b.length cb] w fun e w' => ∃ v, e = .returned (.tuple #[v, .int .i64 0]) ∧ Kd.R k36 36 w' w.heap.size (fun _ => True) v (exF belowG (joins a b)) ∧ Below w.heap.size w w' := by
 have hu36 := Try.underlying36
 have hmm := @run_makeMap Try.prog
 have ha := (anB_iff.1 qa).short
 have hb := (anB_iff.1 qb).short
 have VA := Hd.mk (anB_iff.1 qa).1
 have VB := Hd.mk (anB_iff.1 qb).1
 have XA := Hd.mk (antichain_any w A ca a hA hca (by omega) true qa)
 have XB := Hd.mk (fun W (h : Below w.heap.size w W) => antichain_any W B cb b (Kd.C_below hB h) hcb (by omega) true qb)
 have HA := Hd.mk (fun W (h : Below w.heap.size w W) => Kd.C_below hA h)
 have HB := Hd.mk (fun W (h : Below w.heap.size w W) => Kd.C_below hB h)
 clear hA hB hca hcb qa qb
 go_enter Try.func54, Try.ntmps54
 go_wp2_with fail
 refine XA.out.mono ?_
 rintro e w1 ⟨rfl, hb1⟩
 have HB1 := Hd.mk hb1
 clear hb1
 go_wp2_with fail
 refine (XB.out _ HB1.out).mono ?_
 rintro e w2 ⟨rfl, hb2⟩
 have HB2 := Hd.mk (HB1.out.trans (hb2.mono HB1.out.size))
 clear hb2
 go_wp2_with fail
 go_loopg [24] a.length (fun gg v24 wr => ∃ (i n : Nat) (js : List S36), v24 = .int .i64 i ∧ i ≤ a.length ∧ a.length - i ≤ gg ∧ Hd (js = joins (a.take i) b ∧ n ≤ i * 144) ∧ Hd (MapG wr w2.heap.size n js) ∧ Hd (Below w.heap.size w wr))
 case atStart => exact ⟨0, 0, [], rfl, by omega, by omega, ⟨rfl, by omega⟩, ⟨MapG.made w2⟩, ⟨HB2.out.alloc HB2.out.size _⟩⟩
 case round =>
  obtain ⟨i, n, js, rfl, hi, hg, HJ, HM, BW⟩ := hrel
  by_cases hlt : i < a.length
  ·have hltz : (i : Int) < (a.length : Int) := by omega
   obtain ⟨ad, rfl, x0, x1, x2⟩ := at_T36 (HA.out _ BW.out) (i : Int) (by omega) hltz
   rw [getB, Int.toNat_natCast] at x0 x1 x2
   obtain ⟨x, hx⟩ : ∃ x, a[i]! = x := ⟨_, rfl⟩
   rw [hx] at x0 x1 x2
   have GX := Hd.mk (show gok x = true from VA.out x (by rw [← hx, getElem!_pos a i hlt]; exact List.getElem_mem hlt))
   have HX := Hd.mk hx
   clear hx
   go_wp2_with fail
   obtain ⟨wo, rfl⟩ : ∃ z : World, z = wr := ⟨_, rfl⟩
   have g1 := blk_new wo (.cells #[.int .i64 x.f0, .int .i64 x.f1, .int .i64 x.f2] 36)
   have G1 := Hd.mk g1
   have XM := Hd.mk HM.out.lt
   clear g1 x0 x1 x2
   go_loopg [30] b.length (fun gg v30 wq => ∃ (j m : Nat) (ks : List S36), v30 = .int .i64 j ∧ j ≤ b.length ∧ b.length - j ≤ gg ∧ Hd (ks = js ++ (b.take j).map (joinG x) ∧ m ≤ n + j) ∧ Hd (MapG wq w2.heap.size m ks) ∧ Hd (Below w.heap.size w wq) ∧ Hd (wq.heap[wo.heap.size]? = some (.cells #[.int .i64 x.f0, .int .i64 x.f1, .int .i64 x.f2] 36 (0, 0))))
   case atStart => exact ⟨0, n, js, rfl, by omega, by omega, ⟨by simp, by omega⟩, ⟨HM.out.below ((Below.refl _ _).alloc (Nat.le_refl _) _)⟩, ⟨BW.out.alloc BW.out.size _⟩, G1⟩
   case round =>
    clear G1
    obtain ⟨j, m, ks, rfl, hj, hg2, HK, HN, BQ, GQ⟩ := hrel
    obtain ⟨wq, rfl⟩ : ∃ z : World, z = wr := ⟨_, rfl⟩
    by_cases hlt2 : j < b.length
    ·have hltz2 : (j : Int) < (b.length : Int) := by omega
     obtain ⟨ad2, rfl, y0, y1, y2⟩ := at_T36 (HB.out _ BQ.out) (j : Int) (by omega) hltz2
     rw [getB, Int.toNat_natCast] at y0 y1 y2
     obtain ⟨y, hy⟩ : ∃ y, b[j]! = y := ⟨_, rfl⟩
     rw [hy] at y0 y1 y2
     have GY := Hd.mk (show gok y = true from VB.out y (by rw [← hy, getElem!_pos b j hlt2]; exact List.getElem_mem hlt2))
     have HK2 := Hd.mk (show ks ++ [joinG x y] = js ++ (b.take (j + 1)).map (joinG x) ∧ m + 1 ≤ n + (j + 1) by
      refine ⟨?_, by have := HK.out.2; omega⟩
      rw [HK.out.1, List.append_assoc, List.take_succ_eq_append_getElem hlt2, List.map_append, ← hy, getElem!_pos b j hlt2]
      rfl)
     have GJ := Hd.mk (gok_join GX.out GY.out)
     have HRUN := Hd.mk (fun W => join_run W x y)
     clear hy
     have xne : wo.heap.size ≠ wq.heap.size := by have := (Array.getElem?_eq_some_iff.1 GQ.out).1; omega
     have xlt : wo.heap.size < wq.heap.size := (Array.getElem?_eq_some_iff.1 GQ.out).1
     have x0 : wq.cell? ⟨wo.heap.size, 0, none⟩ = some (.int .i64 x.f0) := (blk_cell GQ.out 0).trans rfl
     have x1 : wq.cell? ⟨wo.heap.size, 1, none⟩ = some (.int .i64 x.f1) := (blk_cell GQ.out 1).trans rfl
     have x2 : wq.cell? ⟨wo.heap.size, 2, none⟩ = some (.int .i64 x.f2) := (blk_cell GQ.out 2).trans rfl
     have NB := Hd.mk (show m < 1000000000 by have h1 := HK.out.2; have h2 := HJ.out.2; omega)
     generalize joinG x y = z at *
     go_wp2_with (first
      | (go_at_call 31; refine (HRUN.out _).mono ?_; rintro e w4 ⟨rfl, hb4⟩; have B4 := Hd.mk ((BQ.out.alloc BQ.out.size (.cells #[.int .i64 y.f0, .int .i64 y.f1, .int .i64 y.f2] 36)).trans (hb4.mono (by have := BQ.out.size; simp; omega))); have M4 := Hd.mk ((HN.out.below ((Below.refl _ _).alloc (Nat.le_refl _) (.cells #[.int .i64 y.f0, .int .i64 y.f1, .int .i64 y.f2] 36))).below hb4); have G4 := Hd.mk ((hb4.block wo.heap.size (by simp; omega)).trans ((((Below.refl _ wq).alloc (Nat.le_refl _) (.cells #[.int .i64 y.f0, .int .i64 y.f1, .int .i64 y.f2] 36)).block _ xlt).trans GQ.out)); clear hb4)
      | (at_mapUpdate; refine wpList_gput _ rfl _ _ _ rfl w2.heap.size m ks z GJ.out rfl rfl rfl M4.out NB.out ?_; intro w5 hm5 hg5; have M5 := Hd.mk hm5; have B5 := Hd.mk (MapG.putBelow B4.out HB2.out.size hg5); have G5 := Hd.mk ((hg5.block wo.heap.size (Array.getElem?_eq_some_iff.1 G4.out).1 (fun e => by injection e with e; have h1 := XM.out; omega)).trans G4.out); clear hm5 hg5))
     go_roundg (b.length - (j + 1))
     case measure => omega
     case rel => exact ⟨j + 1, m + 1, _, by go_num, by omega, by omega, HK2, M5, B5, G5⟩
    ·have hltz2 : ¬ (j : Int) < (b.length : Int) := by omega
     have HK3 := Hd.mk (show ks = joins (a.take (i + 1)) b ∧ m ≤ (i + 1) * 144 by
      have h1 := HK.out
      have h2 := HJ.out
      refine ⟨?_, by omega⟩
      rw [h1.1, h2.1, List.take_of_length_le (show b.length ≤ j by omega), List.take_succ_eq_append_getElem hlt]
      unfold joins
      rw [List.flatMap_append, ← HX.out, getElem!_pos a i hlt]
      simp)
     go_wp2_with fail
     go_roundg (a.length - (i + 1))
     case measure => omega
     case rel => exact ⟨i + 1, m, ks, by go_num, by omega, by omega, HK3, HN, BQ⟩
  ·have hltz : ¬ (i : Int) < (a.length : Int) := by omega
   have HE := Hd.mk (show js = joins a b by rw [HJ.out.1, List.take_of_length_le (by omega)])
   obtain ⟨wo, rfl⟩ : ∃ z : World, z = wr := ⟨_, rfl⟩
   have VJ := Hd.mk (show ∀ x ∈ js, gok x = true by
    rw [HE.out]
    intro x hx
    obtain ⟨p, hp, hx⟩ := List.mem_flatMap.1 hx
    obtain ⟨q, hq, rfl⟩ := List.mem_map.1 hx
    exact gok_join (VA.out p hp) (VB.out q hq))
   have NB := Hd.mk (show n ≤ 1000000 by have h2 := HJ.out.2; omega)
   have XM := Hd.mk HM.out.lt
   go_wp2_with (at_range; refine wpList_grange _ rfl _ rfl w2.heap.size n js rfl HM.out ?_; intro w3 cnt hcn hr hg3 hs3; have HCN := Hd.mk hcn; have RG := Hd.mk hr; have B3 := Hd.mk (show Below w.heap.size w w3 from BW.out.grown hg3 BW.out.size (by simp)); clear hcn hr hg3 hs3)
   go_loopg [11] cnt (fun gg v11 wq => ∃ (outs : List S36) (cn : Nat), cn ≤ gg ∧ Hd (outs.length + cn ≤ n) ∧ Hd (RngG wq w2.heap.size wo.heap.size n js outs cn) ∧ Hd (Below w.heap.size w wq) ∧ Hd (Kd.R k36 36 wq w.heap.size (fun k => k ≠ w2.heap.size ∧ k ≠ wo.heap.size) v11 outs))
   case atStart => exact ⟨[], cnt, Nat.le_refl _, ⟨by have := HCN.out; simp; omega⟩, RG, B3, ⟨Kd.R_nil _ _ _ _ _⟩⟩
   case round =>
    clear RG B3
    obtain ⟨outs, cn, hg, HLN, RG, BQ, RO⟩ := hrel
    go_wp2_with (at_next; refine wpList_gnext _ rfl _ rfl w2.heap.size wo.heap.size n js outs cn VJ.out rfl RG.out ?gd ?gm)
    case gd =>
     intro hd
     have HD := Hd.mk hd
     clear hd
     have HXE := Hd.mk (show exF belowG outs = exF belowG (joins a b) by rw [← HE.out]; exact ex_congr HD.out)
     obtain ⟨A3, c3, rfl, hl3, hC3⟩ := Kd.R_reads RO.out
     have HC3 := Hd.mk (least_any wr A3 c3 outs hC3 (by have := HLN.out; have := NB.out; omega))
     clear hC3 hl3
     go_wp2_with fail
     refine HC3.out.mono ?_
     rintro e w4 ⟨v, rfl, hR, hb4⟩
     have HR4 := Hd.mk hR
     have HB4 := Hd.mk hb4
     clear hR hb4
     go_wp2_with fail
     go_ret2
     refine ⟨_, rfl, ?_, BQ.out.trans (HB4.out.mono BQ.out.size)⟩
     rw [← HXE.out]
     exact Kd.R_lower HR4.out BQ.out.size
    case gm =>
     intro x c w5 c5 hx hr5 hlt5 hg5 hs5 hen
     have R5 := Hd.mk (RngG.below hr5 (World.grownBy_alloc w5 (.cells #[.int .i64 x.f0, .int .i64 x.f1, .int .i64 x.f2] 36) none) (by simp) (by simp))
     have B5 := Hd.mk ((MapG.putBelow BQ.out BW.out.size hg5).alloc (MapG.putBelow BQ.out BW.out.size hg5).size (.cells #[.int .i64 x.f0, .int .i64 x.f1, .int .i64 x.f2] 36))
     have O5 := Hd.mk (R_grownX (R_grownX RO.out hg5 (fun k hk e => by injection e with e; exact hk.2 e)) (World.grownBy_alloc w5 (.cells #[.int .i64 x.f0, .int .i64 x.f1, .int .i64 x.f2] 36) none) (by simp))
     have L5 := Hd.mk (show (outs ++ [x]).length + c5 ≤ n by have := HLN.out; simp; omega)
     have LM := Hd.mk (show w2.heap.size < w5.heap.size + 1 ∧ wo.heap.size < w5.heap.size + 1 by
      have h1 := XM.out
      have h2 := BQ.out.size
      obtain ⟨_, _, h3, _⟩ := RG.out
      have h4 := h3.lt
      omega)
     have LB := Hd.mk (show outs.length ≤ 1000000 by have := HLN.out; have := NB.out; omega)
     clear hr5 hg5 hs5 hx
     go_wp2_with (((with_reducible refine gate_builtin (b := .append) (xs := #[.tmp 46, .tmp 48]) rfl ?_); at_builtin; refine Kd.R_append k36 (w0 := w) (W := w5.alloc (.cells #[.int .i64 x.f0, .int .i64 x.f1, .int .i64 x.f2] 36)) w.heap.size rfl (.tmp 46) (.tmp 48) 41 36 (.agg #[(.int .i64 0), (.int .i64 0), (.int .i64 0)]) 24 rfl Try.underlying41 info36 rfl (by decide) (by omega) u11 _ x [.int .i64 x.f0, .int .i64 x.f1, .int .i64 x.f2] (fun k => k ≠ w2.heap.size ∧ k ≠ wo.heap.size) (fun _ => False) rfl (by simp; rfl) ?aP (fun _ hk => hk.elim) ?aF O5.out B5.out ?aS ?aL ?_; (case aP => exact k36_mkM _ _ _ x); (case aF => intro k hk; have := LM.out; simp at hk; exact ⟨by omega, by omega⟩); (case aS => exact B5.out.size); (case aL => have := LB.out; omega); intro v2 w6 ho hb hg2 hat; have HO6 := Hd.mk ho; have HB6 := Hd.mk hb; have R6 := Hd.mk (RngG.below R5.out hg2 (fun e => ((O5.out.1 _ e.symm).1) rfl) (fun e => ((O5.out.1 _ e.symm).2) rfl)); clear ho hb hg2 hat))
     go_roundg c5
     case measure => omega
     case rel => exact ⟨_, c5, Nat.le_refl _, L5, R6, HB6, HO6⟩
set_option maxHeartbeats 4000000 in
theorem both_any (w : World) (A B : Option Addr) (ca cb : Nat) (a b : List S36) (hA : Kd.C k36 w A a.length a) (hB : Kd.C k36 w B b.length b) (hca : a.length ≤ ca) (hcb : b.length ≤ cb) (ha : a.length ≤ 1000000) (hb : b.length ≤ 1000000) :
  Calls Try.prog 54 #[.slice A a.length ca, .slice B b.length cb] w fun e w' => ∃ v, e = .returned (.tuple #[v, .int .i64 (botF a b).2]) ∧ Kd.R k36 36 w' w.heap.size (fun _ => True) v (botF a b).1 ∧ Below w.heap.size w w' := by
 unfold botF
 cases qa : anB a with
 | false =>
  rw [Bool.false_and, if_neg (by decide)]
  have XA := Hd.mk (antichain_any w A ca a hA hca ha false qa)
  clear qa hA hB hca hcb ha hb
  simp only
  go_enter Try.func54, Try.ntmps54
  go_wp2_with (go_at_call 80; refine XA.out.mono ?_; rintro e w1 ⟨rfl, hb⟩; have HB1 := Hd.mk hb; clear hb)
  go_ret2
  exact ⟨_, rfl, Kd.R_nil _ _ _ _ _, HB1.out⟩
 | true =>
  cases qb : anB b with
  | false =>
   rw [Bool.and_false, if_neg (by decide)]
   have XA := Hd.mk (antichain_any w A ca a hA hca ha true qa)
   have XB := Hd.mk (fun W (h : Below w.heap.size w W) => antichain_any W B cb b (Kd.C_below hB h) hcb hb false qb)
   clear qa qb hA hB hca hcb ha hb
   simp only
   go_enter Try.func54, Try.ntmps54
   go_wp2_with fail
   refine XA.out.mono ?_
   rintro e w1 ⟨rfl, hb⟩
   have HB1 := Hd.mk hb
   clear hb
   go_wp2_with fail
   refine (XB.out _ HB1.out).mono ?_
   rintro e w2 ⟨rfl, hb⟩
   have HB2 := Hd.mk hb
   clear hb
   go_wp2_with fail
   go_ret2
   exact ⟨_, rfl, Kd.R_nil _ _ _ _ _, HB1.out.trans (HB2.out.mono HB1.out.size)⟩
  | true => exact both_yes w A B ca cb a b hA hB hca hcb qa qb
end Go.Proofs.Ytnbdfmdjedakcaa
