/- No conditions. -/
import Derived.Test.YtnbdfmdjedakcaaHB
import Derived.Test.YtnbdfmdjedakcaaJA
namespace Go.Proofs.Ytnbdfmdjedakcaa
open Go.RowKit Go.Proofs.YtnbdfmdjedakcaaW.PrintWords Go.Proofs.YtnbdfmdjedakcaaW.PrintLast Go.Proofs.YtnbdfmdjedakcaaW.PrintMore PP Go.Sort
set_option linter.unusedVariables false
set_option linter.unusedSimpArgs false
abbrev Asc (xs : List S36) : Prop := xs.Pairwise fun x y => ltG x y = true
theorem ltG_irr (x : S36) : ¬ ltG x x = true := by rw [ltG_iff]; omega
theorem ltG_trans {x y z : S36} (h1 : ltG x y = true) (h2 : ltG y z = true) : ltG x z = true := by rw [ltG_iff] at *; omega
theorem asc_ext : ∀ (xs ys : List S36), Asc xs → Asc ys → (∀ x, x ∈ xs ↔ x ∈ ys) → xs = ys
 | [], [], _, _, _ => rfl
 | [], y :: ys, _, _, h => absurd ((h y).mpr List.mem_cons_self) (by simp)
 | x :: xs, [], _, _, h => absurd ((h x).mp List.mem_cons_self) (by simp)
 | x :: xs, y :: ys, hx, hy, h => by
  obtain ⟨hx1, hx2⟩ := List.pairwise_cons.1 hx
  obtain ⟨hy1, hy2⟩ := List.pairwise_cons.1 hy
  have e : x = y := by
   rcases List.mem_cons.1 ((h x).mp List.mem_cons_self) with e | e
   ·exact e
   ·rcases List.mem_cons.1 ((h y).mpr List.mem_cons_self) with e2 | e2
    ·exact e2.symm
    ·exact absurd (ltG_trans (hx1 _ e2) (hy1 _ e)) (ltG_irr x)
  subst e
  rw [asc_ext xs ys hx2 hy2 (fun z => ?_)]
  constructor
  ·intro hz
   rcases List.mem_cons.1 ((h z).mp (List.mem_cons_of_mem _ hz)) with e | e
   ·subst e; exact absurd (hx1 _ hz) (ltG_irr _)
   ·exact e
  ·intro hz
   rcases List.mem_cons.1 ((h z).mpr (List.mem_cons_of_mem _ hz)) with e | e
   ·subst e; exact absurd (hy1 _ hz) (ltG_irr _)
   ·exact e
theorem gok_iff {x : S36} : gok x = true ↔ (0 ≤ x.f0 ∧ x.f0 ≤ 11) ∧ (0 ≤ x.f1 ∧ x.f1 ≤ 11) ∧ (0 ≤ x.f2 ∧ x.f2 ≤ 11) := by
 unfold gok gokB
 rw [Bool.and_eq_true, Bool.and_eq_true, lvB_true, lvB_true, lvB_true]
theorem mem_all {x : S36} : x ∈ allL ↔ gok x = true := by
 rw [gok_iff]
 unfold allL
 simp only [List.mem_flatMap, List.mem_map, List.mem_range]
 constructor
 ·rintro ⟨a, ha, b, hb, c, hc, rfl⟩
  simp only
  omega
 ·rintro ⟨h0, h1, h2⟩
  refine ⟨x.f0.toNat, by omega, x.f1.toNat, by omega, x.f2.toNat, by omega, ?_⟩
  obtain ⟨a, b, c⟩ := x
  simp only at *
  simp only [S36.mk.injEq]
  omega
theorem all_asc : Asc allL := by
 unfold allL Asc
 have r : ∀ n, (List.range n).Pairwise (· < ·) := fun n => List.pairwise_lt_range
 refine List.pairwise_flatMap.2 ⟨fun a _ => List.pairwise_flatMap.2 ⟨fun b _ => List.pairwise_map.2 ((r 12).imp fun {i j} h => ?_), (r 12).imp fun h => ?_⟩, (r 12).imp fun h => ?_⟩
 ·rw [ltG_iff]; exact .inr ⟨rfl, .inr ⟨rfl, by simpa using h⟩⟩
 ·intro x hx y hy
  simp only [List.mem_map] at hx hy
  obtain ⟨_, _, rfl⟩ := hx
  obtain ⟨_, _, rfl⟩ := hy
  rw [ltG_iff]; simp only [true_and]; omega
 ·intro x hx y hy
  simp only [List.mem_map, List.mem_flatMap] at hx hy
  obtain ⟨_, _, _, _, rfl⟩ := hx
  obtain ⟨_, _, _, _, rfl⟩ := hy
  rw [ltG_iff]; simp only; omega
theorem below_iff {x y : S36} : belowG x y = true ↔ x.f0 ≤ y.f0 ∧ x.f1 ≤ y.f1 ∧ x.f2 ≤ y.f2 := by
 unfold belowG; simp
theorem below_refl (x : S36) : belowG x x = true := by rw [below_iff]; omega
theorem below_trans {x y z : S36} (h1 : belowG x y = true) (h2 : belowG y z = true) : belowG x z = true := by rw [below_iff] at *; omega
theorem below_anti {x y : S36} (h1 : belowG x y = true) (h2 : belowG y x = true) : x = y := by
 rw [below_iff] at *
 obtain ⟨a, b, c⟩ := x
 obtain ⟨d, e, f⟩ := y
 simp only at *
 simp only [S36.mk.injEq]
 omega
theorem mem_isIn {l : List S36} {x : S36} : isIn l x = true ↔ x ∈ l := by
 unfold isIn
 rw [List.any_eq_true]
 constructor
 ·rintro ⟨y, hy, h⟩
  rw [eqG_iff.1 h]; exact hy
 ·intro h
  exact ⟨x, h, eqG_iff.2 rfl⟩
def alone (rule : S36 → S36 → Bool) (l : List S36) (x : S36) : Bool := !(l.any fun o => !eqG o x && rule o x)
theorem exGo_mem (rule : S36 → S36 → Bool) (l : List S36) : ∀ k, k ≤ l.length → (exGo rule l k).1.Nodup ∧ (exGo rule l k).2.Nodup ∧ (∀ x, x ∈ (exGo rule l k).1 ↔ ∃ j, j < k ∧ l[j]? = some x) ∧ ∀ x, x ∈ (exGo rule l k).2 ↔ x ∈ (exGo rule l k).1 ∧ alone rule l x = true
 | 0, _ => ⟨List.nodup_nil, List.nodup_nil, fun x => by simp [exGo], fun x => by simp [exGo]⟩
 | k + 1, hk => by
  obtain ⟨i1, i2, i3, i4⟩ := exGo_mem rule l k (by omega)
  have hx : l[k]? = some l[k]! := by rw [List.getElem?_eq_getElem (by omega), getElem!_pos l k (by omega)]
  have step : ∀ y, (∃ j, j < k + 1 ∧ l[j]? = some y) ↔ (∃ j, j < k ∧ l[j]? = some y) ∨ y = l[k]! := fun y => by
   constructor
   ·rintro ⟨j, hj, h⟩
    by_cases e : j = k
    ·subst e; right; rw [hx] at h; exact (Option.some.inj h).symm
    ·exact .inl ⟨j, by omega, h⟩
   ·rintro (⟨j, hj, h⟩ | rfl)
    ·exact ⟨j, by omega, h⟩
    ·exact ⟨k, by omega, hx⟩
  rw [exGo]
  generalize l[k]! = z at step
  by_cases hs : isIn (exGo rule l k).1 z = true
  ·rw [if_pos hs]
   refine ⟨i1, i2, fun y => ?_, i4⟩
   rw [step, i3]
   constructor
   ·exact .inl
   ·rintro (h | rfl)
    ·exact h
    ·exact (i3 _).1 (mem_isIn.1 hs)
  ·rw [if_neg hs]
   have hn : z ∉ (exGo rule l k).1 := fun h => hs (mem_isIn.2 h)
   refine ⟨?_, ?_, fun y => ?_, fun y => ?_⟩
   ·exact List.nodup_append.2 ⟨i1, by simp, by intro a ha b hb; simp only [List.mem_singleton] at hb; subst hb; rintro rfl; exact hn ha⟩
   ·split
    ·exact i2
    ·exact List.nodup_append.2 ⟨i2, by simp, by intro a ha b hb; simp only [List.mem_singleton] at hb; subst hb; rintro rfl; exact hn ((i4 _).1 ha).1⟩
   ·simp only [List.mem_append, List.mem_singleton, i3, step]
   ·simp only [List.mem_append, List.mem_singleton]
    by_cases ha : (l.any fun o => !eqG o z && rule o z) = true
    ·rw [if_pos ha, i4]
     constructor
     ·rintro ⟨h1, h2⟩; exact ⟨.inl h1, h2⟩
     ·rintro ⟨h1 | rfl, h2⟩
      ·exact ⟨h1, h2⟩
      ·unfold alone at h2; rw [ha] at h2; exact absurd h2 (by decide)
    ·rw [if_neg ha]
     simp only [List.mem_append, List.mem_singleton, i4]
     constructor
     ·rintro (⟨h1, h2⟩ | rfl)
      ·exact ⟨.inl h1, h2⟩
      ·exact ⟨.inr rfl, by unfold alone; simpa using ha⟩
     ·rintro ⟨h1 | rfl, h2⟩
      ·exact .inl ⟨h1, h2⟩
      ·exact .inr rfl
theorem ex_mem (rule : S36 → S36 → Bool) (l : List S36) (x : S36) : x ∈ exF rule l ↔ x ∈ l ∧ alone rule l x = true := by
 obtain ⟨_, _, i3, i4⟩ := exGo_mem rule l l.length (Nat.le_refl _)
 unfold exF sortG
 rw [List.mem_mergeSort, i4, i3]
 constructor
 ·rintro ⟨⟨j, _, h⟩, h2⟩; exact ⟨List.mem_of_getElem? h, h2⟩
 ·rintro ⟨h, h2⟩
  obtain ⟨j, hj, e⟩ := List.mem_iff_getElem.1 h
  exact ⟨⟨j, hj, by rw [List.getElem?_eq_getElem hj, e]⟩, h2⟩
theorem sortG_asc {xs : List S36} (h : xs.Nodup) : Asc (sortG xs) := by
 have h1 : (sortG xs).Nodup := (List.mergeSort_perm xs _).nodup_iff.2 h
 have h2 : (sortG xs).Pairwise fun x y => (!ltOf cfG y x) = true := by
  unfold sortG
  refine List.pairwise_mergeSort (fun a b c => ?_) (fun a b => ?_) xs
  ·simp only [ltOf_G, Bool.not_eq_true', ltG_no]; omega
  ·simp only [ltOf_G, Bool.or_eq_true, Bool.not_eq_true', ltG_no]; omega
 refine (h2.and h1).imp fun {x y} h => ?_
 obtain ⟨h, hne⟩ := h
 cases hq : ltG x y with
 | true => rfl
 | false =>
  refine absurd (ltG_total x y (by rw [ltOf_G]; exact hq) (by simpa using h)) hne
theorem ex_asc (rule : S36 → S36 → Bool) (l : List S36) : Asc (exF rule l) := sortG_asc (exGo_mem rule l l.length (Nat.le_refl _)).2.1
theorem filter_asc (p : S36 → Bool) : Asc (allL.filter p) := all_asc.filter _
theorem ex_filter (rule : S36 → S36 → Bool) (l : List S36) (h : ∀ x ∈ l, gok x = true) : exF rule l = allL.filter fun x => isIn l x && alone rule l x :=
 asc_ext _ _ (ex_asc _ _) (filter_asc _) fun x => by
  rw [ex_mem, List.mem_filter, mem_all, Bool.and_eq_true, mem_isIn]
  constructor
  ·rintro ⟨h1, h2⟩; exact ⟨h x h1, h1, h2⟩
  ·rintro ⟨_, h1, h2⟩; exact ⟨h1, h2⟩
def upS (l : List S36) (g : S36) : Bool := l.any fun o => belowG o g
theorem upS_iff {l : List S36} {g : S36} : upS l g = true ↔ ∃ o, o ∈ l ∧ belowG o g = true := by
 unfold upS; rw [List.any_eq_true]
def UpC (U : S36 → Bool) : Prop := ∀ x y, gok x = true → gok y = true → belowG x y = true → U x = true → U y = true
def DnC (U : S36 → Bool) : Prop := ∀ x y, gok x = true → gok y = true → belowG x y = true → U y = true → U x = true
theorem upS_up (l : List S36) : UpC (upS l) := fun x y _ _ h hx => by
 obtain ⟨o, ho, h2⟩ := upS_iff.1 hx
 exact upS_iff.2 ⟨o, ho, below_trans h2 h⟩
def nb (g : S36) (s : Int) (i : Nat) : S36 := if i = 0 then ⟨g.f0 + s, g.f1, g.f2⟩ else if i = 1 then ⟨g.f0, g.f1 + s, g.f2⟩ else ⟨g.f0, g.f1, g.f2 + s⟩
def hasNb (U : S36 → Bool) (s : Int) (g : S36) : Bool := (gok (nb g s 0) && U (nb g s 0)) || ((gok (nb g s 1) && U (nb g s 1)) || (gok (nb g s 2) && U (nb g s 2)))
theorem hasNb_iff {U : S36 → Bool} {s : Int} {g : S36} : hasNb U s g = true ↔ ∃ i, i < 3 ∧ gok (nb g s i) = true ∧ U (nb g s i) = true := by
 unfold hasNb
 simp only [Bool.or_eq_true, Bool.and_eq_true]
 constructor
 ·rintro (h | h | h)
  ·exact ⟨0, by omega, h⟩
  ·exact ⟨1, by omega, h⟩
  ·exact ⟨2, by omega, h⟩
 ·rintro ⟨i, hi, h⟩
  match i, hi with
  | 0, _ => exact .inl h
  | 1, _ => exact .inr (.inl h)
  | 2, _ => exact .inr (.inr h)
def edgeL (U : S36 → Bool) (s : Int) : List S36 := allL.filter fun g => U g && !hasNb U s g
theorem mem_edge {U : S36 → Bool} {s : Int} {g : S36} : g ∈ edgeL U s ↔ gok g = true ∧ U g = true ∧ hasNb U s g = false := by
 unfold edgeL
 rw [List.mem_filter, mem_all, Bool.and_eq_true, Bool.not_eq_true']
theorem edge_asc (U : S36 → Bool) (s : Int) : Asc (edgeL U s) := filter_asc _
theorem edge_congr {U V : S36 → Bool} {s : Int} (h : ∀ g, gok g = true → U g = V g) : edgeL U s = edgeL V s :=
 asc_ext _ _ (edge_asc _ _) (edge_asc _ _) fun g => by
  rw [mem_edge, mem_edge]
  have hn : hasNb U s g = hasNb V s g := by
   rw [Bool.eq_iff_iff, hasNb_iff, hasNb_iff]
   constructor
   ·rintro ⟨i, hi, h1, h2⟩; exact ⟨i, hi, h1, by rw [← h _ h1]; exact h2⟩
   ·rintro ⟨i, hi, h1, h2⟩; exact ⟨i, hi, h1, by rw [h _ h1]; exact h2⟩
  rw [hn]
  constructor
  ·rintro ⟨h1, h2⟩; rw [h g h1] at h2; exact ⟨h1, h2⟩
  ·rintro ⟨h1, h2⟩; rw [← h g h1] at h2; exact ⟨h1, h2⟩
theorem nb_below (g : S36) (i : Nat) : belowG (nb g (-1) i) g = true ∧ nb g (-1) i ≠ g := by
 obtain ⟨a, b, c⟩ := g
 unfold nb
 constructor
 ·rw [below_iff]; split
  ·simp only; omega
  ·split <;> (simp only; omega)
 ·split
  ·intro h; simp only [S36.mk.injEq] at h; omega
  ·split <;> (intro h; simp only [S36.mk.injEq] at h; omega)
theorem nb_above (g : S36) (i : Nat) : belowG g (nb g 1 i) = true ∧ nb g 1 i ≠ g := by
 obtain ⟨a, b, c⟩ := g
 unfold nb
 constructor
 ·rw [below_iff]; split
  ·simp only; omega
  ·split <;> (simp only; omega)
 ·split
  ·intro h; simp only [S36.mk.injEq] at h; omega
  ·split <;> (intro h; simp only [S36.mk.injEq] at h; omega)
theorem nb_between {o g : S36} (h : belowG o g = true) (hne : o ≠ g) (ho : gok o = true) (hg : gok g = true) :
  (∃ i, i < 3 ∧ gok (nb g (-1) i) = true ∧ belowG o (nb g (-1) i) = true) ∧ ∃ i, i < 3 ∧ gok (nb o 1 i) = true ∧ belowG (nb o 1 i) g = true := by
 obtain ⟨a, b, c⟩ := o
 obtain ⟨d, e, f⟩ := g
 rw [below_iff] at h
 rw [gok_iff] at ho hg
 simp only at h ho hg
 by_cases h0 : a < d
 ·refine ⟨⟨0, by omega, ?_, ?_⟩, 0, by omega, ?_, ?_⟩ <;> (first | rw [gok_iff] | rw [below_iff]) <;> (unfold nb; simp only [if_true]; omega)
 ·by_cases h1 : b < e
  ·refine ⟨⟨1, by omega, ?_, ?_⟩, 1, by omega, ?_, ?_⟩ <;> (first | rw [gok_iff] | rw [below_iff]) <;> (unfold nb; simp only [if_true, show ¬ (1 : Nat) = 0 by decide, if_false]; omega)
  ·by_cases h2 : c < f
   ·refine ⟨⟨2, by omega, ?_, ?_⟩, 2, by omega, ?_, ?_⟩ <;> (first | rw [gok_iff] | rw [below_iff]) <;> (unfold nb; simp only [show ¬ (2 : Nat) = 0 by decide, show ¬ (2 : Nat) = 1 by decide, if_false]; omega)
   ·exact absurd (by simp only [S36.mk.injEq]; omega) hne
theorem edge_min {U : S36 → Bool} (hU : UpC U) {g : S36} (hg : gok g = true) : hasNb U (-1) g = false ↔ ∀ o, gok o = true → U o = true → belowG o g = true → o = g := by
 constructor
 ·intro h o ho h1 h2
  refine Classical.byContradiction fun hne => ?_
  obtain ⟨⟨i, hi, a, b⟩, _⟩ := nb_between h2 hne ho hg
  have : hasNb U (-1) g = true := hasNb_iff.2 ⟨i, hi, a, hU _ _ ho a b h1⟩
  rw [h] at this
  exact absurd this (by decide)
 ·intro h
  cases hq : hasNb U (-1) g with
  | false => rfl
  | true =>
   obtain ⟨i, _, a, b⟩ := hasNb_iff.1 hq
   exact absurd (h _ a b (nb_below g i).1) (nb_below g i).2
theorem edge_max {U : S36 → Bool} (hU : DnC U) {g : S36} (hg : gok g = true) : hasNb U 1 g = false ↔ ∀ o, gok o = true → U o = true → belowG g o = true → o = g := by
 constructor
 ·intro h o ho h1 h2
  refine Classical.byContradiction fun hne => ?_
  obtain ⟨_, i, hi, a, b⟩ := nb_between h2 (fun e => hne e.symm) hg ho
  have : hasNb U 1 g = true := hasNb_iff.2 ⟨i, hi, a, hU _ _ a ho b h1⟩
  rw [h] at this
  exact absurd this (by decide)
 ·intro h
  cases hq : hasNb U 1 g with
  | false => rfl
  | true =>
   obtain ⟨i, _, a, b⟩ := hasNb_iff.1 hq
   exact absurd (h _ a b (nb_above g i).1) (nb_above g i).2
theorem alone_iff {rule : S36 → S36 → Bool} {l : List S36} {x : S36} : alone rule l x = true ↔ ∀ o, o ∈ l → rule o x = true → o = x := by
 unfold alone
 rw [Bool.not_eq_true', List.any_eq_false]
 constructor
 ·intro h o ho hr
  refine Classical.byContradiction fun hne => h o ho ?_
  rw [hr, Bool.and_true, Bool.not_eq_true']
  cases hq : eqG o x with
  | false => rfl
  | true => exact absurd (eqG_iff.1 hq) hne
 ·intro h o ho hr
  simp only [Bool.and_eq_true, Bool.not_eq_true'] at hr
  have := h o ho hr.2
  subst this
  rw [eqG_iff.2 rfl] at hr
  exact absurd hr.1 (by decide)
theorem least_edge {l : List S36} (h : ∀ x ∈ l, gok x = true) : exF belowG l = edgeL (upS l) (-1) :=
 asc_ext _ _ (ex_asc _ _) (edge_asc _ _) fun g => by
  rw [ex_mem, mem_edge, alone_iff]
  constructor
  ·rintro ⟨h1, h2⟩
   refine ⟨h g h1, upS_iff.2 ⟨g, h1, below_refl g⟩, (edge_min (upS_up l) (h g h1)).2 fun o ho h3 h4 => ?_⟩
   obtain ⟨p, hp, h5⟩ := upS_iff.1 h3
   have e := h2 p hp (below_trans h5 h4)
   subst e
   exact below_anti h4 h5
  ·rintro ⟨hg, h1, h2⟩
   rw [edge_min (upS_up l) hg] at h2
   obtain ⟨p, hp, h3⟩ := upS_iff.1 h1
   have e := h2 p (h p hp) (upS_iff.2 ⟨p, hp, below_refl p⟩) h3
   subst e
   exact ⟨hp, fun o ho h4 => h2 o (h o ho) (upS_iff.2 ⟨o, ho, below_refl o⟩) h4⟩
theorem down_to {U : S36 → Bool} : ∀ (n : Nat) (g : S36), gok g = true → U g = true → (g.f0 + g.f1 + g.f2).toNat ≤ n → ∃ o, o ∈ edgeL U (-1) ∧ belowG o g = true := by
 intro n
 induction n with
 | zero =>
  intro g hg hU hn
  refine ⟨g, mem_edge.2 ⟨hg, hU, ?_⟩, below_refl g⟩
  cases hq : hasNb U (-1) g with
  | false => rfl
  | true =>
   obtain ⟨i, _, a, b⟩ := hasNb_iff.1 hq
   obtain ⟨h1, h2⟩ := nb_below g i
   rw [gok_iff] at hg a
   rw [below_iff] at h1
   exact absurd (by generalize nb g (-1) i = q at *; obtain ⟨x, y, z⟩ := g; obtain ⟨u, v, t⟩ := q; simp only [S36.mk.injEq] at *; omega) h2
 | succ n ih =>
  intro g hg hU hn
  cases hq : hasNb U (-1) g with
  | false => exact ⟨g, mem_edge.2 ⟨hg, hU, hq⟩, below_refl g⟩
  | true =>
   obtain ⟨i, hi, a, b⟩ := hasNb_iff.1 hq
   have hs : ((nb g (-1) i).f0 + (nb g (-1) i).f1 + (nb g (-1) i).f2) = g.f0 + g.f1 + g.f2 - 1 := by
    unfold nb; split
    ·simp only; omega
    ·split <;> (simp only; omega)
   rw [gok_iff] at hg
   obtain ⟨o, ho, h2⟩ := ih _ a b (by omega)
   exact ⟨o, ho, below_trans h2 (nb_below g i).1⟩
theorem up_to {U : S36 → Bool} : ∀ (n : Nat) (g : S36), gok g = true → U g = true → (33 - (g.f0 + g.f1 + g.f2)).toNat ≤ n → ∃ o, o ∈ edgeL U 1 ∧ belowG g o = true := by
 intro n
 induction n with
 | zero =>
  intro g hg hU hn
  refine ⟨g, mem_edge.2 ⟨hg, hU, ?_⟩, below_refl g⟩
  cases hq : hasNb U 1 g with
  | false => rfl
  | true =>
   obtain ⟨i, _, a, b⟩ := hasNb_iff.1 hq
   obtain ⟨h1, h2⟩ := nb_above g i
   rw [gok_iff] at hg a
   rw [below_iff] at h1
   exact absurd (by generalize nb g 1 i = q at *; obtain ⟨x, y, z⟩ := g; obtain ⟨u, v, t⟩ := q; simp only [S36.mk.injEq] at *; omega) h2
 | succ n ih =>
  intro g hg hU hn
  cases hq : hasNb U 1 g with
  | false => exact ⟨g, mem_edge.2 ⟨hg, hU, hq⟩, below_refl g⟩
  | true =>
   obtain ⟨i, hi, a, b⟩ := hasNb_iff.1 hq
   have hs : ((nb g 1 i).f0 + (nb g 1 i).f1 + (nb g 1 i).f2) = g.f0 + g.f1 + g.f2 + 1 := by
    unfold nb; split
    ·simp only; omega
    ·split <;> (simp only; omega)
   rw [gok_iff] at hg
   obtain ⟨o, ho, h2⟩ := ih _ a b (by omega)
   exact ⟨o, ho, below_trans (nb_above g i).1 h2⟩
theorem up_min {U : S36 → Bool} (hU : UpC U) {g : S36} (hg : gok g = true) : upS (edgeL U (-1)) g = U g := by
 rw [Bool.eq_iff_iff, upS_iff]
 constructor
 ·rintro ⟨o, ho, h⟩
  obtain ⟨h1, h2, _⟩ := mem_edge.1 ho
  exact hU _ _ h1 hg h h2
 ·exact fun h => down_to _ g hg h (Nat.le_refl _)
theorem dn_max {U : S36 → Bool} (hU : DnC U) {g : S36} (hg : gok g = true) : ((edgeL U 1).any fun o => belowG g o) = U g := by
 rw [Bool.eq_iff_iff, List.any_eq_true]
 constructor
 ·rintro ⟨o, ho, h⟩
  obtain ⟨h1, h2, _⟩ := mem_edge.1 ho
  exact hU _ _ hg h1 h h2
 ·exact fun h => up_to _ g hg h (Nat.le_refl _)
theorem nodup_short : ∀ (n : Nat) (l : List Nat), l.Nodup → (∀ x ∈ l, x < n) → l.length ≤ n
 | 0, [], _, _ => Nat.le_refl _
 | 0, x :: l, _, h => absurd (h x List.mem_cons_self) (by omega)
 | n + 1, l, hn, h => by
  by_cases hm : n ∈ l
  ·have h1 := nodup_short n (l.erase n) (hn.erase n) (fun x hx => by
    have h2 := h x (List.mem_of_mem_erase hx)
    have h3 : x ≠ n := fun e => by subst e; exact (List.Nodup.not_mem_erase hn) hx
    omega)
   rw [List.length_erase_of_mem hm] at h1
   omega
  ·have := nodup_short n l hn (fun x hx => by
    have h2 := h x hx
    have h3 : x ≠ n := fun e => by subst e; exact hm hx
    omega)
   omega
def Anti (l : List S36) : Prop := (∀ x ∈ l, gok x = true) ∧ Asc l ∧ ∀ x ∈ l, ∀ y ∈ l, belowG x y = true → x = y
theorem Anti.nodup {l : List S36} (h : Anti l) : l.Nodup := h.2.1.imp fun {x y} hxy e => by subst e; exact ltG_irr _ hxy
theorem Anti.short {l : List S36} (h : Anti l) : l.length ≤ 144 := by
 have hk : (l.map fun x : S36 => x.f0.toNat * 12 + x.f1.toNat).Nodup := by
  refine List.pairwise_map.2 ?_
  have := h.nodup
  refine List.Pairwise.imp_of_mem (fun {x y} hx hy hne e => hne ?_) this
  have gx := gok_iff.1 (h.1 x hx)
  have gy := gok_iff.1 (h.1 y hy)
  by_cases hz : x.f2 ≤ y.f2
  ·exact h.2.2 x hx y hy (below_iff.2 (by omega))
  ·exact (h.2.2 y hy x hx (below_iff.2 (by omega))).symm
 have := nodup_short 144 _ hk (fun n hn => by
  obtain ⟨x, hx, rfl⟩ := List.mem_map.1 hn
  have gx := gok_iff.1 (h.1 x hx)
  omega)
 simpa using this
theorem Anti.least {l : List S36} (h : Anti l) : exF belowG l = l :=
 asc_ext _ _ (ex_asc _ _) h.2.1 fun x => by
  rw [ex_mem, alone_iff]
  exact ⟨fun a => a.1, fun a => ⟨a, fun o ho hr => h.2.2 o ho x a hr⟩⟩
theorem anti_of_least {l : List S36} (hv : ∀ x ∈ l, gok x = true) (h : exF belowG l = l) : Anti l := by
 refine ⟨hv, by rw [← h]; exact ex_asc _ _, fun x hx y hy hb => ?_⟩
 rw [← h, ex_mem, alone_iff] at hy
 exact hy.2 x hx hb
theorem Anti.edge {l : List S36} (h : Anti l) : edgeL (upS l) (-1) = l := by rw [← least_edge h.1]; exact h.least
theorem anti_min {U : S36 → Bool} (hU : UpC U) : Anti (edgeL U (-1)) :=
 ⟨fun x hx => (mem_edge.1 hx).1, edge_asc _ _, fun x hx y hy hb => by
  obtain ⟨h1, h2, _⟩ := mem_edge.1 hx
  obtain ⟨h3, h4, h5⟩ := mem_edge.1 hy
  exact (edge_min hU h3).1 h5 x h1 h2 hb⟩
theorem anti_max {U : S36 → Bool} (hU : DnC U) : Anti (edgeL U 1) :=
 ⟨fun x hx => (mem_edge.1 hx).1, edge_asc _ _, fun x hx y hy hb => by
  obtain ⟨h1, h2, h6⟩ := mem_edge.1 hx
  obtain ⟨h3, h4, h5⟩ := mem_edge.1 hy
  exact ((edge_max hU h1).1 h6 y h3 h4 hb).symm⟩
theorem anti_ex {l : List S36} (hv : ∀ x ∈ l, gok x = true) : Anti (exF belowG l) := by
 rw [least_edge hv]; exact anti_min (upS_up l)
end Go.Proofs.Ytnbdfmdjedakcaa
