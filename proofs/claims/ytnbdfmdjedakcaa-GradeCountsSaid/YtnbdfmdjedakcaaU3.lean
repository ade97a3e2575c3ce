/- Classes: union, intersection, complement; In, Count and the reference's Antichain. Plain. No conditions. -/
import Derived.Test.YtnbdfmdjedakcaaU2
import Derived.Test.YtnbdfmdjedakcaaExt2
import Derived.Test.YtnbdfmdjedakcaaQ50
import Derived.Test.YtnbdfmdjedakcaaQ51
namespace Go.Proofs.Ytnbdfmdjedakcaa.PP
open Go.RowKit Go.Proofs.YtnbdfmdjedakcaaW.PrintWords Go.Proofs.YtnbdfmdjedakcaaW.PrintLast Go.Proofs.YtnbdfmdjedakcaaW.PrintMore Go.Proofs.Ytnbdfmdjedakcaa
set_option linter.unusedVariables false
set_option linter.unusedSimpArgs false
theorem anB_of {l : List S36} (h : Anti l) : anB l = true := anB_iff.2 h
/-- The class of least members of an up-set. -/
def clU (U : S36 → Bool) : List S36 := edgeL U (-1)
theorem clU_anti {U : S36 → Bool} (h : UpC U) : Anti (clU U) := anti_min h
theorem clU_up {U : S36 → Bool} (h : UpC U) {g : S36} (hg : gok g = true) : upS (clU U) g = U g := up_min h hg
theorem clU_of {l : List S36} (h : Anti l) : clU (upS l) = l := h.edge
theorem clU_congr {U V : S36 → Bool} (h : ∀ g, gok g = true → U g = V g) : clU U = clU V := edge_congr h
theorem up_or {U V : S36 → Bool} (hU : UpC U) (hV : UpC V) : UpC fun g => U g || V g := fun x y hx hy hb h => by
  simp only [Bool.or_eq_true] at *
  rcases h with h | h
  · exact .inl (hU x y hx hy hb h)
  · exact .inr (hV x y hx hy hb h)
theorem up_and {U V : S36 → Bool} (hU : UpC U) (hV : UpC V) : UpC fun g => U g && V g := fun x y hx hy hb h => by
  simp only [Bool.and_eq_true] at *
  exact ⟨hU x y hx hy hb h.1, hV x y hx hy hb h.2⟩
theorem upS_append (a b : List S36) (g : S36) : upS (a ++ b) g = (upS a g || upS b g) := by
  unfold upS
  rw [List.any_append]
theorem join_below {x y g : S36} : belowG (joinG x y) g = true ↔ belowG x g = true ∧ belowG y g = true := by
  rw [below_iff, below_iff, below_iff]
  unfold joinG mx
  simp only
  constructor
  · intro h
    refine ⟨⟨?_, ?_, ?_⟩, ?_, ?_, ?_⟩
    all_goals (obtain ⟨h0, h1, h2⟩ := h; first | (split at h0 <;> omega) | (split at h1 <;> omega) | (split at h2 <;> omega))
  · rintro ⟨⟨a0, a1, a2⟩, b0, b1, b2⟩
    refine ⟨?_, ?_, ?_⟩ <;> (split <;> omega)
theorem upS_joins (a b : List S36) (g : S36) : upS (joins a b) g = (upS a g && upS b g) := by
  rw [Bool.eq_iff_iff, Bool.and_eq_true, upS_iff, upS_iff, upS_iff]
  unfold joins
  constructor
  · rintro ⟨o, ho, h⟩
    obtain ⟨x, hx, ho⟩ := List.mem_flatMap.1 ho
    obtain ⟨y, hy, rfl⟩ := List.mem_map.1 ho
    obtain ⟨h1, h2⟩ := join_below.1 h
    exact ⟨⟨x, hx, h1⟩, y, hy, h2⟩
  · rintro ⟨⟨x, hx, h1⟩, y, hy, h2⟩
    exact ⟨_, List.mem_flatMap.2 ⟨x, hx, List.mem_map.2 ⟨y, hy, rfl⟩⟩, join_below.2 ⟨h1, h2⟩⟩
theorem eit_cl {a b : List S36} (ha : Anti a) (hb : Anti b) : eitF a b = (clU fun g => upS a g || upS b g, 0) := by
  unfold eitF
  rw [anB_of ha, anB_of hb, if_pos (by decide), least_edge (fun x hx => by
    rcases List.mem_append.1 hx with h | h
    · exact ha.1 x h
    · exact hb.1 x h)]
  congr 1
  exact edge_congr fun g _ => upS_append a b g
theorem bot_cl {a b : List S36} (ha : Anti a) (hb : Anti b) : botF a b = (clU fun g => upS a g && upS b g, 0) := by
  unfold botF
  rw [anB_of ha, anB_of hb, if_pos (by decide), least_edge (fun x hx => by
    obtain ⟨p, hp, hx⟩ := List.mem_flatMap.1 hx
    obtain ⟨q, hq, rfl⟩ := List.mem_map.1 hx
    exact gok_join (ha.1 p hp) (hb.1 q hq))]
  congr 1
  exact edge_congr fun g _ => upS_joins a b g
theorem dn_not {U : S36 → Bool} (h : UpC U) : DnC fun g => !U g := fun x y hx hy hb hq => by
  have hq2 : (!U y) = true := hq
  show (!U x) = true
  cases e : U x with
  | false => rfl
  | true => rw [h x y hx hy hb e] at hq2; exact absurd hq2 (by decide)
theorem out_cl {c : List S36} (h : Anti c) : outF c = (edgeL (fun g => !upS c g) 1, 0) := by
  unfold outF; rw [anB_of h, if_pos rfl]
theorem out_anti (c : List S36) : Anti (edgeL (fun g => !upS c g) 1) := anti_max (dn_not (upS_up c))
theorem bey_out {c : List S36} (h : Anti c) : beyF (edgeL (fun g => !upS c g) 1) = (c, 0) := by
  unfold beyF
  rw [anB_of (out_anti c), if_pos rfl]
  congr 1
  rw [← h.edge]
  refine edge_congr fun g hg => ?_
  rw [dn_max (dn_not (upS_up _)) hg, Bool.not_not, h.edge]
theorem eit_f {a b : List S36} (ha : Anti a) (hb : Anti b) : grade_Either.f a b = some (clU fun g => upS a g || upS b g, 0) := by
  have h1 := ha.short
  have h2 := hb.short
  unfold grade_Either.f
  rw [if_pos ⟨by omega, by omega⟩, eit_cl ha hb]
theorem bot_f {a b : List S36} (ha : Anti a) (hb : Anti b) : grade_Both.f a b = some (clU fun g => upS a g && upS b g, 0) := by
  have h1 := ha.short
  have h2 := hb.short
  unfold grade_Both.f
  rw [if_pos ⟨by omega, by omega⟩, bot_cl ha hb]
theorem anti_ev {c : List S36} (h : Anti c) : Ev (fun k => grade_antichain.f k c) true := by
  have h1 := h.short
  exact (antichain_ev c (by omega)).to (anB_of h)
theorem in_ev {c : List S36} (h : Anti c) (x : S36) : Ev (fun k => grade_In.f k c x.f0 x.f1 x.f2) (if gok x = true then (upS c x, 0) else (false, 2)) := by
  unfold grade_In.f
  refine Ev.bind (anti_ev h) ?_
  simp only [if_true]
  unfold grade_valid.f grade_in.f
  simp only [Option.bind_some]
  show Ev (fun k => if gok x = true then some (upS c x, 0) else some (false, 2)) _
  by_cases hg : gok x = true
  · simp only [hg, if_true]; exact Ev.pure _
  · simp only [hg]; exact Ev.pure _
theorem count_cl {c : List S36} (h : Anti c) : Ev (fun k => grade_Count.f k c) ((((allL.filter (upS c)).length : Nat) : Int), 0) := count_ev (anti_ev h)
theorem incl_excl (P Q : S36 → Bool) : ∀ l : List S36, (l.filter fun g => P g || Q g).length + (l.filter fun g => P g && Q g).length = (l.filter P).length + (l.filter Q).length
  | [] => rfl
  | x :: l => by
    have := incl_excl P Q l
    simp only [List.filter_cons]
    cases P x <;> cases Q x <;> simp <;> omega
theorem filter_le (P Q : S36 → Bool) : ∀ l : List S36, (∀ x ∈ l, P x = true → Q x = true) → (l.filter P).length ≤ (l.filter Q).length
  | [], _ => Nat.le_refl _
  | x :: l, h => by
    have := filter_le P Q l (fun y hy => h y (List.mem_cons_of_mem _ hy))
    simp only [List.filter_cons]
    have hx := h x List.mem_cons_self
    cases hp : P x with
    | false => cases Q x <;> simp <;> omega
    | true => rw [hx hp]; simp; omega
/-- The reference's Antichain. -/
def incB (x y : S36) : Bool := !(belowG x y || belowG y x)
theorem refAnti_l1 (l : List S36) (i : Nat) (hi : i < l.length) (hl : l.length ≤ 1000000) (r : Bool) (h : Ev (fun k => kimberliteref02_Antichain.l0 k l ((i + 1 : Nat) : Int)) r) : ∀ m (j : Nat), j + m = i → Ev (fun k => kimberliteref02_Antichain.l1 k l (i : Int) (j : Int)) (((l.take i).drop j).all (fun y => incB y l[i]) && r)
  | 0, j, hj => by
    rw [List.drop_eq_nil_of_le (by simp; omega)]
    refine Ev.step h (fun k => ?_)
    show kimberliteref02_Antichain.l1 (k + 1) l (i : Int) (j : Int) = _
    rw [kimberliteref02_Antichain.l1, if_neg (by omega), sucN (by omega)]
  | m + 1, j, hj => by
    have hjl : j < l.length := by omega
    have hj2 : j < (l.take i).length := by simp; omega
    have ih := refAnti_l1 l i hi hl r h m (j + 1) (by omega)
    rw [List.drop_eq_getElem_cons hj2, List.all_cons, show (l.take i)[j] = l[j] by simp]
    have e : ∀ k, kimberliteref02_Antichain.l1 (k + 1) l (i : Int) (j : Int) = if incB l[j] l[i] = true then kimberliteref02_Antichain.l1 k l (i : Int) ((j + 1 : Nat) : Int) else some false := fun k => by
      rw [kimberliteref02_Antichain.l1, if_pos (by omega), if_pos (by omega), if_pos (by omega), if_pos (by omega), if_pos (by omega), rdG l j hjl, rdG l i hi, sucN (by omega)]
      rw [show kimberliteref02_Below.f l[j].f0 l[j].f1 l[j].f2 l[i].f0 l[i].f1 l[i].f2 = some (belowG l[j] l[i]) from below_f _ _, show kimberliteref02_Below.f l[i].f0 l[i].f1 l[i].f2 l[j].f0 l[j].f1 l[j].f2 = some (belowG l[i] l[j]) from below_f _ _]
      simp only [Option.bind_some]
      unfold incB
      cases belowG l[j] l[i] <;> cases belowG l[i] l[j] <;> rfl
    cases hq : incB l[j] l[i] with
    | true =>
      refine Ev.step ih (fun k => ?_)
      show kimberliteref02_Antichain.l1 (k + 1) l (i : Int) (j : Int) = _
      rw [e, hq, if_pos rfl]
    | false =>
      refine Ev.step (Ev.pure _) (fun k => ?_)
      show kimberliteref02_Antichain.l1 (k + 1) l (i : Int) (j : Int) = _
      rw [e, hq]
      rfl
/-- From the i-th on all is well. -/
def okFrom (l : List S36) : Nat → Nat → Bool
  | 0, _ => true
  | m + 1, i => gok l[i]! && ((decide (i = 0) || decide (plN l[i - 1]! < plN l[i]!)) && ((l.take i).all (fun y => incB y l[i]!) && okFrom l m (i + 1)))
theorem refAnti_l0 (l : List S36) (hl : l.length ≤ 1000000) : ∀ m (i : Nat), i + m = l.length → (i = 0 ∨ gok l[i - 1]! = true) → Ev (fun k => kimberliteref02_Antichain.l0 k l (i : Int)) (okFrom l m i)
  | 0, i, hi, _ => by
    refine Ev.step (Ev.pure _) (fun k => ?_)
    show kimberliteref02_Antichain.l0 (k + 1) l (i : Int) = _
    rw [kimberliteref02_Antichain.l0, if_neg (by omega)]
    rfl
  | m + 1, i, hi, hp => by
    have hil : i < l.length := by omega
    have ei : l[i]! = l[i] := getElem!_pos l i hil
    rw [okFrom, ei]
    cases hg : gok l[i] with
    | false =>
      have e : ∀ k, kimberliteref02_Antichain.j1 (k + 1) l (i : Int) true = some false := fun k => by rw [kimberliteref02_Antichain.j1, if_pos rfl]
      rw [Bool.false_and]
      refine Ev.step (G := fun k => kimberliteref02_Antichain.j1 k l (i : Int) true) (Ev.step (Ev.pure false) e) (fun k => ?_)
      show kimberliteref02_Antichain.l0 (k + 1) l (i : Int) = _
      rw [kimberliteref02_Antichain.l0, if_pos (by omega), if_pos (by omega), rdG l i hil]
      rw [show kimberliteref02_Good.f l[i].f0 l[i].f1 l[i].f2 = some (gok l[i]) from rfl, hg]
      rfl
    | true =>
      have ih := refAnti_l0 l hl m (i + 1) (by omega) (.inr (by rw [show i + 1 - 1 = i by omega, ei]; exact hg))
      have h1 := refAnti_l1 l i hil hl _ ih i 0 (by omega)
      rw [List.drop_zero] at h1
      simp only [Bool.true_and]
      have go : ∀ b : Bool, (∀ k, kimberliteref02_Antichain.l0 (k + 1) l (i : Int) = kimberliteref02_Antichain.j1 k l (i : Int) (!b)) → (decide (i = 0) || decide (plN l[i - 1]! < plN l[i])) = b → Ev (fun k => kimberliteref02_Antichain.l0 k l (i : Int)) ((decide (i = 0) || decide (plN l[i - 1]! < plN l[i])) && ((l.take i).all (fun y => incB y l[i]) && okFrom l m (i + 1))) := fun b e0 eb => by
        rw [eb]
        cases b with
        | true =>
          refine Ev.step ?_ e0
          refine Ev.step h1 (fun k => ?_)
          show kimberliteref02_Antichain.j1 (k + 1) l (i : Int) false = _
          rw [kimberliteref02_Antichain.j1, if_neg (by decide)]
          rfl
        | false =>
          refine Ev.step ?_ e0
          refine Ev.step (Ev.pure _) (fun k => ?_)
          show kimberliteref02_Antichain.j1 (k + 1) l (i : Int) true = _
          rw [kimberliteref02_Antichain.j1, if_pos rfl]
          rfl
      by_cases h0 : i = 0
      · refine go true (fun k => ?_) (by rw [decide_eq_true h0]; rfl)
        rw [kimberliteref02_Antichain.l0, if_pos (by omega), if_pos (by omega), rdG l i hil]
        rw [show kimberliteref02_Good.f l[i].f0 l[i].f1 l[i].f2 = some (gok l[i]) from rfl, hg, Option.bind_some, if_pos rfl, if_neg (by omega)]
        rfl
      · have hpr : i - 1 < l.length := by omega
        have ep : l[i - 1]! = l[i - 1] := getElem!_pos l (i - 1) hpr
        have gp : gok l[i - 1] = true := by
          rcases hp with h | h
          · exact absurd h h0
          · rw [← ep]; exact h
        rw [ep] at go ⊢
        refine go (decide (plN l[i - 1] < plN l[i])) (fun k => ?_) (by rw [decide_eq_false h0]; rfl)
        have hw : wrap64 ((i : Int) - 1) = ((i - 1 : Nat) : Int) := by rw [w64 (by omega) (by omega)]; omega
        rw [kimberliteref02_Antichain.l0, if_pos (by omega), if_pos (by omega), rdG l i hil, hw]
        rw [show kimberliteref02_Good.f l[i].f0 l[i].f1 l[i].f2 = some (gok l[i]) from rfl, hg, Option.bind_some, if_pos rfl, if_pos (by omega), if_pos (by omega), if_pos (by omega), rdG l (i - 1) hpr, place_f gp, place_f hg]
        simp only [Option.bind_some]
        congr 1
        rw [← decide_not]
        exact decide_eq_decide.2 (by omega)
theorem pl_lt {x y : S36} (hx : gok x = true) (hy : gok y = true) : plN x < plN y ↔ ltG x y = true := by
  rw [gok_iff] at hx hy
  rw [ltG_iff]
  unfold plN
  omega
theorem okFrom_iff (l : List S36) : ∀ m (i : Nat), i + m = l.length → (okFrom l m i = true ↔ ∀ j (hj : j < l.length), i ≤ j → gok l[j] = true ∧ (j = 0 ∨ plN l[j - 1]! < plN l[j]) ∧ ∀ q (hq : q < j), incB l[q] l[j] = true)
  | 0, i, hi => ⟨fun _ j hj hij => by omega, fun _ => rfl⟩
  | m + 1, i, hi => by
    have hil : i < l.length := by omega
    have ei : l[i]! = l[i] := getElem!_pos l i hil
    rw [okFrom, Bool.and_eq_true, Bool.and_eq_true, Bool.and_eq_true, okFrom_iff l m (i + 1) (by omega), ei, Bool.or_eq_true, decide_eq_true_eq, decide_eq_true_eq, List.all_eq_true]
    constructor
    · rintro ⟨h1, h2, h3, h4⟩ j hj hij
      by_cases e : j = i
      · subst e
        exact ⟨h1, h2, fun q hq => h3 _ (List.mem_iff_getElem.2 ⟨q, by simp; omega, by simp⟩)⟩
      · exact h4 j hj (by omega)
    · intro h
      refine ⟨(h i hil (Nat.le_refl _)).1, (h i hil (Nat.le_refl _)).2.1, fun y hy => ?_, fun j hj hij => h j hj (by omega)⟩
      obtain ⟨q, hq, rfl⟩ := List.mem_iff_getElem.1 hy
      simp only [List.length_take] at hq
      rw [List.getElem_take]
      exact (h i hil (Nat.le_refl _)).2.2 q (by omega)
theorem incB_iff {x y : S36} : incB x y = true ↔ ¬ belowG x y = true ∧ ¬ belowG y x = true := by
  unfold incB
  cases belowG x y <;> cases belowG y x <;> simp
theorem refAnti_iff {l : List S36} : (decide (l.length ≤ 144) && okFrom l l.length 0) = true ↔ Anti l := by
  rw [Bool.and_eq_true, decide_eq_true_eq, okFrom_iff l l.length 0 (by omega)]
  constructor
  · rintro ⟨_, h⟩
    have hv : ∀ x ∈ l, gok x = true := fun x hx => by
      obtain ⟨j, hj, rfl⟩ := List.mem_iff_getElem.1 hx
      exact (h j hj (Nat.zero_le _)).1
    have step : ∀ d j, (hj : j + d + 1 < l.length) → ltG l[j] l[j + d + 1] = true := by
      intro d
      induction d with
      | zero =>
        intro j hj
        have h1 := (h (j + 1) hj (Nat.zero_le _)).2.1
        rcases h1 with h1 | h1
        · omega
        · rw [show j + 1 - 1 = j by omega, getElem!_pos l j (by omega)] at h1
          exact (pl_lt (hv _ (List.getElem_mem _)) (hv _ (List.getElem_mem _))).1 h1
      | succ d ih =>
        intro j hj
        have h0 := ih j (by omega)
        have h1 := (h (j + (d + 1) + 1) hj (Nat.zero_le _)).2.1
        rcases h1 with h1 | h1
        · omega
        · rw [show j + (d + 1) + 1 - 1 = j + d + 1 by omega, getElem!_pos l (j + d + 1) (by omega)] at h1
          exact ltG_trans h0 ((pl_lt (hv _ (List.getElem_mem _)) (hv _ (List.getElem_mem _))).1 h1)
    refine ⟨hv, List.pairwise_iff_getElem.2 fun i j hi hj hij => ?_, fun x hx y hy hb => ?_⟩
    · obtain ⟨d, rfl⟩ : ∃ d, j = i + d + 1 := ⟨j - i - 1, by omega⟩
      exact step d i hj
    · obtain ⟨i, hi, rfl⟩ := List.mem_iff_getElem.1 hx
      obtain ⟨j, hj, rfl⟩ := List.mem_iff_getElem.1 hy
      rcases Nat.lt_trichotomy i j with hij | hij | hij
      · exact absurd hb (incB_iff.1 ((h j hj (Nat.zero_le _)).2.2 i hij)).1
      · subst hij; rfl
      · exact absurd hb (incB_iff.1 ((h i hi (Nat.zero_le _)).2.2 j hij)).2
  · intro h
    refine ⟨h.short, fun j hj _ => ⟨h.1 _ (List.getElem_mem _), ?_, fun q hq => ?_⟩⟩
    · by_cases h0 : j = 0
      · exact .inl h0
      · refine .inr ?_
        rw [getElem!_pos l (j - 1) (by omega)]
        exact (pl_lt (h.1 _ (List.getElem_mem _)) (h.1 _ (List.getElem_mem _))).2 (List.pairwise_iff_getElem.1 h.2.1 (j - 1) j (by omega) hj (by omega))
    · have hlt := List.pairwise_iff_getElem.1 h.2.1 q j (by omega) hj hq
      rw [incB_iff]
      constructor
      · intro hb
        have := h.2.2 _ (List.getElem_mem _) _ (List.getElem_mem _) hb
        rw [this] at hlt
        exact ltG_irr _ hlt
      · intro hb
        have := h.2.2 _ (List.getElem_mem _) _ (List.getElem_mem _) hb
        rw [this] at hlt
        exact ltG_irr _ hlt
theorem refAnti_ev (l : List S36) (hl : l.length ≤ 1000000) : Ev (fun k => kimberliteref02_Antichain.f k l) (anB l) := by
  have e : (decide (l.length ≤ 144) && okFrom l l.length 0) = anB l := by rw [Bool.eq_iff_iff, refAnti_iff, anB_iff]
  rw [← e]
  unfold kimberliteref02_Antichain.f
  by_cases h : (l.length : Int) > 144
  · simp only [h, if_true]
    rw [decide_eq_false (show ¬ l.length ≤ 144 by omega)]
    exact Ev.pure _
  · simp only [h, if_false]
    rw [decide_eq_true (show l.length ≤ 144 by omega)]
    exact refAnti_l0 l hl l.length 0 (by omega) (.inl rfl)
end Go.Proofs.Ytnbdfmdjedakcaa.PP
