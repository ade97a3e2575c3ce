/- Settle's answer is the lowest best fit. Plain. No conditions. -/
import Derived.Test.YtnbdfmdjedakcaaH38
import Derived.Test.YtnbdfmdjedakcaaH40
namespace Go.Proofs.Ytnbdfmdjedakcaa
open Go.RowKit Go.Proofs.YtnbdfmdjedakcaaW.PrintWords Go.Proofs.YtnbdfmdjedakcaaW.PrintLast Go.Proofs.YtnbdfmdjedakcaaW.PrintMore PP
set_option linter.unusedVariables false
set_option linter.unusedSimpArgs false
/-- The distinct ones of an ascending row. -/
structure CmI (d : Array Int) (m : Nat) (L : List Int) : Prop where
  all : ∀ j, j < m → d[j]! ∈ L
  one : ∀ x, x ∈ L → ∃ j, j < m ∧ x = d[j]!
  asc : L.Pairwise (· < ·)
theorem cm_inv (d : Array Int) (hd : ∀ i j, i ≤ j → j < d.size → d[i]! ≤ d[j]!) : ∀ m, m ≤ d.size → CmI d m (Go.Lib.compactUpTo d m)
  | 0, _ => ⟨fun j hj => by omega, fun x hx => absurd hx (by simp [Go.Lib.compactUpTo]), by simp [Go.Lib.compactUpTo]⟩
  | m + 1, hm => by
    have ih := cm_inv d hd m (by omega)
    rw [Go.Lib.compactUpTo_succ]
    by_cases hk : Go.Lib.keeps d m = true
    · rw [if_pos hk]
      refine ⟨fun j hj => ?_, fun x hx => ?_, List.pairwise_append.2 ⟨ih.asc, List.pairwise_singleton _ _, fun x hx y hy => ?_⟩⟩
      · by_cases e : j = m
        · subst e; simp
        · exact List.mem_append_left _ (ih.all j (by omega))
      · rcases List.mem_append.1 hx with h | h
        · obtain ⟨j, a, b⟩ := ih.one x h
          exact ⟨j, by omega, b⟩
        · exact ⟨m, by omega, List.mem_singleton.1 h⟩
      · rw [List.mem_singleton.1 hy]
        obtain ⟨j, a, b⟩ := ih.one x hx
        unfold Go.Lib.keeps at hk
        have h1 := of_decide_eq_true hk
        have h2 : d[m]! ≠ d[m - 1]! := by
          rcases h1 with h1 | h1
          · omega
          · exact h1
        have h3 := hd (m - 1) m (by omega) (by omega)
        have h4 := hd j (m - 1) (by omega) (by omega)
        rw [b]; omega
    · rw [if_neg hk, List.append_nil]
      refine ⟨fun j hj => ?_, fun x hx => ?_, ih.asc⟩
      · by_cases e : j = m
        · subst e
          have h1 : ¬ (j = 0 ∨ d[j]! ≠ d[j - 1]!) := fun h => hk (by unfold Go.Lib.keeps; exact decide_eq_true h)
          have h2 : d[j]! = d[j - 1]! := Classical.byContradiction fun h => h1 (.inr h)
          rw [h2]
          exact ih.all (j - 1) (by omega)
        · exact ih.all j (by omega)
      · obtain ⟨j, a, b⟩ := ih.one x hx
        exact ⟨j, by omega, b⟩
theorem srt_asc (zs : List Int) : (srtI zs).Pairwise (· ≤ ·) := by
  have := List.pairwise_mergeSort (le := fun x y : Int => decide (x ≤ y)) (fun a b c h1 h2 => by
    simp only [decide_eq_true_eq] at *; omega) (fun a b => by simp only [Bool.or_eq_true, decide_eq_true_eq]; omega) zs
  exact this.imp fun h => of_decide_eq_true h
theorem comp_asc (zs : List Int) : CmI (srtI zs).toArray (srtI zs).length (Go.Lib.compact (srtI zs)) := by
  refine cm_inv _ (fun i j hij hj => ?_) _ (by simp)
  have hj' : j < (srtI zs).length := by simpa using hj
  have := srt_asc zs
  rw [List.pairwise_iff_getElem] at this
  have e1 : (srtI zs).toArray[i]! = (srtI zs)[i]'(by omega) := by simp [show i < (srtI zs).length by omega]
  have e2 : (srtI zs).toArray[j]! = (srtI zs)[j]'hj' := by simp [hj']
  rw [e1, e2]
  by_cases e : i = j
  · subst e; exact Int.le_refl _
  · exact this i j (by omega) hj' (by omega)
theorem prs_mem (l : List S38) : ∀ k x, x ∈ prs l k ↔ ∃ i, i < k ∧ x = (qAt l i).f1
  | 0, x => by simp [prs]
  | k + 1, x => by
    rw [prs, List.mem_append, prs_mem l k x, List.mem_singleton]
    constructor
    · rintro (⟨i, a, b⟩ | h)
      · exact ⟨i, by omega, b⟩
      · exact ⟨k, by omega, h⟩
    · rintro ⟨i, a, b⟩
      by_cases e : i = k
      · subst e; exact .inr b
      · exact .inl ⟨i, by omega, b⟩
theorem psS_mem (l : List S38) (x : Int) : x ∈ psS l ↔ ∃ i, i < l.length ∧ x = (qAt l i).f1 := by
  have h := comp_asc (prs l l.length)
  have hm : ∀ y, y ∈ srtI (prs l l.length) ↔ y ∈ prs l l.length := fun y => by unfold srtI; exact List.mem_mergeSort
  rw [← prs_mem l l.length x, ← hm x]
  constructor
  · intro hx
    obtain ⟨j, a, b⟩ := h.one x hx
    rw [b]
    have : (srtI (prs l l.length)).toArray[j]! = (srtI (prs l l.length))[j]'a := by simp [a]
    rw [this]
    exact List.getElem_mem _
  · intro hx
    obtain ⟨j, a, b⟩ := List.getElem_of_mem hx
    have : (srtI (prs l l.length)).toArray[j]! = (srtI (prs l l.length))[j]'a := by simp [a]
    rw [← b, ← this]
    exact h.all j a
def pA (l : List S38) (a : Nat) : Int := (psS l).getD a 0
theorem pA_mem (l : List S38) {a : Nat} (ha : a < (psS l).length) : pA l a ∈ psS l := by
  unfold pA
  rw [show (psS l).getD a 0 = (psS l)[a]'ha from by simp [List.getD, ha]]
  exact List.getElem_mem _
theorem prices_ok (l : List S38) (h0 : 0 < l.length) : Prices l.length (fun i => (qAt l i).f1) (pA l) (psS l).length := by
  have all : ∀ i, i < l.length → ∃ a, a < (psS l).length ∧ pA l a = (qAt l i).f1 := fun i hi => by
    have := (psS_mem l (qAt l i).f1).2 ⟨i, hi, rfl⟩
    obtain ⟨a, ha, e⟩ := List.getElem_of_mem this
    refine ⟨a, ha, ?_⟩
    unfold pA
    rw [show (psS l).getD a 0 = (psS l)[a]'ha from by simp [List.getD, ha], e]
  refine ⟨?_, fun a c hac hc => ?_, all⟩
  · obtain ⟨a, ha, _⟩ := all 0 h0
    omega
  · have h := (comp_asc (prs l l.length)).asc
    rw [List.pairwise_iff_getElem] at h
    have := h a c (by show a < (psS l).length; omega) hc hac
    unfold pA
    rw [show (psS l).getD a 0 = (psS l)[a]'(by omega) from by simp [List.getD, show a < (psS l).length by omega], show (psS l).getD c 0 = (psS l)[c]'hc from by simp [List.getD, hc]]
    exact this
/-- The network, node by node. -/
theorem gIn_form (l : List S38) (i : Nat) (c : Nat → Nat → Int) : ∀ k u v, gIn l i c k u v = if u = i ∧ v < k ∧ i ≠ v ∧ belowG (qAt l i).f0 (qAt l v).f0 = true then 1152921504606846976 else c u v
  | 0, u, v => by rw [if_neg (fun h => by omega)]; rfl
  | k + 1, u, v => by
    rw [gIn]
    by_cases e : i ≠ k ∧ belowG (qAt l i).f0 (qAt l k).f0 = true
    · rw [if_pos e]
      unfold put2
      by_cases e2 : u = i ∧ v = k
      · rw [if_pos e2, if_pos ⟨e2.1, by omega, by rw [e2.2]; exact e.1, by rw [e2.2]; exact e.2⟩]
      · rw [if_neg e2, gIn_form l i c k u v]
        by_cases e3 : u = i ∧ v < k ∧ i ≠ v ∧ belowG (qAt l i).f0 (qAt l v).f0 = true
        · rw [if_pos e3, if_pos ⟨e3.1, by omega, e3.2.2⟩]
        · rw [if_neg e3, if_neg (fun h => e3 ⟨h.1, by have := h.2.1; have : v ≠ k := fun e4 => e2 ⟨h.1, e4⟩; omega, h.2.2⟩)]
    · rw [if_neg e, gIn_form l i c k u v]
      by_cases e3 : u = i ∧ v < k ∧ i ≠ v ∧ belowG (qAt l i).f0 (qAt l v).f0 = true
      · rw [if_pos e3, if_pos ⟨e3.1, by omega, e3.2.2⟩]
      · rw [if_neg e3, if_neg (fun h => e3 ⟨h.1, by
          have h1 := h.2.1
          have : v ≠ k := fun e4 => e (by rw [← e4]; exact h.2.2)
          omega, h.2.2⟩)]
def wA (l : List S38) (i : Nat) : Int := (qAt l i).f2
def prA (l : List S38) (i : Nat) : Int := (qAt l i).f1
def bA (l : List S38) (i j : Nat) : Bool := belowG (qAt l i).f0 (qAt l j).f0
theorem gOut_form (l : List S38) (hn : l.length ≤ 24) (z : Int) : ∀ i, i ≤ l.length → ∀ u v, gOut l z i u v = if u = 24 then (if v < i ∧ overB (prA l) z v = true then wA l v else 0) else if v = 25 then (if u < i ∧ overB (prA l) z u = false then wA l u else 0) else if u < i ∧ v < l.length ∧ u ≠ v ∧ bA l u v = true then 1152921504606846976 else 0
  | 0, _, u, v => by
    show (0 : Int) = _
    rw [if_neg (fun h => by omega : ¬ (v < 0 ∧ overB (prA l) z v = true)), if_neg (fun h => by omega : ¬ (u < 0 ∧ overB (prA l) z u = false)), if_neg (fun h => by omega : ¬ (u < 0 ∧ v < l.length ∧ u ≠ v ∧ bA l u v = true))]
    split <;> (try split) <;> rfl
  | i + 1, hi, u, v => by
    have ih := gOut_form l hn z i (by omega)
    rw [gOut, gIn_form]
    have hf : ∀ a b, gFirst l z i (gOut l z i) a b = if (qAt l i).f1 > z then (if a = 24 ∧ b = i then wA l i else gOut l z i a b) else (if a = i ∧ b = 25 then wA l i else gOut l z i a b) := fun a b => by
      unfold gFirst put2 wA; split <;> rfl
    rw [hf, ih u v]
    have ho : overB (prA l) z i = true ↔ (qAt l i).f1 > z := by unfold overB prA; exact decide_eq_true_iff
    have ho2 : overB (prA l) z i = false ↔ ¬ (qAt l i).f1 > z := by unfold overB prA; exact decide_eq_false_iff_not
    by_cases hu : u = 24
    · subst hu
      rw [if_neg (fun h => by omega : ¬ (24 = i ∧ v < l.length ∧ i ≠ v ∧ belowG (qAt l i).f0 (qAt l v).f0 = true)), if_pos rfl, if_pos rfl]
      by_cases hp : (qAt l i).f1 > z
      · rw [if_pos hp]
        by_cases e : v = i
        · subst e
          rw [if_pos ⟨rfl, rfl⟩, if_pos ⟨by omega, ho.2 hp⟩]
        · rw [if_neg (fun h => e h.2)]
          by_cases e2 : v < i ∧ overB (prA l) z v = true
          · rw [if_pos e2, if_pos ⟨by omega, e2.2⟩]
          · rw [if_neg e2, if_neg (fun h => e2 ⟨by omega, h.2⟩)]
      · rw [if_neg hp, if_neg (fun h => by omega : ¬ (24 = i ∧ v = 25))]
        by_cases e2 : v < i ∧ overB (prA l) z v = true
        · rw [if_pos e2, if_pos ⟨by omega, e2.2⟩]
        · rw [if_neg e2, if_neg (fun h => e2 ⟨by
            have : v ≠ i := fun e => hp (ho.1 (by rw [← e]; exact h.2))
            omega, h.2⟩)]
    · rw [if_neg hu, if_neg hu]
      by_cases hv : v = 25
      · subst hv
        rw [if_neg (fun h => by omega : ¬ (u = i ∧ 25 < l.length ∧ i ≠ 25 ∧ belowG (qAt l i).f0 (qAt l 25).f0 = true)), if_pos rfl, if_pos rfl]
        by_cases hp : (qAt l i).f1 > z
        · rw [if_pos hp, if_neg (fun h => hu h.1)]
          by_cases e2 : u < i ∧ overB (prA l) z u = false
          · rw [if_pos e2, if_pos ⟨by omega, e2.2⟩]
          · rw [if_neg e2, if_neg (fun h => e2 ⟨by
              have : u ≠ i := fun e => absurd hp (ho2.1 (by rw [← e]; exact h.2))
              omega, h.2⟩)]
        · rw [if_neg hp]
          by_cases e : u = i
          · subst e
            rw [if_pos ⟨rfl, rfl⟩, if_pos ⟨by omega, ho2.2 hp⟩]
          · rw [if_neg (fun h => e h.1)]
            by_cases e2 : u < i ∧ overB (prA l) z u = false
            · rw [if_pos e2, if_pos ⟨by omega, e2.2⟩]
            · rw [if_neg e2, if_neg (fun h => e2 ⟨by omega, h.2⟩)]
      · rw [if_neg hv, if_neg hv]
        have e0 : (if (qAt l i).f1 > z then (if u = 24 ∧ v = i then wA l i else if u < i ∧ v < l.length ∧ u ≠ v ∧ bA l u v = true then (1152921504606846976 : Int) else 0) else (if u = i ∧ v = 25 then wA l i else if u < i ∧ v < l.length ∧ u ≠ v ∧ bA l u v = true then 1152921504606846976 else 0)) = if u < i ∧ v < l.length ∧ u ≠ v ∧ bA l u v = true then 1152921504606846976 else 0 := by
          rw [if_neg (fun h => hu h.1 : ¬ (u = 24 ∧ v = i)), if_neg (fun h => hv h.2 : ¬ (u = i ∧ v = 25))]
          split <;> rfl
        rw [e0]
        by_cases e : u = i ∧ v < l.length ∧ i ≠ v ∧ belowG (qAt l i).f0 (qAt l v).f0 = true
        · rw [if_pos e, if_pos ⟨by omega, e.2.1, by rw [e.1]; exact e.2.2.1, by rw [e.1]; exact e.2.2.2⟩]
        · rw [if_neg e]
          by_cases e2 : u < i ∧ v < l.length ∧ u ≠ v ∧ bA l u v = true
          · rw [if_pos e2, if_pos ⟨by omega, e2.2⟩]
          · rw [if_neg e2, if_neg (fun h => by
              by_cases e3 : u = i
              · exact e ⟨e3, h.2.1, by rw [← e3]; exact h.2.2.1, by rw [← e3]; exact h.2.2.2⟩
              · exact e2 ⟨by omega, h.2⟩)]
end Go.Proofs.Ytnbdfmdjedakcaa
