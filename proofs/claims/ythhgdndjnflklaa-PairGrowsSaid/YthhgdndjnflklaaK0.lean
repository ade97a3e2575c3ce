/- Plain facts of the laws' small helpers: few, same, Graph, alive. No conditions. -/
import Derived.Test.YthhgdndjnflklaaQ2
import Derived.Test.YthhgdndjnflklaaQ14
import Derived.Test.YthhgdndjnflklaaQ15
import Derived.Test.YthhgdndjnflklaaQ16
namespace Go.Proofs.Ythhgdndjnflklaa.PP
open Go.RowKit Go.Proofs.YthhgdndjnflklaaW.PrintWords Go.Proofs.YthhgdndjnflklaaW.PrintLast Go.Proofs.YthhgdndjnflklaaW.PrintMore
set_option linter.unusedVariables false
set_option linter.unusedSimpArgs false

theorem w64 {x : Int} (h0 : -9223372036854775808 ≤ x) (h1 : x < 9223372036854775808) : wrap64 x = x := by
  unfold wrap64
  rw [Int.emod_eq_of_lt (by omega) (by omega)]
  omega
theorem w64s {i : Nat} (h : i < 1000000000) : wrap64 ((i : Int) + 1) = ((i + 1 : Nat) : Int) := by
  rw [w64 (by omega) (by omega)]
  omega
theorem drop_cons {α : Type} (l : List α) (z : α) (i : Nat) (h : i < l.length) : l.drop i = l.getD i z :: l.drop (i + 1) := by
  rw [List.drop_eq_getElem_cons h, List.getD_eq_getElem?_getD, List.getElem?_eq_getElem h]
  rfl

theorem same_loop (a : List Int) (hl : a.length < 1000000000) : ∀ (d k i : Nat), a.length = i + d → d < k → kimberlitelaw04_same.l0 k a a (i : Int) = some true
  | d, 0, i, _, hk => by omega
  | 0, k + 1, i, h, _ => by
    simp only [kimberlitelaw04_same.l0]
    rw [if_neg (by omega)]
  | d + 1, k + 1, i, h, hk => by
    simp only [kimberlitelaw04_same.l0]
    rw [if_pos (by omega), if_pos (by omega), if_pos (by omega), if_true, w64s (by omega)]
    exact same_loop a hl d k (i + 1) (by omega) (by omega)
theorem same_refl (a : List Int) (k : Nat) (hl : a.length < 1000000000) (hk : a.length < k) : kimberlitelaw04_same.f k a a = some true := by
  unfold kimberlitelaw04_same.f
  rw [if_pos rfl]
  exact same_loop a hl a.length k 0 (by omega) hk

def okC {α : Type} : Option α → Int
  | some _ => 0
  | none => 2
/-- The graph's error. -/
def errG (n : Int) (l : List S41) : Int := match chkS n (prs l) with | .error x => x | .ok _ => 0
theorem prs_drop (l : List S41) (i : Nat) (h : i < l.length) : (prs l).drop i = ((l.getD i z41).f0, (l.getD i z41).f1) :: (prs l).drop (i + 1) := by
  rw [drop_cons (prs l) (0, 0) i (by rw [prs_len]; exact h), prs_getD]
theorem graph_loop (n : Int) (hn : 0 ≤ n) (l : List S41) (hl : l.length < 1000000000) : ∀ (d k i : Nat) (nx : Nat → Nat → Bool), l.length = i + d → d < k →
    kimberliteref04_Graph.l0 k n l (i : Int) = some (okC (chkL n.toNat ((prs l).drop i) nx))
  | d, 0, i, nx, _, hk => by omega
  | 0, k + 1, i, nx, h, _ => by
    simp only [kimberliteref04_Graph.l0]
    rw [if_neg (by omega), List.drop_eq_nil_of_le (by rw [prs_len]; omega)]
    rfl
  | d + 1, k + 1, i, nx, h, hk => by
    simp only [kimberliteref04_Graph.l0]
    rw [if_pos (by omega), if_pos (by omega), prs_drop l i (by omega)]
    simp only [chkL]
    have hrd : rd_T41 l (i : Int) = l.getD i z41 := by
      unfold rd_T41
      rw [Int.toNat_natCast]
    rw [hrd, w64s (by omega)]
    generalize l.getD i z41 = e
    by_cases c1 : e.f0 < 0
    · rw [if_pos c1, if_pos (Or.inl c1)]; rfl
    rw [if_neg c1]
    by_cases c2 : e.f0 ≥ n
    · rw [if_pos c2, if_pos (Or.inr (Or.inl (by omega)))]; rfl
    rw [if_neg c2]
    by_cases c3 : e.f1 < 0
    · rw [if_pos c3, if_pos (Or.inr (Or.inr (Or.inl c3)))]; rfl
    rw [if_neg c3]
    by_cases c4 : e.f1 ≥ n
    · rw [if_pos c4, if_pos (Or.inr (Or.inr (Or.inr (Or.inl (by omega)))))]; rfl
    rw [if_neg c4]
    by_cases c5 : e.f0 = e.f1
    · rw [if_pos c5, if_pos (Or.inr (Or.inr (Or.inr (Or.inr c5))))]; rfl
    rw [if_neg c5, if_neg (by omega)]
    exact graph_loop n hn l hl d k (i + 1) _ (by omega) (by omega)
theorem graph_eq (n : Int) (l : List S41) (k : Nat) (hk : 200 ≤ k) : kimberliteref04_Graph.f k n l = some (errG n l) := by
  obtain ⟨k, rfl⟩ : ∃ j, k = j + 1 := ⟨k - 1, by omega⟩
  unfold kimberliteref04_Graph.f errG chkS
  by_cases c1 : n < 0
  · rw [if_pos c1, if_pos (Or.inl c1)]
    simp only [kimberliteref04_Graph.j0]
    rw [if_true]
  rw [if_neg c1]
  by_cases c2 : n > 24
  · rw [if_pos (Or.inr c2), decide_eq_true c2]
    simp only [kimberliteref04_Graph.j0]
    rw [if_true]
  rw [if_neg (by omega), decide_eq_false c2]
  simp only [kimberliteref04_Graph.j0]
  rw [if_neg (by decide), prs_len]
  by_cases c3 : (l.length : Int) > 128
  · rw [if_pos c3, if_pos (by omega)]
  rw [if_neg c3, if_neg (by omega)]
  have h := graph_loop n (by omega) l (by omega) l.length k 0 (fun _ _ => false) (by omega) (by omega)
  rw [List.drop_zero] at h
  refine h.trans ?_
  cases chkL n.toNat (prs l) (fun _ _ => false) with
  | none => rfl
  | some nx => rfl

set_option maxRecDepth 100000 in
theorem alive_parts : partsF 4 [(0, 1), (0, 2), (0, 3)] = some ([1, 0, 0, 0], 0) := by decide +kernel
set_option maxRecDepth 100000 in
theorem alive_match : matchF 4 [(0, 1), (1, 2), (2, 0), (2, 3)] = some ([1, 0, 3, 2], 2, 0) := by decide +kernel
theorem alive_eq (k : Nat) (hk : 200 ≤ k) : kimberlitelaw04_alive.f k = some true := by
  unfold kimberlitelaw04_alive.f
  have h1 : pair_Match.f 4 [⟨0, 1⟩, ⟨1, 2⟩, ⟨2, 0⟩, ⟨2, 3⟩] = some ([1, 0, 3, 2], 2, 0) := alive_match
  have h2 : pair_Parts.f 4 [⟨0, 1⟩, ⟨0, 2⟩, ⟨0, 3⟩] = some ([1, 0, 0, 0], 0) := alive_parts
  rw [h1, h2]
  simp only [Option.bind_some]
  rw [if_true, if_true, same_refl _ _ (by decide) (by simp only [List.length_cons, List.length_nil]; omega), same_refl _ _ (by decide) (by simp only [List.length_cons, List.length_nil]; omega)]
  rfl
theorem few_eq (l : List S41) (z : List Int) : kimberlitelaw04_few.f l z = some (decide (l.length ≤ 140 ∧ z.length ≤ 140)) := by
  unfold kimberlitelaw04_few.f
  by_cases h : l.length ≤ 140
  · rw [if_pos (by omega)]
    congr 1
    rw [decide_eq_decide]
    omega
  · rw [if_neg (by omega)]
    congr 1
    exact (decide_eq_false (by omega)).symm
end Go.Proofs.Ythhgdndjnflklaa.PP
