/- The law PairEdges, as plain Lean: at every input some fuel gives true. No conditions. -/
import Derived.Test.YtnbdfmdjedakcaaQ16
namespace Go.Proofs.Ytnbdfmdjedakcaa.PP
open Go.RowKit Go.Proofs.YtnbdfmdjedakcaaW.PrintWords Go.Proofs.YtnbdfmdjedakcaaW.PrintLast Go.Proofs.YtnbdfmdjedakcaaW.PrintMore Go.Proofs.Ytnbdfmdjedakcaa
set_option linter.unusedVariables false
set_option linter.unusedSimpArgs false
def Ev {α : Type} (F : Nat → Option α) (r : α) : Prop := ∃ k0, ∀ k, k0 ≤ k → F k = some r
theorem Ev.step {α : Type} {F G : Nat → Option α} {r : α} (h : Ev G r) (e : ∀ k, F (k + 1) = G k) : Ev F r := by
 obtain ⟨k0, h⟩ := h
 refine ⟨k0 + 1, fun k hk => ?_⟩
 obtain ⟨j, rfl⟩ : ∃ j, k = j + 1 := ⟨k - 1, by omega⟩
 rw [e]
 exact h j (by omega)
theorem Ev.same {α : Type} {F G : Nat → Option α} {r : α} (h : Ev G r) (e : ∀ k, F k = G k) : Ev F r := by
 obtain ⟨k0, h⟩ := h
 exact ⟨k0, fun k hk => by rw [e]; exact h k hk⟩
theorem Ev.pure {α : Type} (r : α) : Ev (fun _ => some r) r := ⟨0, fun _ _ => rfl⟩
theorem Ev.bind {α β : Type} {F : Nat → Option α} {G : Nat → α → Option β} {x : α} {r : β} (h : Ev F x) (g : Ev (fun k => G k x) r) : Ev (fun k => (F k).bind (G k)) r := by
 obtain ⟨k0, h⟩ := h
 obtain ⟨k1, g⟩ := g
 refine ⟨max k0 k1, fun k hk => ?_⟩
 show (F k).bind (G k) = _
 rw [h k (by omega)]
 exact g k (by omega)
theorem Ev.to {α : Type} {F : Nat → Option α} {x y : α} (h : Ev F x) (e : x = y) : Ev F y := e ▸ h
theorem w64 {x : Int} (h0 : -9223372036854775808 ≤ x) (h1 : x ≤ 9223372036854775807) : wrap64 x = x := by
 unfold wrap64
 omega
theorem sucE {j : Nat} (h : j ≤ 1000000) : wrap64 ((j : Int) + 1) = ((j + 1 : Nat) : Int) := by rw [w64 (by omega) (by omega)]; rfl
theorem alikeE_l0 (x : List S101) : ∀ m (j : Nat), j + m = x.length → x.length ≤ 1000000 → Ev (fun k => kimberlitelaw04_alike.l0 k x x (j : Int)) true
  | 0, j, hj, hx => by
    refine Ev.step (Ev.pure _) (fun k => ?_)
    show kimberlitelaw04_alike.l0 (k + 1) x x (j : Int) = _
    rw [kimberlitelaw04_alike.l0, if_neg (by omega)]
  | m + 1, j, hj, hx => by
    refine Ev.step (alikeE_l0 x m (j + 1) (by omega) hx) (fun k => ?_)
    show kimberlitelaw04_alike.l0 (k + 1) x x (j : Int) = _
    rw [kimberlitelaw04_alike.l0, if_pos (by omega), sucE (by omega)]
    simp [show (j : Int) < (x.length : Int) by omega]
theorem alikeE_ev (x : List S101) (hx : x.length ≤ 1000000) : Ev (fun k => kimberlitelaw04_alike.f k x x) true := by
  unfold kimberlitelaw04_alike.f
  simp only [if_true]
  exact alikeE_l0 x x.length 0 (by omega) hx
theorem sameE_l0 (x : List Int) : ∀ m (j : Nat), j + m = x.length → x.length ≤ 1000000 → Ev (fun k => kimberlitelaw04_same.l0 k x x (j : Int)) true
  | 0, j, hj, hx => by
    refine Ev.step (Ev.pure _) (fun k => ?_)
    show kimberlitelaw04_same.l0 (k + 1) x x (j : Int) = _
    rw [kimberlitelaw04_same.l0, if_neg (by omega)]
  | m + 1, j, hj, hx => by
    refine Ev.step (sameE_l0 x m (j + 1) (by omega) hx) (fun k => ?_)
    show kimberlitelaw04_same.l0 (k + 1) x x (j : Int) = _
    rw [kimberlitelaw04_same.l0, if_pos (by omega), sucE (by omega)]
    simp [show (j : Int) < (x.length : Int) by omega]
theorem sameE_ev (x : List Int) (hx : x.length ≤ 1000000) : Ev (fun k => kimberlitelaw04_same.f k x x) true := by
  unfold kimberlitelaw04_same.f
  simp only [if_true]
  exact sameE_l0 x x.length 0 (by omega) hx
set_option maxRecDepth 100000 in
theorem aliveE_parts : Pr.partsF 4 [(0, 1), (0, 2), (0, 3)] = some ([1, 0, 0, 0], 0) := by decide +kernel
set_option maxRecDepth 100000 in
theorem aliveE_match : Pr.matchF 4 [(0, 1), (1, 2), (2, 0), (2, 3)] = some ([1, 0, 3, 2], 2, 0) := by decide +kernel
theorem aliveE_ev : Ev (fun k => kimberlitelaw04_alive.f k) true := by
  unfold kimberlitelaw04_alive.f
  have h1 : pair_Match.f 4 [⟨0, 1⟩, ⟨1, 2⟩, ⟨2, 0⟩, ⟨2, 3⟩] = some ([1, 0, 3, 2], 2, 0) := aliveE_match
  have h2 : pair_Parts.f 4 [⟨0, 1⟩, ⟨0, 2⟩, ⟨0, 3⟩] = some ([1, 0, 0, 0], 0) := aliveE_parts
  simp only [h1, h2, Option.bind_some, if_true]
  refine Ev.bind (sameE_ev _ (by decide)) ?_
  simp only [if_true]
  exact Ev.bind (sameE_ev _ (by decide)) (Ev.pure _)
theorem edgesF_len (l : List S106) (m : Int) (ap : S36) : (edgesF l m ap).1.length ≤ 1000000 := by
  unfold edgesF
  split
  · simp
  · split
    · simp
    · split
      · simp
      · split
        · simp
        · show (eOut l m ap l.length).length ≤ 1000000; omega
theorem pure_PairEdges (l : List S106) (m : Int) (x : S36) : ∃ k, kimberlitelaw04_PairEdges.f k l m x.f0 x.f1 x.f2 = some true := by
  have main : Ev (fun k => kimberlitelaw04_PairEdges.f k l m x.f0 x.f1 x.f2) true := by
    unfold kimberlitelaw04_PairEdges.f
    by_cases hl : (l.length : Int) > 40
    · simp only [hl, if_true]
      exact Ev.bind aliveE_ev (Ev.pure _)
    · simp only [hl, if_false]
      unfold pair_Edges.f kimberliteref04_Edges.f
      simp only [Option.bind_some]
      refine Ev.bind (alikeE_ev _ (edgesF_len _ _ _)) ?_
      simp only [if_true]
      exact Ev.bind aliveE_ev (Ev.pure _)
  obtain ⟨k, hk⟩ := main
  exact ⟨k, hk k (Nat.le_refl _)⟩
end Go.Proofs.Ytnbdfmdjedakcaa.PP
