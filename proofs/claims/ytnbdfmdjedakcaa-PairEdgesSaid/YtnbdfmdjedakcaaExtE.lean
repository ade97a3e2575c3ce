/- The contracts of Edges and of the reference's Edges, in the words of the printed texts. No conditions. -/
import Derived.Test.YtnbdfmdjedakcaaH53
namespace Go.Proofs.Ytnbdfmdjedakcaa.PP
set_option linter.unusedVariables false
open Go.RowKit Go.Proofs.YtnbdfmdjedakcaaW.PrintWords Go.Proofs.YtnbdfmdjedakcaaW.PrintLast Go.Proofs.YtnbdfmdjedakcaaW.PrintMore Go.Proofs.Ytnbdfmdjedakcaa
theorem all_ok {l : List S106} (h : l.any (fun x => !stB x) = false) : ∀ i, i < l.length → stB (sAt l i) = true := fun i hi => by
  cases hb : stB (sAt l i) with
  | true => rfl
  | false =>
    have : l.any (fun x => !stB x) = true := List.any_eq_true.2 ⟨sAt l i, by
      unfold sAt rd_T106
      rw [Int.toNat_natCast, show l.getD i z106 = l[i]'hi from by simp [List.getD, hi]]
      exact List.getElem_mem _, by rw [hb]; rfl⟩
    rw [h] at this
    exact absurd this (by decide)
theorem edges_calls (g : Nat) (hok : ∀ (w : World) (A : Option Addr) (c : Nat) (l : List S106), Kd.C k106 w A l.length l → l.length ≤ 24 → ∀ (m : Int), 0 ≤ m → m ≤ 1073741824 → ∀ (ap : S36), gok ap = true → l.any (fun x => !stB x) = false → (∀ i, i < l.length → stB (sAt l i) = true) →
      Calls Try.prog g #[.slice A l.length c, .int .i64 m, gv ap] w fun e w' => ∃ v, e = .returned (.tuple #[v, .int .i64 (if 128 < (eOut l m ap l.length).length then 8 else 0)]) ∧ Kd.R k101 101 w' w.heap.size (fun _ => True) v (if 128 < (eOut l m ap l.length).length then [] else eOut l m ap l.length) ∧ Below w.heap.size w w')
    (hno : ∀ (w : World) (A : Option Addr) (c : Nat) (l : List S106), Kd.C k106 w A l.length l → ∀ (m : Int) (ap : S36) (x : Int), (24 < l.length ∧ x = 3) ∨ (l.length ≤ 24 ∧ x = 2 ∧ (m < 0 ∨ m > 1073741824 ∨ gok ap = false ∨ l.any (fun x => !stB x) = true)) →
      Calls Try.prog g #[.slice A l.length c, .int .i64 m, gv ap] w fun e w' => e = .returned (.tuple #[.slice none 0 0, .int .i64 x]) ∧ Below w.heap.size w w')
    (A0 : Option Addr) (c0 : Nat) (l0 : List S106) (a1 : Int) (ap : S36) (r1 : List S101) (r2 : Int) (w : World) (hr0 : Kd.C k106 w A0 l0.length l0) (h : edgesF l0 a1 ap = (r1, r2)) :
    Calls Try.prog g #[.slice A0 l0.length c0, .int .i64 a1, gv ap] w fun e w' => ∃ v0_ : Value, e = .returned (.tuple #[v0_, .int .i64 r2]) ∧ Kd.R k101 101 w' w.heap.size (fun _ => True) v0_ r1 ∧ Below w.heap.size w w' := by
  have no : ∀ x, ((24 < l0.length ∧ x = 3) ∨ (l0.length ≤ 24 ∧ x = 2 ∧ (a1 < 0 ∨ a1 > 1073741824 ∨ gok ap = false ∨ l0.any (fun x => !stB x) = true))) → (([] : List S101), x) = (r1, r2) → Calls Try.prog g #[.slice A0 l0.length c0, .int .i64 a1, gv ap] w fun e w' => ∃ v0_ : Value, e = .returned (.tuple #[v0_, .int .i64 r2]) ∧ Kd.R k101 101 w' w.heap.size (fun _ => True) v0_ r1 ∧ Below w.heap.size w w' := fun x hx e => by
    simp only [Prod.mk.injEq] at e
    obtain ⟨rfl, rfl⟩ := e
    refine (hno w A0 c0 l0 hr0 a1 ap x hx).mono ?_
    rintro e w' ⟨rfl, hb⟩
    exact ⟨_, rfl, Kd.R_nil _ _ _ _ _, hb⟩
  unfold edgesF at h
  by_cases h1 : 24 < l0.length
  · rw [if_pos h1] at h
    exact no 3 (.inl ⟨h1, rfl⟩) h
  · rw [if_neg h1] at h
    by_cases h2 : a1 < 0 ∨ a1 > 1073741824
    · rw [if_pos h2] at h
      exact no 2 (.inr ⟨by omega, rfl, h2.elim .inl (fun h => .inr (.inl h))⟩) h
    · rw [if_neg h2] at h
      by_cases h3 : gok ap = false ∨ l0.any (fun x => !stB x) = true
      · rw [if_pos h3] at h
        exact no 2 (.inr ⟨by omega, rfl, .inr (.inr h3)⟩) h
      · rw [if_neg h3] at h
        have hg : gok ap = true := by cases hh : gok ap with | true => rfl | false => exact absurd (.inl hh) h3
        have ha : l0.any (fun x => !stB x) = false := by cases hh : l0.any (fun x => !stB x) with | false => rfl | true => exact absurd (.inr hh) h3
        refine (hok w A0 c0 l0 hr0 (by omega) a1 (by omega) (by omega) ap hg ha (all_ok ha)).mono ?_
        by_cases h4 : 128 < (eOut l0 a1 ap l0.length).length
        · rw [if_pos h4] at h
          simp only [Prod.mk.injEq] at h
          obtain ⟨rfl, rfl⟩ := h
          rw [if_pos h4, if_pos h4]
          exact fun e w' hh => hh
        · rw [if_neg h4] at h
          simp only [Prod.mk.injEq] at h
          obtain ⟨rfl, rfl⟩ := h
          rw [if_neg h4, if_neg h4]
          exact fun e w' hh => hh
def pair_Edges.f (l0 : List S106) (a1 a2_0 a2_1 a2_2 : Int) : Option (List S101 × Int) := some (edgesF l0 a1 ⟨a2_0, a2_1, a2_2⟩)
theorem pair_Edges.calls (A0 : Option Addr) (c0 : Nat) (l0 : List S106) (a1 a2_0 a2_1 a2_2 : Int) (r1 : List S101) (r2 : Int) (w : World) (hr0 : Kd.C k106 w A0 l0.length l0) (hc0 : l0.length ≤ c0) (h : pair_Edges.f l0 a1 a2_0 a2_1 a2_2 = some (r1, r2)) :
    Calls Try.prog 65 #[.slice A0 l0.length c0, .int .i64 a1, .agg #[.int .i64 a2_0, .int .i64 a2_1, .int .i64 a2_2]] w fun e w' => ∃ v0_ : Value, e = .returned (.tuple #[v0_, .int .i64 r2]) ∧ Kd.R k101 101 w' w.heap.size (fun _ => True) v0_ r1 ∧ Below w.heap.size w w' :=
  edges_calls 65 (fun w A c l hC hn m h0 h1 ap hg ha hall => edges_ok w A c l hC hn m h0 h1 ap hg ha hall) (fun w A c l hC m ap x hx => edges_no w A c l hC m ap x hx) A0 c0 l0 a1 ⟨a2_0, a2_1, a2_2⟩ r1 r2 w hr0 (Option.some.inj h)
def kimberliteref04_Edges.f (l0 : List S106) (a1 a2_0 a2_1 a2_2 : Int) : Option (List S101 × Int) := some (edgesF l0 a1 ⟨a2_0, a2_1, a2_2⟩)
theorem kimberliteref04_Edges.calls (A0 : Option Addr) (c0 : Nat) (l0 : List S106) (a1 a2_0 a2_1 a2_2 : Int) (r1 : List S101) (r2 : Int) (w : World) (hr0 : Kd.C k106 w A0 l0.length l0) (hc0 : l0.length ≤ c0) (h : kimberliteref04_Edges.f l0 a1 a2_0 a2_1 a2_2 = some (r1, r2)) :
    Calls Try.prog 66 #[.slice A0 l0.length c0, .int .i64 a1, .agg #[.int .i64 a2_0, .int .i64 a2_1, .int .i64 a2_2]] w fun e w' => ∃ v0_ : Value, e = .returned (.tuple #[v0_, .int .i64 r2]) ∧ Kd.R k101 101 w' w.heap.size (fun _ => True) v0_ r1 ∧ Below w.heap.size w w' :=
  edges_calls 66 (fun w A c l hC hn m h0 h1 ap hg ha hall => refEdges_ok w A c l hC hn m h0 h1 ap hg hall) (fun w A c l hC m ap x hx => refEdges_no w A c l hC m ap x hx) A0 c0 l0 a1 ⟨a2_0, a2_1, a2_2⟩ r1 r2 w hr0 (Option.some.inj h)
end Go.Proofs.Ytnbdfmdjedakcaa.PP
