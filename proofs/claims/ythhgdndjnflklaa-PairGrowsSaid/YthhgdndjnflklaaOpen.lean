/- What a law's arguments are, as the printed texts want them told: slices of edges, of ints, of bools. No conditions. -/
import Derived.Test.YthhgdndjnflklaaRows
import Derived.Test.YthhgdndjnflklaaQ0
import Derived.ProofKit
import Derived.Deep.SlicePairs
import Derived.Deep.Grids
import Derived.Lib.SmallJoins
namespace Go.Proofs.Ythhgdndjnflklaa.PP
open Go.ChangeShapes Go.WideShapes Go.RowKit Go.Proofs.YthhgdndjnflklaaW.PrintWords Go.Proofs.YthhgdndjnflklaaW.PrintLast Go.Proofs.YthhgdndjnflklaaW.PrintMore
set_option linter.unusedVariables false
set_option linter.unusedSimpArgs false

theorem own : ownKnob Try.prog.godebug = none := by kernel_rfl
theorem laidOut : laidOutB Try.prog = true := by kernel_rfl

theorem cOf {α : Type} {d : Kd α} {w : World} {A : Option Addr} {l : List α} (hm : l.length ≤ 9223372036854775807) (h : 0 < l.length → ∃ ad, A = some ad ∧ ∀ j p, l[j]? = some p → ∃ c : List Value, c.length = d.sz ∧ d.K w p c ∧ ∀ i u, c[i]? = some u → w.cell? (ad.add (j * d.sz + i)) = some u) : Kd.C d w A l.length l := ⟨rfl, hm, h⟩

theorem trod_ints {H : Type} {enc : TypeId × Value → H} {W : World} {a : Option Addr} {len cap : Nat} {d : DataW H} {p : List MemPlace}
    (h : DataW.Trod enc Try.prog W 0 (fun _ => true) true 25 (.slice a len cap) d p) : ∃ l : List Int, l.length = len ∧ len ≤ cap ∧ Kd.C (Kd.int .i64) W a l.length l := by
  obtain ⟨fuel, hf⟩ := h
  rcases open_ints Try.underlying25 Try.underlying3 (by kernel_rfl) hf with ⟨hcs, _⟩ | ⟨x, ln, c, zs, hcs, _, hl, hm, hz, _, hcell, _⟩
  · simp [Value.cells] at hcs
    obtain ⟨rfl, rfl, rfl⟩ := hcs
    exact ⟨[], rfl, Nat.le_refl _, cOf (by simp) (fun h => absurd h (by simp))⟩
  · simp [Value.cells] at hcs
    obtain ⟨rfl, rfl, rfl⟩ := hcs
    simp only [if_true] at hz
    have hlen : (zs.take len).length = len := by rw [List.length_take]; omega
    refine ⟨zs.take len, hlen, hl, cOf (by rw [hlen]; simp only [maxLen] at hm; omega) (fun _ => ⟨x, rfl, fun j v hj => ⟨[.int .i64 v], rfl, rfl, fun i u hu => ?_⟩⟩)⟩
    rcases i with _ | i
    · obtain rfl : Value.int .i64 v = u := by simpa using hu
      rw [List.getElem?_take] at hj
      split at hj
      · rename_i hjl
        have h1 := hcell j (by omega)
        rw [List.getD_eq_getElem?_getD, hj] at h1
        show W.cell? (x.add (j * 1 + 0)) = _
        rw [Nat.mul_one, Nat.add_zero]
        exact h1
      · exact absurd hj (by simp)
    · simp at hu

theorem trod_bools {H : Type} {enc : TypeId × Value → H} {W : World} {a : Option Addr} {len cap : Nat} {d : DataW H} {p : List MemPlace}
    (h : DataW.Trod enc Try.prog W 0 (fun _ => true) true 39 (.slice a len cap) d p) : ∃ l : List Bool, l.length = len ∧ len ≤ cap ∧ Kd.C Kd.bool W a l.length l := by
  obtain ⟨fuel, hf⟩ := h
  rcases Go.Deep.open_bools Try.underlying39 Try.underlying4 (by kernel_rfl) hf with ⟨hcs, _⟩ | ⟨x, ln, c, B, hcs, _, hl, hm, _, hcell⟩
  · simp [Value.cells] at hcs
    obtain ⟨rfl, rfl, rfl⟩ := hcs
    exact ⟨[], rfl, Nat.le_refl _, cOf (by simp) (fun h => absurd h (by simp))⟩
  · simp [Value.cells] at hcs
    obtain ⟨rfl, rfl, rfl⟩ := hcs
    have hlen : ((List.range len).map B).length = len := by simp
    refine ⟨(List.range len).map B, hlen, hl, cOf (by rw [hlen]; simp only [maxLen] at hm; omega) (fun _ => ⟨x, rfl, fun j v hj => ⟨[.bool v], rfl, rfl, fun i u hu => ?_⟩⟩)⟩
    rcases i with _ | i
    · obtain rfl : Value.bool v = u := by simpa using hu
      rw [List.getElem?_map] at hj
      obtain ⟨q, hq, rfl⟩ := Option.map_eq_some_iff.1 hj
      obtain ⟨hjl, rfl⟩ := List.getElem?_eq_some_iff.1 hq
      simp only [List.length_range] at hjl
      show W.cell? (x.add (j * 1 + 0)) = _
      rw [Nat.mul_one, Nat.add_zero, List.getElem_range]
      exact hcell j (by omega)
    · simp at hu

theorem trod_edges {H : Type} {enc : TypeId × Value → H} {W : World} {a : Option Addr} {len cap : Nat} {d : DataW H} {p : List MemPlace}
    (h : DataW.Trod enc Try.prog W 0 (fun _ => true) true 22 (.slice a len cap) d p) : ∃ l : List S41, l.length = len ∧ len ≤ cap ∧ Kd.C k41 W a l.length l := by
  obtain ⟨fuel, hf⟩ := h
  rcases Go.Deep.open_slice_pairs Try.underlying22 Try.underlying41 (by kernel_rfl) rfl rfl (by kernel_rfl) (by kernel_rfl) hf with ⟨hcs, _⟩ | ⟨x, ln, c, m, n, V0, V1, D0, D1, P0, P1, hcs, _, hl, hm, hmm, _, hcell⟩
  · simp [Value.cells] at hcs
    obtain ⟨rfl, rfl, rfl⟩ := hcs
    exact ⟨[], rfl, Nat.le_refl _, cOf (by simp) (fun h => absurd h (by simp))⟩
  · simp [Value.cells] at hcs
    obtain ⟨rfl, rfl, rfl⟩ := hcs
    simp only [if_true] at hmm
    subst hmm
    have each : ∀ i, i < len → ∃ q : S41, V0 i = .int .i64 q.f0 ∧ V1 i = .int .i64 q.f1 := by
      intro i hi
      obtain ⟨_, _, h0, h1⟩ := hcell i (by omega)
      obtain ⟨x0, e0, _⟩ := DataW.trod_int Try.underlying3 h0
      obtain ⟨x1, e1, _⟩ := DataW.trod_int Try.underlying3 h1
      exact ⟨⟨x0, x1⟩, by simpa using e0, by simpa using e1⟩
    haveI : Inhabited S41 := ⟨z41⟩
    obtain ⟨B, hB⟩ := Go.Deep.choose_lt each
    have hlen : ((List.range len).map B).length = len := by simp
    refine ⟨(List.range len).map B, hlen, hl, cOf (by rw [hlen]; simp only [maxLen] at hm; omega) (fun _ => ⟨x, rfl, fun j v hj => ⟨[.int .i64 v.f0, .int .i64 v.f1], rfl, k41_mk _ _, fun i u hu => ?_⟩⟩)⟩
    rw [List.getElem?_map] at hj
    obtain ⟨q, hq, rfl⟩ := Option.map_eq_some_iff.1 hj
    obtain ⟨hjl, rfl⟩ := List.getElem?_eq_some_iff.1 hq
    simp only [List.length_range] at hjl
    rw [List.getElem_range] at hu
    obtain ⟨c0, c1, _, _⟩ := hcell j (by omega)
    rw [(hB j hjl).1] at c0
    rw [(hB j hjl).2] at c1
    show W.cell? (x.add (j * 2 + i)) = _
    rcases i with _ | _ | i
    · obtain rfl : Value.int .i64 (B j).f0 = u := by simpa using hu
      exact c0
    · obtain rfl : Value.int .i64 (B j).f1 = u := by simpa using hu
      exact c1
    · simp at hu
end Go.Proofs.Ythhgdndjnflklaa.PP
