/- No conditions. -/
import Derived.Test.YtnbdfmdjedakcaaRows
import Derived.Test.YtnbdfmdjedakcaaQ0
import Derived.ProofKit
import Derived.Deep.SlicePairs
import Derived.Deep.Grids
import Derived.Deep.Strs
import Derived.Lib.SmallJoins
import Derived.Laws.IdiomArrays
namespace Go.Proofs.Ytnbdfmdjedakcaa.PP
open Go.ChangeShapes Go.WideShapes Go.RowKit Go.Proofs.YtnbdfmdjedakcaaW.PrintWords Go.Proofs.YtnbdfmdjedakcaaW.PrintLast Go.Proofs.YtnbdfmdjedakcaaW.PrintMore
set_option linter.unusedVariables false
set_option linter.unusedSimpArgs false
theorem own : ownKnob Try.prog.godebug = none := by kernel_rfl
theorem laidOut : laidOutB Try.prog = true := by kernel_rfl
theorem okWide_array {P : Program} {w : World} {r : Reach} {base : Nat} {t : TypeId} {v : Value} {n : Nat} {e : TypeId} (ht : P.underlying t = some (.array n e)) (h : Value.okWide P w r base t v) : ∃ cs, v = .agg cs ∧ cs.size = P.cellsOf t := by
 simp only [Value.okWide, ht] at h
 obtain ⟨cs, h1, h2, _⟩ := h
 exact ⟨cs, h1, h2⟩
theorem slice_any {α : Type} {d : Kd α} (dflt : α) {H : Type} {enc : TypeId × Value → H} {W : World} {t e : TypeId} {a : Option Addr} {len cap : Nat} {dd : DataW H} {p : List MemPlace}
  (ht : Try.prog.underlying t = some (.slice e)) (hsz : Try.prog.cellsOf e = d.sz)
  (hel : ∀ cs n y, cs.length = d.sz → DataW.trod enc Try.prog W 0 (fun _ => true) true n e cs = some y → ∃ x, d.K W x cs)
  (h : DataW.Trod enc Try.prog W 0 (fun _ => true) true t (.slice a len cap) dd p) : ∃ l : List α, l.length = len ∧ len ≤ cap ∧ Kd.C d W a l.length l := by
 obtain ⟨fuel, hf⟩ := h
 rcases Go.Deep.open_slice ht hf with ⟨hcs, _⟩ | ⟨x, ln, c, m, n, D, Pl, hcs, _, hl, hm, hmm, _, hx⟩
 ·simp [Value.cells] at hcs
  obtain ⟨rfl, rfl, rfl⟩ := hcs
  exact ⟨[], rfl, Nat.le_refl _, ⟨rfl, by simp, fun h => absurd h (by simp)⟩⟩
 ·simp [Value.cells] at hcs
  obtain ⟨rfl, rfl, rfl⟩ := hcs
  simp only [if_true] at hmm
  subst hmm
  have each : ∀ i, i < len → ∃ q : α × List Value, q.2.length = d.sz ∧ d.K W q.1 q.2 ∧ ∀ j u, q.2[j]? = some u → W.cell? (x.add (i * d.sz + j)) = some u := by
   intro i hi
   obtain ⟨cs', h1, h2⟩ := hx i (by omega)
   rw [hsz] at h1
   obtain ⟨_, hlen, hcell⟩ := World.cells?_some h1
   obtain ⟨y, hy⟩ := hel cs' n _ hlen h2
   refine ⟨(y, cs'), hlen, hy, fun j u hu => ?_⟩
   have hj : j < d.sz := by
    have h9 : j < cs'.length := (List.getElem?_eq_some_iff.1 hu).1
    omega
   have e1 := hcell j hj
   rw [add_add] at e1
   rw [e1]
   exact hu
  haveI : Inhabited (α × List Value) := ⟨(dflt, [])⟩
  obtain ⟨B, hB⟩ := Go.Deep.choose_lt each
  have hlen : ((List.range len).map fun i => (B i).1).length = len := by simp
  refine ⟨(List.range len).map fun i => (B i).1, hlen, hl, ⟨rfl, by rw [hlen]; simp only [maxLen] at hm; omega, fun _ => ⟨x, rfl, fun j v hj => ?_⟩⟩⟩
  rw [List.getElem?_map] at hj
  obtain ⟨q, hq, rfl⟩ := Option.map_eq_some_iff.1 hj
  obtain ⟨hjl, rfl⟩ := List.getElem?_eq_some_iff.1 hq
  simp only [List.length_range] at hjl
  rw [List.getElem_range]
  exact ⟨(B j).2, (hB j hjl).1, (hB j hjl).2.1, (hB j hjl).2.2⟩
section
variable {H : Type} {enc : TypeId × Value → H} {W : World} {a : Option Addr} {len cap : Nat} {d : DataW H} {p : List MemPlace}
theorem int_of {n : Nat} {v : Value} {y : DataW H × List MemPlace} (h : DataW.trod enc Try.prog W 0 (fun _ => true) true n 3 [v] = some y) : ∃ x : Int, v = .int .i64 x := by
 obtain ⟨x, e, _⟩ := DataW.trod_int Try.underlying3 h
 exact ⟨x, by simpa using e⟩
theorem grade_of {n : Nat} {cs : List Value} {y : DataW H × List MemPlace} (hl : cs.length = 3) (h : DataW.trod enc Try.prog W 0 (fun _ => true) true n 36 cs = some y) : ∃ x : S36, cs = [.int .i64 x.f0, .int .i64 x.f1, .int .i64 x.f2] := by
 match cs, hl with
 | [c0, c1, c2], _ =>
  obtain ⟨y0, y1, y2, m, _, h0, h1, h2⟩ := trod_array3 Try.underlying36 (by kernel_rfl) h
  obtain ⟨x0, rfl⟩ := int_of h0
  obtain ⟨x1, rfl⟩ := int_of h1
  obtain ⟨x2, rfl⟩ := int_of h2
  exact ⟨⟨x0, x1, x2⟩, rfl⟩
set_option maxRecDepth 100000 in
theorem grade_arg {base : Nat} {v : Value} (hv : Value.okWide Try.prog W .any base 36 v) (h : DataW.Trod enc Try.prog W 0 (fun _ => true) true 36 v d p) : ∃ x : S36, v = .agg #[.int .i64 x.f0, .int .i64 x.f1, .int .i64 x.f2] := by
 obtain ⟨cs, rfl, hs⟩ := okWide_array Try.underlying36 hv
 obtain ⟨fuel, hf⟩ := h
 have e36 : Try.prog.cellsOf 36 = 3 := by kernel_rfl
 have hc : (Value.agg cs).cells = cs := rfl
 rw [hc] at hf
 obtain ⟨x, hx⟩ := grade_of (by rw [Array.length_toList]; omega) hf
 refine ⟨x, ?_⟩
 rw [← hx]
theorem trod_grades (h : DataW.Trod enc Try.prog W 0 (fun _ => true) true 41 (.slice a len cap) d p) : ∃ l : List S36, l.length = len ∧ len ≤ cap ∧ Kd.C k36 W a l.length l :=
 slice_any z36 Try.underlying41 (by kernel_rfl) (fun cs n y hl hh => by
  obtain ⟨x, rfl⟩ := grade_of hl hh
  exact ⟨x, k36_mk _ _⟩) h
theorem trod_quotes (h : DataW.Trod enc Try.prog W 0 (fun _ => true) true 22 (.slice a len cap) d p) : ∃ l : List S38, l.length = len ∧ len ≤ cap ∧ Kd.C k38 W a l.length l :=
 slice_any z38 Try.underlying22 (by kernel_rfl) (fun cs n y hl hh => by
  have hl5 : cs.length = 5 := hl
  match cs, hl5 with
  | [c0, c1, c2, c3, c4], _ =>
   obtain ⟨xs, k, hk, hxy, _, hxl, hf⟩ := DataW.trod_struct Try.underlying38 hh
   match xs, hxl with
   | [y0, y1, y2], _ =>
    have g0 := hf 0 _ rfl
    have g1 := hf 1 _ rfl
    have g2 := hf 2 _ rfl
    have e3 : Try.prog.cellsOf 3 = 1 := by kernel_rfl
    have e36 : Try.prog.cellsOf 36 = 3 := by kernel_rfl
    simp [e3, e36] at g0 g1 g2
    obtain ⟨x, hx⟩ := grade_of (by simp) g0
    obtain ⟨x1, rfl⟩ := int_of g1
    obtain ⟨x2, rfl⟩ := int_of g2
    simp only [List.cons.injEq, and_true] at hx
    obtain ⟨rfl, rfl, rfl⟩ := hx
    exact ⟨⟨x, x1, x2⟩, k38_mk _ _⟩) h
theorem trod_ints (h : DataW.Trod enc Try.prog W 0 (fun _ => true) true 28 (.slice a len cap) d p) : ∃ l : List Int, l.length = len ∧ len ≤ cap ∧ Kd.C (Kd.int .i64) W a l.length l :=
 slice_any 0 Try.underlying28 (by kernel_rfl) (fun cs n y hl hh => by
  match cs, hl with
  | [c0], _ =>
   obtain ⟨x, rfl⟩ := int_of hh
   exact ⟨x, rfl⟩) h
end
end Go.Proofs.Ytnbdfmdjedakcaa.PP
