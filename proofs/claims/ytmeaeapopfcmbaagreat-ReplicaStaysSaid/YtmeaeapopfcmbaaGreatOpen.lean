/- Arguments of the replica laws: numbers, strings, states, acts. No conditions. -/
import Derived.Test.YtmeaeapopfcmbaaGreatRows
import Derived.Test.YtmeaeapopfcmbaaGreatQ0
import Derived.ProofKit
import Derived.Deep.SlicePairs
import Derived.Deep.Grids
import Derived.Deep.Strs
import Derived.Lib.SmallJoins
import Derived.Laws.IdiomArrays
namespace Go.Proofs.YtmeaeapopfcmbaaGreat.PP
open Go.ChangeShapes Go.WideShapes Go.RowKit Go.Proofs.YtmeaeapopfcmbaaGreatW.PrintWords Go.Proofs.YtmeaeapopfcmbaaGreatW.PrintLast Go.Proofs.YtmeaeapopfcmbaaGreatW.PrintMore
set_option linter.unusedVariables false
set_option linter.unusedSimpArgs false
theorem own : ownKnob Tryz.prog.godebug = none := by kernel_rfl
theorem laidOut : laidOutB Tryz.prog = true := by kernel_rfl
section
variable {H : Type} {enc : TypeId × Value → H} {W : World}
abbrev TR (enc : TypeId × Value → H) (W : World) (n : Nat) (t : Nat) (cs : List Value) (y : DataW H × List MemPlace) : Prop := DataW.trod enc Tryz.prog W 0 (fun _ => true) true n t cs = some y
theorem slice_cell {α : Type} {d : Kd α} (dflt : α) {t e fuel : Nat} {v : Value} {y : DataW H × List MemPlace}
    (ht : Tryz.prog.underlying t = some (.slice e)) (hsz : Tryz.prog.cellsOf e = d.sz)
    (hel : ∀ cs n y, cs.length = d.sz → TR enc W n e cs y → ∃ x, d.K W x cs)
    (hf : TR enc W fuel t [v] y) : ∃ (a : Option Addr) (l : List α) (cap : Nat), v = .slice a l.length cap ∧ l.length ≤ cap ∧ Kd.C d W a l.length l := by
  rcases Go.Deep.open_slice ht hf with ⟨hcs, _⟩ | ⟨x, ln, c, m, n, D, Pl, hcs, _, hl, hm, hmm, _, hx⟩
  · simp at hcs
    subst hcs
    exact ⟨none, [], 0, rfl, Nat.le_refl _, ⟨rfl, by simp, fun h => absurd h (by simp)⟩⟩
  · simp at hcs
    subst hcs
    simp only [if_true] at hmm
    subst hmm
    have each : ∀ i, i < ln → ∃ q : α × List Value, q.2.length = d.sz ∧ d.K W q.1 q.2 ∧ ∀ j u, q.2[j]? = some u → W.cell? (x.add (i * d.sz + j)) = some u := by
      intro i hi
      obtain ⟨cs', h1, h2⟩ := hx i (by omega)
      rw [hsz] at h1
      obtain ⟨_, hlen, hcell⟩ := World.cells?_some h1
      obtain ⟨y, hy⟩ := hel cs' n _ hlen h2
      refine ⟨(y, cs'), hlen, hy, fun j u hu => ?_⟩
      have hj : j < d.sz := by
        have h9 : j < cs'.length := (List.getElem?_eq_some_iff.1 hu).1
        omega
      have e1 := hcell j hj
      rw [add_add] at e1
      rw [e1]
      exact hu
    haveI : Inhabited (α × List Value) := ⟨(dflt, [])⟩
    obtain ⟨B, hB⟩ := Go.Deep.choose_lt each
    have hlen : ((List.range ln).map fun i => (B i).1).length = ln := by simp
    refine ⟨some x, (List.range ln).map fun i => (B i).1, _, by rw [hlen], by rw [hlen]; exact hl, ⟨rfl, by rw [hlen]; simp only [maxLen] at hm; omega, fun _ => ⟨x, rfl, fun j v hj => ?_⟩⟩⟩
    rw [List.getElem?_map] at hj
    obtain ⟨q, hq, rfl⟩ := Option.map_eq_some_iff.1 hj
    obtain ⟨hjl, rfl⟩ := List.getElem?_eq_some_iff.1 hq
    simp only [List.length_range] at hjl
    rw [List.getElem_range]
    exact ⟨(B j).2, (hB j hjl).1, (hB j hjl).2.1, (hB j hjl).2.2⟩
theorem int_of {n : Nat} {v : Value} {y : DataW H × List MemPlace} (h : TR enc W n 3 [v] y) : ∃ x : Int, v = .int .i64 x := by
  obtain ⟨x, e, _⟩ := DataW.trod_int Tryz.underlying3 h
  exact ⟨x, by simpa using e⟩
theorem u8_of {n : Nat} {v : Value} {y : DataW H × List MemPlace} (h : TR enc W n 5 [v] y) : ∃ x : Int, v = .int .u8 x ∧ 0 ≤ x ∧ x < 256 := by
  obtain ⟨x, e, _, hw⟩ := DataW.trod_int Tryz.underlying5 h
  refine ⟨x, by simpa using e, ?_⟩
  simp [Lit.wf, IntKind.wrap, IntKind.bits, IntKind.signed, IntKind.min, IntKind.max] at hw
  omega
theorem str_of {n : Nat} {v : Value} {y : DataW H × List MemPlace} (h : TR enc W n 9 [v] y) : ∃ x : ByteArray, v = .string x := by
  obtain ⟨x, e, _⟩ := DataW.trod_string Tryz.underlying9 h
  exact ⟨x, by simpa using e⟩
theorem co3 : Tryz.prog.cellsOf 3 = 1 := by kernel_rfl
theorem co5 : Tryz.prog.cellsOf 5 = 1 := by kernel_rfl
theorem co9 : Tryz.prog.cellsOf 9 = 1 := by kernel_rfl
theorem co22 : Tryz.prog.cellsOf 22 = 1 := by kernel_rfl
theorem co23 : Tryz.prog.cellsOf 23 = 1 := by kernel_rfl
theorem co24 : Tryz.prog.cellsOf 24 = 1 := by kernel_rfl
theorem co25 : Tryz.prog.cellsOf 25 = 1 := by kernel_rfl
theorem co26 : Tryz.prog.cellsOf 26 = 1 := by kernel_rfl
theorem co28 : Tryz.prog.cellsOf 28 = 5 := by kernel_rfl
theorem co59 : Tryz.prog.cellsOf 59 = 10 := by kernel_rfl
theorem co97 : Tryz.prog.cellsOf 97 = 2 := by kernel_rfl
theorem dot_of {n : Nat} {c0 c1 : Value} {y : DataW H × List MemPlace} (h : TR enc W n 97 [c0, c1] y) : ∃ x : S97, c0 = .int .i64 x.f0 ∧ c1 = .int .i64 x.f1 := by
  obtain ⟨xs, k, hk, hxy, _, hxl, hf⟩ := DataW.trod_struct Tryz.underlying97 h
  match xs, hxl with
  | [y0, y1], _ =>
    have g0 := hf 0 _ rfl
    have g1 := hf 1 _ rfl
    simp [co3] at g0 g1
    obtain ⟨a, rfl⟩ := int_of g0
    obtain ⟨b, rfl⟩ := int_of g1
    exact ⟨⟨a, b⟩, rfl, rfl⟩
theorem tag_of {n : Nat} {cs : List Value} {y : DataW H × List MemPlace} (hl : cs.length = 4) (h : TR enc W n 99 cs y) : ∃ x : S99, k99.K W x cs := by
  match cs, hl with
  | [c0, c1, c2, c3], _ =>
    obtain ⟨xs, k, hk, hxy, _, hxl, hf⟩ := DataW.trod_struct Tryz.underlying99 h
    match xs, hxl with
    | [y0, y1, y2], _ =>
      have g0 := hf 0 _ rfl
      have g1 := hf 1 _ rfl
      have g2 := hf 2 _ rfl
      simp [co3, co9, co97] at g0 g1 g2
      obtain ⟨a, rfl⟩ := int_of g0
      obtain ⟨b, rfl⟩ := str_of g1
      obtain ⟨d, rfl, rfl⟩ := dot_of g2
      exact ⟨⟨a, b, d⟩, k99_mk _ _⟩
theorem note_of {n : Nat} {cs : List Value} {y : DataW H × List MemPlace} (hl : cs.length = 4) (h : TR enc W n 102 cs y) : ∃ x : S102, k102.K W x cs := by
  match cs, hl with
  | [c0, c1, c2, c3], _ =>
    obtain ⟨xs, k, hk, hxy, _, hxl, hf⟩ := DataW.trod_struct Tryz.underlying102 h
    match xs, hxl with
    | [y0, y1, y2, y3], _ =>
      have g0 := hf 0 _ rfl
      have g1 := hf 1 _ rfl
      have g2 := hf 2 _ rfl
      have g3 := hf 3 _ rfl
      simp [co3, co9] at g0 g1 g2 g3
      obtain ⟨a, rfl⟩ := int_of g0
      obtain ⟨b, rfl⟩ := str_of g1
      obtain ⟨d, rfl⟩ := int_of g2
      obtain ⟨e, rfl⟩ := int_of g3
      exact ⟨⟨a, b, d, e⟩, k102_mk _ _⟩
theorem right_of {n : Nat} {cs : List Value} {y : DataW H × List MemPlace} (hl : cs.length = 4) (h : TR enc W n 108 cs y) : ∃ x : S108, k108.K W x cs := by
  match cs, hl with
  | [c0, c1, c2, c3], _ =>
    obtain ⟨xs, k, hk, hxy, _, hxl, hf⟩ := DataW.trod_struct Tryz.underlying108 h
    match xs, hxl with
    | [y0, y1, y2, y3], _ =>
      have g0 := hf 0 _ rfl
      have g1 := hf 1 _ rfl
      have g2 := hf 2 _ rfl
      have g3 := hf 3 _ rfl
      simp [co3] at g0 g1 g2 g3
      obtain ⟨a, rfl⟩ := int_of g0
      obtain ⟨b, rfl⟩ := int_of g1
      obtain ⟨d, rfl⟩ := int_of g2
      obtain ⟨e, rfl⟩ := int_of g3
      exact ⟨⟨a, b, d, e⟩, k108_mk _ _⟩
theorem used_of {n : Nat} {cs : List Value} {y : DataW H × List MemPlace} (hl : cs.length = 3) (h : TR enc W n 111 cs y) : ∃ x : S111, k111.K W x cs := by
  match cs, hl with
  | [c0, c1, c2], _ =>
    obtain ⟨xs, k, hk, hxy, _, hxl, hf⟩ := DataW.trod_struct Tryz.underlying111 h
    match xs, hxl with
    | [y0, y1, y2], _ =>
      have g0 := hf 0 _ rfl
      have g1 := hf 1 _ rfl
      have g2 := hf 2 _ rfl
      simp [co3] at g0 g1 g2
      obtain ⟨a, rfl⟩ := int_of g0
      obtain ⟨b, rfl⟩ := int_of g1
      obtain ⟨d, rfl⟩ := int_of g2
      exact ⟨⟨a, b, d⟩, k111_mk _ _⟩
/-- A state's lists in memory, of whatever length. -/
structure StK (W : World) (A0 : Option Addr) (c0 : Nat) (A1 : Option Addr) (c1 : Nat) (A2 : Option Addr) (c2 : Nat) (A3 : Option Addr) (c3 : Nat) (A4 : Option Addr) (c4 : Nat) (S : S28) : Prop where
  h0 : Kd.C (Kd.int .i64) W A0 S.f0.length S.f0
  h1 : Kd.C k99 W A1 S.f1.length S.f1
  h2 : Kd.C k102 W A2 S.f2.length S.f2
  h3 : Kd.C k108 W A3 S.f3.length S.f3
  h4 : Kd.C k111 W A4 S.f4.length S.f4
  l0 : S.f0.length ≤ c0
  l1 : S.f1.length ≤ c1
  l2 : S.f2.length ≤ c2
  l3 : S.f3.length ≤ c3
  l4 : S.f4.length ≤ c4
theorem state_of {n : Nat} {v0 v1 v2 v3 v4 : Value} {y : DataW H × List MemPlace} (h : TR enc W n 28 [v0, v1, v2, v3, v4] y) :
    ∃ A0 c0 A1 c1 A2 c2 A3 c3 A4 c4, ∃ S : S28, v0 = .slice A0 S.f0.length c0 ∧ v1 = .slice A1 S.f1.length c1 ∧ v2 = .slice A2 S.f2.length c2 ∧ v3 = .slice A3 S.f3.length c3 ∧ v4 = .slice A4 S.f4.length c4 ∧ StK W A0 c0 A1 c1 A2 c2 A3 c3 A4 c4 S := by
  obtain ⟨xs, k, hk, hxy, _, hxl, hf⟩ := DataW.trod_struct Tryz.underlying28 h
  match xs, hxl with
  | [y0, y1, y2, y3, y4], _ =>
    have g0 := hf 0 _ rfl
    have g1 := hf 1 _ rfl
    have g2 := hf 2 _ rfl
    have g3 := hf 3 _ rfl
    have g4 := hf 4 _ rfl
    simp [co22, co23, co24, co25, co26] at g0 g1 g2 g3 g4
    obtain ⟨A0, l0, c0, rfl, a0, b0⟩ := slice_cell (d := Kd.int .i64) 0 Tryz.underlying22 (by kernel_rfl) (fun cs n y hl hh => by
      match cs, hl with
      | [c0], _ =>
        obtain ⟨x, rfl⟩ := int_of hh
        exact ⟨x, rfl⟩) g0
    obtain ⟨A1, l1, c1, rfl, a1, b1⟩ := slice_cell (d := k99) z99 Tryz.underlying23 (by kernel_rfl) (fun cs n y hl hh => tag_of hl hh) g1
    obtain ⟨A2, l2, c2, rfl, a2, b2⟩ := slice_cell (d := k102) z102 Tryz.underlying24 (by kernel_rfl) (fun cs n y hl hh => note_of hl hh) g2
    obtain ⟨A3, l3, c3, rfl, a3, b3⟩ := slice_cell (d := k108) z108 Tryz.underlying25 (by kernel_rfl) (fun cs n y hl hh => right_of hl hh) g3
    obtain ⟨A4, l4, c4, rfl, a4, b4⟩ := slice_cell (d := k111) z111 Tryz.underlying26 (by kernel_rfl) (fun cs n y hl hh => used_of hl hh) g4
    exact ⟨A0, c0, A1, c1, A2, c2, A3, c3, A4, c4, ⟨l0, l1, l2, l3, l4⟩, rfl, rfl, rfl, rfl, rfl, b0, b1, b2, b3, b4, a0, a1, a2, a3, a4⟩
/-- An act. -/
theorem act_of {n : Nat} {cs : List Value} {y : DataW H × List MemPlace} (hl : cs.length = 10) (h : TR enc W n 59 cs y) :
    ∃ (kd nn tg am : Int) (tx : ByteArray), ∃ A0 c0 A1 c1 A2 c2 A3 c3 A4 c4, ∃ S : S28, (0 ≤ kd ∧ kd < 256) ∧ cs = [.int .u8 kd, .int .i64 nn, .int .i64 tg, .string tx, .int .i64 am, .slice A0 S.f0.length c0, .slice A1 S.f1.length c1, .slice A2 S.f2.length c2, .slice A3 S.f3.length c3, .slice A4 S.f4.length c4] ∧ StK W A0 c0 A1 c1 A2 c2 A3 c3 A4 c4 S := by
  match cs, hl with
  | [b0, b1, b2, b3, b4, v0, v1, v2, v3, v4], _ =>
    obtain ⟨xs, k, hk, hxy, _, hxl, hf⟩ := DataW.trod_struct Tryz.underlying59 h
    match xs, hxl with
    | [y0, y1, y2, y3, y4, y5], _ =>
      have g0 := hf 0 _ rfl
      have g1 := hf 1 _ rfl
      have g2 := hf 2 _ rfl
      have g3 := hf 3 _ rfl
      have g4 := hf 4 _ rfl
      have g5 := hf 5 _ rfl
      simp [co3, co5, co9, co28] at g0 g1 g2 g3 g4 g5
      obtain ⟨kd, rfl, hkd⟩ := u8_of g0
      obtain ⟨nn, rfl⟩ := int_of g1
      obtain ⟨tg, rfl⟩ := int_of g2
      obtain ⟨tx, rfl⟩ := str_of g3
      obtain ⟨am, rfl⟩ := int_of g4
      obtain ⟨A0, c0, A1, c1, A2, c2, A3, c3, A4, c4, S, rfl, rfl, rfl, rfl, rfl, hS⟩ := state_of g5
      exact ⟨kd, nn, tg, am, tx, A0, c0, A1, c1, A2, c2, A3, c3, A4, c4, S, hkd, rfl, hS⟩
variable {d : DataW H} {p : List MemPlace}
set_option maxRecDepth 100000 in
theorem u8_arg {base : Nat} {v : Value} (hv : Value.okWide Tryz.prog W .any base 5 v) (h : DataW.Trod enc Tryz.prog W 0 (fun _ => true) true 5 v d p) : ∃ n : Nat, v = .int .u8 n ∧ n < 256 := by
  obtain ⟨x, rfl⟩ := okWide_int Tryz.underlying5 hv
  obtain ⟨fuel, hf⟩ := h
  have hf2 : TR enc W fuel 5 [.int .u8 x] (d, p) := hf
  obtain ⟨y, e, h0, h1⟩ := u8_of hf2
  injection e with _ e
  subst e
  exact ⟨x.toNat, by rw [Int.toNat_of_nonneg h0], by omega⟩
set_option maxRecDepth 100000 in
theorem act_arg {base : Nat} {v : Value} (hv : Value.okWide Tryz.prog W .any base 59 v) (h : DataW.Trod enc Tryz.prog W 0 (fun _ => true) true 59 v d p) :
    ∃ (kd nn tg am : Int) (tx : ByteArray), ∃ A0 c0 A1 c1 A2 c2 A3 c3 A4 c4, ∃ S : S28, (0 ≤ kd ∧ kd < 256) ∧ v = .agg #[.int .u8 kd, .int .i64 nn, .int .i64 tg, .string tx, .int .i64 am, .slice A0 S.f0.length c0, .slice A1 S.f1.length c1, .slice A2 S.f2.length c2, .slice A3 S.f3.length c3, .slice A4 S.f4.length c4] ∧ StK W A0 c0 A1 c1 A2 c2 A3 c3 A4 c4 S := by
  obtain ⟨cs, rfl, hs⟩ := okWide_struct Tryz.underlying59 hv
  obtain ⟨fuel, hf⟩ := h
  have hc : (Value.agg cs).cells = cs := rfl
  rw [hc] at hf
  obtain ⟨kd, nn, tg, am, tx, A0, c0, A1, c1, A2, c2, A3, c3, A4, c4, S, h0, h1, h2⟩ := act_of (by rw [Array.length_toList, hs]; exact co59) hf
  exact ⟨kd, nn, tg, am, tx, A0, c0, A1, c1, A2, c2, A3, c3, A4, c4, S, h0, by rw [← h1], h2⟩
set_option maxRecDepth 100000 in
theorem state_arg {base : Nat} {v : Value} (hv : Value.okWide Tryz.prog W .any base 28 v) (h : DataW.Trod enc Tryz.prog W 0 (fun _ => true) true 28 v d p) :
    ∃ A0 c0 A1 c1 A2 c2 A3 c3 A4 c4, ∃ S : S28, v = .agg #[.slice A0 S.f0.length c0, .slice A1 S.f1.length c1, .slice A2 S.f2.length c2, .slice A3 S.f3.length c3, .slice A4 S.f4.length c4] ∧ StK W A0 c0 A1 c1 A2 c2 A3 c3 A4 c4 S := by
  obtain ⟨cs, rfl, hs⟩ := okWide_struct Tryz.underlying28 hv
  obtain ⟨fuel, hf⟩ := h
  have hc : (Value.agg cs).cells = cs := rfl
  rw [hc] at hf
  have hl : cs.toList.length = 5 := by rw [Array.length_toList, hs]; exact co28
  obtain ⟨l⟩ := cs
  match l, hl with
  | [v0, v1, v2, v3, v4], _ =>
    obtain ⟨A0, c0, A1, c1, A2, c2, A3, c3, A4, c4, S, rfl, rfl, rfl, rfl, rfl, hS⟩ := state_of hf
    exact ⟨A0, c0, A1, c1, A2, c2, A3, c3, A4, c4, S, rfl, hS⟩
end
end Go.Proofs.YtmeaeapopfcmbaaGreat.PP
