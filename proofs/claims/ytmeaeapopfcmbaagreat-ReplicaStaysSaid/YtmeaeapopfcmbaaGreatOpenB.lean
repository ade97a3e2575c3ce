/- Arguments of the replica laws that are within their types: states, acts, steps. No conditions. -/
import Derived.Test.YtmeaeapopfcmbaaGreatOpen
import Derived.Test.YtmeaeapopfcmbaaGreatG6
import Derived.Test.YtmeaeapopfcmbaaGreatQ0
import Derived.ProofKit
import Derived.Deep.SlicePairs
import Derived.Deep.Grids
import Derived.Deep.Strs
import Derived.Lib.SmallJoins
import Derived.Laws.IdiomArrays
namespace Go.Proofs.YtmeaeapopfcmbaaGreat.PP
open Go.Proofs.YtmeaeapopfcmbaaGreat
open Go.ChangeShapes Go.WideShapes Go.RowKit Go.Proofs.YtmeaeapopfcmbaaGreatW.PrintWords Go.Proofs.YtmeaeapopfcmbaaGreatW.PrintLast Go.Proofs.YtmeaeapopfcmbaaGreatW.PrintMore
set_option linter.unusedVariables false
set_option linter.unusedSimpArgs false
section
variable {H : Type} {enc : TypeId × Value → H} {W : World}
theorem slice_okcell {α : Type} {d : Kd α} {ok : α → Prop} (dflt : α) {t e fuel : Nat} {v : Value} {y : DataW H × List MemPlace}
    (ht : Tryz.prog.underlying t = some (.slice e)) (hsz : Tryz.prog.cellsOf e = d.sz)
    (hel : ∀ cs n y, cs.length = d.sz → TR enc W n e cs y → ∃ x, d.K W x cs ∧ ok x)
    (hf : TR enc W fuel t [v] y) : ∃ (a : Option Addr) (l : List α) (cap : Nat), v = .slice a l.length cap ∧ l.length ≤ cap ∧ Kd.C d W a l.length l ∧ ∀ x ∈ l, ok x := by
  rcases Go.Deep.open_slice ht hf with ⟨hcs, _⟩ | ⟨x, ln, c, m, n, D, Pl, hcs, _, hl, hm, hmm, _, hx⟩
  · simp at hcs
    subst hcs
    exact ⟨none, [], 0, rfl, Nat.le_refl _, ⟨rfl, by simp, fun h => absurd h (by simp)⟩, fun x hx => absurd hx (by simp)⟩
  · simp at hcs
    subst hcs
    simp only [if_true] at hmm
    subst hmm
    have each : ∀ i, i < ln → ∃ q : α × List Value, q.2.length = d.sz ∧ (d.K W q.1 q.2 ∧ ok q.1) ∧ ∀ j u, q.2[j]? = some u → W.cell? (x.add (i * d.sz + j)) = some u := by
      intro i hi
      obtain ⟨cs', h1, h2⟩ := hx i (by omega)
      rw [hsz] at h1
      obtain ⟨_, hlen, hcell⟩ := World.cells?_some h1
      obtain ⟨y, hy⟩ := hel cs' n _ hlen h2
      refine ⟨(y, cs'), hlen, hy, fun j u hu => ?_⟩
      have hj : j < d.sz := by
        have h9 : j < cs'.length := (List.getElem?_eq_some_iff.1 hu).1
        omega
      have e1 := hcell j hj
      rw [add_add] at e1
      rw [e1]
      exact hu
    haveI : Inhabited (α × List Value) := ⟨(dflt, [])⟩
    obtain ⟨B, hB⟩ := Go.Deep.choose_lt each
    have hlen : ((List.range ln).map fun i => (B i).1).length = ln := by simp
    refine ⟨some x, (List.range ln).map fun i => (B i).1, _, by rw [hlen], by rw [hlen]; exact hl, ⟨rfl, by rw [hlen]; simp only [maxLen] at hm; omega, fun _ => ⟨x, rfl, fun j v hj => ?_⟩⟩, fun z hz => ?_⟩
    · rw [List.getElem?_map] at hj
      obtain ⟨q, hq, rfl⟩ := Option.map_eq_some_iff.1 hj
      obtain ⟨hjl, rfl⟩ := List.getElem?_eq_some_iff.1 hq
      simp only [List.length_range] at hjl
      rw [List.getElem_range]
      exact ⟨(B j).2, (hB j hjl).1, (hB j hjl).2.1.1, (hB j hjl).2.2⟩
    · rw [List.mem_map] at hz
      obtain ⟨j, hj, rfl⟩ := hz
      exact (hB j (List.mem_range.1 hj)).2.1.2
theorem int_ok {n : Nat} {v : Value} {y : DataW H × List MemPlace} (h : TR enc W n 3 [v] y) : ∃ x : Int, v = .int .i64 x ∧ okI x := by
  obtain ⟨x, e, _, hw⟩ := DataW.trod_int Tryz.underlying3 h
  exact ⟨x, by simpa using e, hw⟩
theorem u16_of {n : Nat} {v : Value} {y : DataW H × List MemPlace} (h : TR enc W n 57 [v] y) : ∃ x : Int, v = .int .u16 x ∧ 0 ≤ x ∧ x < 65536 := by
  obtain ⟨x, e, _, hw⟩ := DataW.trod_int Tryz.underlying57 h
  refine ⟨x, by simpa using e, ?_⟩
  simp [Lit.wf, IntKind.wrap, IntKind.bits, IntKind.signed, IntKind.min, IntKind.max] at hw
  omega
theorem dot_ok {n : Nat} {c0 c1 : Value} {y : DataW H × List MemPlace} (h : TR enc W n 97 [c0, c1] y) : ∃ x : S97, (c0 = .int .i64 x.f0 ∧ c1 = .int .i64 x.f1) ∧ okD x := by
  obtain ⟨xs, k, hk, hxy, _, hxl, hf⟩ := DataW.trod_struct Tryz.underlying97 h
  match xs, hxl with
  | [y0, y1], _ =>
    have g0 := hf 0 _ rfl
    have g1 := hf 1 _ rfl
    simp [co3] at g0 g1
    obtain ⟨a, rfl, ka⟩ := int_ok g0
    obtain ⟨b, rfl, kb⟩ := int_ok g1
    exact ⟨⟨a, b⟩, ⟨rfl, rfl⟩, ka, kb⟩
theorem tag_ok {n : Nat} {cs : List Value} {y : DataW H × List MemPlace} (hl : cs.length = 4) (h : TR enc W n 99 cs y) : ∃ x : S99, k99.K W x cs ∧ okD x.f2 := by
  match cs, hl with
  | [c0, c1, c2, c3], _ =>
    obtain ⟨xs, k, hk, hxy, _, hxl, hf⟩ := DataW.trod_struct Tryz.underlying99 h
    match xs, hxl with
    | [y0, y1, y2], _ =>
      have g0 := hf 0 _ rfl
      have g1 := hf 1 _ rfl
      have g2 := hf 2 _ rfl
      simp [co3, co9, co97] at g0 g1 g2
      obtain ⟨a, rfl, ka⟩ := int_ok g0
      obtain ⟨b, rfl⟩ := str_of g1
      obtain ⟨d, ⟨rfl, rfl⟩, kd⟩ := dot_ok g2
      exact ⟨⟨a, b, d⟩, k99_mk _ _, kd⟩
theorem note_ok {n : Nat} {cs : List Value} {y : DataW H × List MemPlace} (hl : cs.length = 4) (h : TR enc W n 102 cs y) : ∃ x : S102, k102.K W x cs ∧ okI x.f0 := by
  match cs, hl with
  | [c0, c1, c2, c3], _ =>
    obtain ⟨xs, k, hk, hxy, _, hxl, hf⟩ := DataW.trod_struct Tryz.underlying102 h
    match xs, hxl with
    | [y0, y1, y2, y3], _ =>
      have g0 := hf 0 _ rfl
      have g1 := hf 1 _ rfl
      have g2 := hf 2 _ rfl
      have g3 := hf 3 _ rfl
      simp [co3, co9] at g0 g1 g2 g3
      obtain ⟨a, rfl, ka⟩ := int_ok g0
      obtain ⟨b, rfl⟩ := str_of g1
      obtain ⟨d, rfl, kd⟩ := int_ok g2
      obtain ⟨e, rfl, ke⟩ := int_ok g3
      exact ⟨⟨a, b, d, e⟩, k102_mk _ _, ka⟩
theorem right_ok {n : Nat} {cs : List Value} {y : DataW H × List MemPlace} (hl : cs.length = 4) (h : TR enc W n 108 cs y) : ∃ x : S108, k108.K W x cs ∧ okW (wayR x).1 := by
  match cs, hl with
  | [c0, c1, c2, c3], _ =>
    obtain ⟨xs, k, hk, hxy, _, hxl, hf⟩ := DataW.trod_struct Tryz.underlying108 h
    match xs, hxl with
    | [y0, y1, y2, y3], _ =>
      have g0 := hf 0 _ rfl
      have g1 := hf 1 _ rfl
      have g2 := hf 2 _ rfl
      have g3 := hf 3 _ rfl
      simp [co3] at g0 g1 g2 g3
      obtain ⟨a, rfl, ka⟩ := int_ok g0
      obtain ⟨b, rfl, kb⟩ := int_ok g1
      obtain ⟨d, rfl, kd⟩ := int_ok g2
      obtain ⟨e, rfl, ke⟩ := int_ok g3
      exact ⟨⟨a, b, d, e⟩, k108_mk _ _, ka, kb, kd⟩
theorem used_ok {n : Nat} {cs : List Value} {y : DataW H × List MemPlace} (hl : cs.length = 3) (h : TR enc W n 111 cs y) : ∃ x : S111, k111.K W x cs ∧ okW (wayU x).1 := by
  match cs, hl with
  | [c0, c1, c2], _ =>
    obtain ⟨xs, k, hk, hxy, _, hxl, hf⟩ := DataW.trod_struct Tryz.underlying111 h
    match xs, hxl with
    | [y0, y1, y2], _ =>
      have g0 := hf 0 _ rfl
      have g1 := hf 1 _ rfl
      have g2 := hf 2 _ rfl
      simp [co3] at g0 g1 g2
      obtain ⟨a, rfl, ka⟩ := int_ok g0
      obtain ⟨b, rfl, kb⟩ := int_ok g1
      obtain ⟨d, rfl, kd⟩ := int_ok g2
      exact ⟨⟨a, b, d⟩, k111_mk _ _, ka, kb, okI_of (by show (-9223372036854775808:Int) ≤ -1; omega) (by show (-1:Int) ≤ 9223372036854775807; omega)⟩
theorem co57 : Tryz.prog.cellsOf 57 = 1 := by kernel_rfl
theorem state_ok {n : Nat} {v0 v1 v2 v3 v4 : Value} {y : DataW H × List MemPlace} (h : TR enc W n 28 [v0, v1, v2, v3, v4] y) :
    ∃ A0 c0 A1 c1 A2 c2 A3 c3 A4 c4, ∃ S : S28, v0 = .slice A0 S.f0.length c0 ∧ v1 = .slice A1 S.f1.length c1 ∧ v2 = .slice A2 S.f2.length c2 ∧ v3 = .slice A3 S.f3.length c3 ∧ v4 = .slice A4 S.f4.length c4 ∧ StK W A0 c0 A1 c1 A2 c2 A3 c3 A4 c4 S ∧ StOk S := by
  obtain ⟨xs, k, hk, hxy, _, hxl, hf⟩ := DataW.trod_struct Tryz.underlying28 h
  match xs, hxl with
  | [y0, y1, y2, y3, y4], _ =>
    have g0 := hf 0 _ rfl
    have g1 := hf 1 _ rfl
    have g2 := hf 2 _ rfl
    have g3 := hf 3 _ rfl
    have g4 := hf 4 _ rfl
    simp [co22, co23, co24, co25, co26] at g0 g1 g2 g3 g4
    obtain ⟨A0, l0, c0, rfl, a0, b0, o0⟩ := slice_okcell (d := Kd.int .i64) (ok := fun _ => True) 0 Tryz.underlying22 (by kernel_rfl) (fun cs n y hl hh => by
      match cs, hl with
      | [c0], _ =>
        obtain ⟨x, rfl⟩ := int_of hh
        exact ⟨x, rfl, trivial⟩) g0
    obtain ⟨A1, l1, c1, rfl, a1, b1, o1⟩ := slice_okcell (d := k99) (ok := fun x : S99 => okD x.f2) z99 Tryz.underlying23 (by kernel_rfl) (fun cs n y hl hh => tag_ok hl hh) g1
    obtain ⟨A2, l2, c2, rfl, a2, b2, o2⟩ := slice_okcell (d := k102) (ok := fun x : S102 => okI x.f0) z102 Tryz.underlying24 (by kernel_rfl) (fun cs n y hl hh => note_ok hl hh) g2
    obtain ⟨A3, l3, c3, rfl, a3, b3, o3⟩ := slice_okcell (d := k108) (ok := fun x : S108 => okW (wayR x).1) z108 Tryz.underlying25 (by kernel_rfl) (fun cs n y hl hh => right_ok hl hh) g3
    obtain ⟨A4, l4, c4, rfl, a4, b4, o4⟩ := slice_okcell (d := k111) (ok := fun x : S111 => okW (wayU x).1) z111 Tryz.underlying26 (by kernel_rfl) (fun cs n y hl hh => used_ok hl hh) g4
    exact ⟨A0, c0, A1, c1, A2, c2, A3, c3, A4, c4, ⟨l0, l1, l2, l3, l4⟩, rfl, rfl, rfl, rfl, rfl, ⟨b0, b1, b2, b3, b4, a0, a1, a2, a3, a4⟩, ⟨o1, o2, o3, o4⟩⟩
/-- An act is one. -/
structure ActOk (x : S59) : Prop where
  k0 : 0 ≤ x.f0
  k1 : x.f0 < 256
  n : okI x.f1
  t : okI x.f2
  a : okI x.f4
  st : StOk x.f5
/-- A step is one. -/
structure StepOk (x : S61) : Prop where
  w0 : 0 ≤ x.f0
  w1 : x.f0 < 256
  s0 : 0 ≤ x.f1
  s1 : x.f1 < 65536
  act : ActOk x.f2
theorem act_ok {n : Nat} {cs : List Value} {y : DataW H × List MemPlace} (hl : cs.length = 10) (h : TR enc W n 59 cs y) : ∃ x : S59, k59.K W x cs ∧ ActOk x := by
  match cs, hl with
  | [b0, b1, b2, b3, b4, v0, v1, v2, v3, v4], _ =>
    obtain ⟨xs, k, hk, hxy, _, hxl, hf⟩ := DataW.trod_struct Tryz.underlying59 h
    match xs, hxl with
    | [y0, y1, y2, y3, y4, y5], _ =>
      have g0 := hf 0 _ rfl
      have g1 := hf 1 _ rfl
      have g2 := hf 2 _ rfl
      have g3 := hf 3 _ rfl
      have g4 := hf 4 _ rfl
      have g5 := hf 5 _ rfl
      simp [co3, co5, co9, co28] at g0 g1 g2 g3 g4 g5
      obtain ⟨kd, rfl, hk0, hk1⟩ := u8_of g0
      obtain ⟨nn, rfl, o1⟩ := int_ok g1
      obtain ⟨tg, rfl, o2⟩ := int_ok g2
      obtain ⟨tx, rfl⟩ := str_of g3
      obtain ⟨am, rfl, o3⟩ := int_ok g4
      obtain ⟨A0, c0, A1, c1, A2, c2, A3, c3, A4, c4, S, rfl, rfl, rfl, rfl, rfl, hS, oS⟩ := state_ok g5
      exact ⟨⟨kd, nn, tg, tx, am, S⟩, k59_mk W ⟨kd, nn, tg, tx, am, S⟩ hS.l0 hS.h0 hS.l1 hS.h1 hS.l2 hS.h2 hS.l3 hS.h3 hS.l4 hS.h4, ⟨hk0, hk1, o1, o2, o3, oS⟩⟩
theorem step_ok {n : Nat} {cs : List Value} {y : DataW H × List MemPlace} (hl : cs.length = 12) (h : TR enc W n 61 cs y) : ∃ x : S61, k61.K W x cs ∧ StepOk x := by
  match cs, hl with
  | [b0, b1, b2, b3, b4, b5, b6, v0, v1, v2, v3, v4], _ =>
    obtain ⟨xs, k, hk, hxy, _, hxl, hf⟩ := DataW.trod_struct Tryz.underlying61 h
    match xs, hxl with
    | [y0, y1, y2], _ =>
      have g0 := hf 0 _ rfl
      have g1 := hf 1 _ rfl
      have g2 := hf 2 _ rfl
      simp [co5, co57, co59] at g0 g1 g2
      obtain ⟨wh, rfl, hk0, hk1⟩ := u8_of g0
      obtain ⟨st, rfl, hs0, hs1⟩ := u16_of g1
      obtain ⟨x, hx, ox⟩ := act_ok rfl g2
      exact ⟨⟨wh, st, x⟩, ⟨[.int .u8 wh], _, rfl, rfl, ⟨[.int .u16 st], _, rfl, rfl, hx⟩⟩, ⟨hk0, hk1, hs0, hs1, ox⟩⟩
variable {d : DataW H} {p : List MemPlace}
set_option maxRecDepth 100000 in
theorem state_argB {base : Nat} {v : Value} (hv : Value.okWide Tryz.prog W .any base 28 v) (h : DataW.Trod enc Tryz.prog W 0 (fun _ => true) true 28 v d p) :
    ∃ A0 c0 A1 c1 A2 c2 A3 c3 A4 c4, ∃ S : S28, v = .agg #[.slice A0 S.f0.length c0, .slice A1 S.f1.length c1, .slice A2 S.f2.length c2, .slice A3 S.f3.length c3, .slice A4 S.f4.length c4] ∧ StK W A0 c0 A1 c1 A2 c2 A3 c3 A4 c4 S ∧ StOk S := by
  obtain ⟨cs, rfl, hs⟩ := okWide_struct Tryz.underlying28 hv
  obtain ⟨fuel, hf⟩ := h
  have hc : (Value.agg cs).cells = cs := rfl
  rw [hc] at hf
  have hl : cs.toList.length = 5 := by rw [Array.length_toList, hs]; exact co28
  obtain ⟨l⟩ := cs
  match l, hl with
  | [v0, v1, v2, v3, v4], _ =>
    obtain ⟨A0, c0, A1, c1, A2, c2, A3, c3, A4, c4, S, rfl, rfl, rfl, rfl, rfl, hS, oS⟩ := state_ok hf
    exact ⟨A0, c0, A1, c1, A2, c2, A3, c3, A4, c4, S, rfl, hS, oS⟩
set_option maxRecDepth 100000 in
theorem acts_arg {base : Nat} {v : Value} (hv : Value.okWide Tryz.prog W .any base 79 v) (h : DataW.Trod enc Tryz.prog W 0 (fun _ => true) true 79 v d p) :
    ∃ (A : Option Addr) (l : List S59) (c : Nat), v = .slice A l.length c ∧ l.length ≤ c ∧ Kd.C k59 W A l.length l ∧ ∀ x ∈ l, ActOk x := by
  obtain ⟨fuel, hf⟩ := h
  obtain ⟨b, ln, cp, rfl⟩ := okWide_slice Tryz.underlying79 hv
  exact slice_okcell (d := k59) z59 Tryz.underlying79 (by kernel_rfl) (fun cs n y hl hh => act_ok hl hh) hf
set_option maxRecDepth 100000 in
theorem steps_arg {base : Nat} {v : Value} (hv : Value.okWide Tryz.prog W .any base 49 v) (h : DataW.Trod enc Tryz.prog W 0 (fun _ => true) true 49 v d p) :
    ∃ (A : Option Addr) (l : List S61) (c : Nat), v = .slice A l.length c ∧ l.length ≤ c ∧ Kd.C k61 W A l.length l ∧ ∀ x ∈ l, StepOk x := by
  obtain ⟨fuel, hf⟩ := h
  obtain ⟨b, ln, cp, rfl⟩ := okWide_slice Tryz.underlying49 hv
  exact slice_okcell (d := k61) z61 Tryz.underlying49 (by kernel_rfl) (fun cs n y hl hh => step_ok hl hh) hf
end
end Go.Proofs.YtmeaeapopfcmbaaGreat.PP
