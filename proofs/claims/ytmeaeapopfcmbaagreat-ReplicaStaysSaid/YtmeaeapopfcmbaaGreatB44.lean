/- States as values: ref Same, small, Right, Merge, Covers. No conditions. -/
import Derived.Test.YtmeaeapopfcmbaaGreatB43
import Derived.Test.YtmeaeapopfcmbaaGreatP9
import Derived.Test.YtmeaeapopfcmbaaGreatOpenB
namespace Go.Proofs.YtmeaeapopfcmbaaGreat
open Go.RowKit Go.Proofs.YtmeaeapopfcmbaaGreatW.PrintWords Go.Proofs.YtmeaeapopfcmbaaGreatW.PrintLast Go.Proofs.YtmeaeapopfcmbaaGreatW.PrintMore PP
set_option linter.unusedVariables false
set_option linter.unusedSimpArgs false
set_option maxHeartbeats 4000000
set_option maxRecDepth 100000
theorem PP.StK.below {W W' : World} {A0 A1 A2 A3 A4 : Option Addr} {c0 c1 c2 c3 c4 : Nat} {S : S28} (h : StK W A0 c0 A1 c1 A2 c2 A3 c3 A4 c4 S) (hb : Below W.heap.size W W') : StK W' A0 c0 A1 c1 A2 c2 A3 c3 A4 c4 S :=
  ⟨Kd.C_below h.h0 hb, Kd.C_below h.h1 hb, Kd.C_below h.h2 hb, Kd.C_below h.h3 hb, Kd.C_below h.h4 hb, h.l0, h.l1, h.l2, h.l3, h.l4⟩
/-- Five values are a state's lists, of whatever length. -/
def Sk (W : World) (S : S28) (x0 x1 x2 x3 x4 : Value) : Prop := ∃ A0 c0 A1 c1 A2 c2 A3 c3 A4 c4, x0 = .slice A0 S.f0.length c0 ∧ x1 = .slice A1 S.f1.length c1 ∧ x2 = .slice A2 S.f2.length c2 ∧ x3 = .slice A3 S.f3.length c3 ∧ x4 = .slice A4 S.f4.length c4 ∧ StK W A0 c0 A1 c1 A2 c2 A3 c3 A4 c4 S
/-- The lists are not too long to be read. -/
structure Fit (S : S28) : Prop where
  n0 : S.f0.length < 9223372036854775807
  n1 : S.f1.length < 9223372036854775807
  n2 : S.f2.length < 9223372036854775807
  n34 : S.f3.length + S.f4.length < 9223372036854775807
/-- Five values are a state that can be read. -/
structure Sv (W : World) (S : S28) (x0 x1 x2 x3 x4 : Value) : Prop where
  sk : Sk W S x0 x1 x2 x3 x4
  fit : Fit S
  ok : StOk S
section
variable {W W' : World} {S A B : S28} {x0 x1 x2 x3 x4 y0 y1 y2 y3 y4 : Value}
theorem Sk.below (h : Sk W S x0 x1 x2 x3 x4) (hb : Below W.heap.size W W') : Sk W' S x0 x1 x2 x3 x4 := by
  obtain ⟨A0, c0, A1, c1, A2, c2, A3, c3, A4, c4, h0, h1, h2, h3, h4, h5⟩ := h
  exact ⟨A0, c0, A1, c1, A2, c2, A3, c3, A4, c4, h0, h1, h2, h3, h4, h5.below hb⟩
theorem Sv.below (h : Sv W S x0 x1 x2 x3 x4) (hb : Below W.heap.size W W') : Sv W' S x0 x1 x2 x3 x4 := ⟨h.sk.below hb, h.fit, h.ok⟩
theorem Rt.fit (hS : Rt S) : Fit S := by
  have a := hS.sl
  have b := hS.tl
  have c := notes_len hS.kv
  have d := ways_len hS.kv.yk hS.kv.yn
  have e : (notesP S).length = S.f2.length := by unfold notesP; rw [List.length_map]
  have f : (waysP S).length = S.f3.length + S.f4.length := by unfold waysP; rw [List.length_append, List.length_map, List.length_map]
  exact ⟨by omega, by omega, by omega, by omega⟩
theorem StR.sk {base : Nat} (h : StR base W x0 x1 x2 x3 x4 S) : Sk W S x0 x1 x2 x3 x4 := by
  obtain ⟨A0, c0, e0, l0, h0⟩ := Kd.R_reads h.r0
  obtain ⟨A1, c1, e1, l1, h1⟩ := Kd.R_reads h.r1
  obtain ⟨A2, c2, e2, l2, h2⟩ := Kd.R_reads h.r2
  obtain ⟨A3, c3, e3, l3, h3⟩ := Kd.R_reads h.r3
  obtain ⟨A4, c4, e4, l4, h4⟩ := Kd.R_reads h.r4
  exact ⟨A0, c0, A1, c1, A2, c2, A3, c3, A4, c4, e0, e1, e2, e3, e4, h0, h1, h2, h3, h4, l0, l1, l2, l3, l4⟩
theorem StR.sv {base : Nat} (h : StR base W x0 x1 x2 x3 x4 S) (hS : Rt S) : Sv W S x0 x1 x2 x3 x4 := ⟨h.sk, hS.fit, hS.ok⟩
theorem Sv.stC (h : Sv W S x0 x1 x2 x3 x4) : ∃ A0 c0 A1 c1 A2 c2 A3 c3 A4 c4, x0 = .slice A0 S.f0.length c0 ∧ x1 = .slice A1 S.f1.length c1 ∧ x2 = .slice A2 S.f2.length c2 ∧ x3 = .slice A3 S.f3.length c3 ∧ x4 = .slice A4 S.f4.length c4 ∧ StC W A0 c0 A1 c1 A2 c2 A3 c3 A4 c4 S := by
  obtain ⟨A0, c0, A1, c1, A2, c2, A3, c3, A4, c4, h0, h1, h2, h3, h4, h5⟩ := h.sk
  exact ⟨A0, c0, A1, c1, A2, c2, A3, c3, A4, c4, h0, h1, h2, h3, h4, h5.h0, h5.h1, h5.h2, h5.h3, h5.h4, h5.l0, h5.l1, h5.l2, h5.l3, h5.l4, h.fit.n0, h.fit.n1, h.fit.n2, h.fit.n34⟩
theorem nil_sk (W : World) : Sk W ⟨[], [], [], [], []⟩ (.slice none 0 0) (.slice none 0 0) (.slice none 0 0) (.slice none 0 0) (.slice none 0 0) := (nilR 0 W).sk
theorem same_v (ha : Sk W A x0 x1 x2 x3 x4) (hf : Fit A) (hb : Sk W B y0 y1 y2 y3 y4) : Calls Tryz.prog 22 #[.agg #[x0, x1, x2, x3, x4], .agg #[y0, y1, y2, y3, y4]] W fun e w' => e = .returned (.bool (eqL A B)) ∧ Below W.heap.size W w' := by
  obtain ⟨A0, c0, A1, c1, A2, c2, A3, c3, A4, c4, rfl, rfl, rfl, rfl, rfl, h⟩ := ha
  obtain ⟨B0, d0, B1, d1, B2, d2, B3, d3, B4, d4, rfl, rfl, rfl, rfl, rfl, g⟩ := hb
  obtain ⟨k, hk⟩ := same_ans A B hf.n0 hf.n1 hf.n2 (by have := hf.n34; omega) (by have := hf.n34; omega)
  exact kimberliteref08_Same.calls k A0 c0 A.f0 A1 c1 A.f1 A2 c2 A.f2 A3 c3 A.f3 A4 c4 A.f4 B0 d0 B.f0 B1 d1 B.f1 B2 d2 B.f2 B3 d3 B.f3 B4 d4 B.f4 _ W h.h0 h.l0 h.h1 h.l1 h.h2 h.l2 h.h3 h.l3 h.h4 h.l4 g.h0 g.l0 g.h1 g.l1 g.h2 g.l2 g.h3 g.l3 g.h4 g.l4 hk
theorem right_v (ha : Sv W A x0 x1 x2 x3 x4) : Calls Tryz.prog 20 #[.agg #[x0, x1, x2, x3, x4]] W fun e w' => e = .returned (.bool (rtB A)) ∧ Below W.heap.size W w' := by
  obtain ⟨A0, c0, A1, c1, A2, c2, A3, c3, A4, c4, rfl, rfl, rfl, rfl, rfl, h⟩ := ha.stC
  exact right_run W A0 A1 A2 A3 A4 c0 c1 c2 c3 c4 A h ha.ok
theorem fit_nil : Fit ⟨[], [], [], [], []⟩ := ⟨by decide, by decide, by decide, by decide⟩
theorem ok_nil : StOk ⟨[], [], [], [], []⟩ := ⟨by simp, by simp, by simp, by simp⟩
theorem mrgV_fit : Fit (mrgV A B) ∧ StOk (mrgV A B) := by
  unfold mrgV
  split
  · rename_i h
    have := aMerge_rt (bothE_0 h).1 (bothE_0 h).2.1 (bothE_0 h).2.2
    exact ⟨this.fit, this.ok⟩
  · exact ⟨fit_nil, ok_nil⟩
theorem StR.mv {base : Nat} (h : StR base W x0 x1 x2 x3 x4 (mrgV A B)) : Sv W (mrgV A B) x0 x1 x2 x3 x4 := ⟨h.sk, mrgV_fit.1, mrgV_fit.2⟩
theorem merge_v (ha : Sv W A x0 x1 x2 x3 x4) (hb : Sv W B y0 y1 y2 y3 y4) : Calls Tryz.prog 37 #[.agg #[x0, x1, x2, x3, x4], .agg #[y0, y1, y2, y3, y4]] W fun e w' => ∃ v0 v1 v2 v3 v4, e = .returned (.tuple #[.agg #[v0, v1, v2, v3, v4], .int .i64 (bothE A B)]) ∧ StR W.heap.size w' v0 v1 v2 v3 v4 (mrgV A B) ∧ Below W.heap.size W w' := by
  obtain ⟨A0, c0, A1, c1, A2, c2, A3, c3, A4, c4, rfl, rfl, rfl, rfl, rfl, h⟩ := ha.stC
  obtain ⟨B0, d0, B1, d1, B2, d2, B3, d3, B4, d4, rfl, rfl, rfl, rfl, rfl, g⟩ := hb.stC
  exact (Merge_run W A0 A1 A2 A3 A4 c0 c1 c2 c3 c4 A h ha.ok B0 B1 B2 B3 B4 d0 d1 d2 d3 d4 B g hb.ok).mono fun e w' ⟨v0, v1, v2, v3, v4, e1, e2, e3⟩ => ⟨v0, v1, v2, v3, v4, e1, e2, e3⟩
theorem covers_v (ha : Sv W A x0 x1 x2 x3 x4) (hb : Sv W B y0 y1 y2 y3 y4) : Calls Tryz.prog 39 #[.agg #[x0, x1, x2, x3, x4], .agg #[y0, y1, y2, y3, y4]] W fun e w' => e = .returned (.tuple #[.bool (covB A B), .int .i64 (bothE A B)]) ∧ Below W.heap.size W w' := by
  obtain ⟨A0, c0, A1, c1, A2, c2, A3, c3, A4, c4, rfl, rfl, rfl, rfl, rfl, h⟩ := ha.stC
  obtain ⟨B0, d0, B1, d1, B2, d2, B3, d3, B4, d4, rfl, rfl, rfl, rfl, rfl, g⟩ := hb.stC
  exact Covers_run W A0 A1 A2 A3 A4 c0 c1 c2 c3 c4 A h ha.ok B0 B1 B2 B3 B4 d0 d1 d2 d3 d4 B g hb.ok
end
theorem rtB_false {A : S28} (h : rtB A = false) : bothE A A = 2 := by unfold bothE; rw [h]; rfl
theorem both_self {A : S28} (h : rtB A = true) : bothE A A = 0 ∧ mrgV A A = A := by
  have hA := rtB_iff.1 h
  have h0 : bothE A A = 0 := by unfold bothE; rw [h]; exact (am_self hA).1
  exact ⟨h0, by unfold mrgV; rw [if_pos h0]; exact (am_self hA).2⟩
theorem both_comm (A B : S28) : bothE A B = bothE B A ∧ mrgV A B = mrgV B A := by
  have e : bothE A B = bothE B A := by
    unfold bothE
    rw [Bool.and_comm]
    split
    · rename_i h
      rw [Bool.and_eq_true] at h
      exact mrgS_comm (rtB_iff.1 h.2) (rtB_iff.1 h.1)
    · rfl
  refine ⟨e, ?_⟩
  unfold mrgV
  rw [e]
  split
  · rename_i h
    obtain ⟨h1, h2, h3⟩ := bothE_0 h
    rw [am_comm h2 h1 ?_]
    rw [mrgS_iff h1 h2] at h3
    refine ((conB_iff h1).1 ?_).symm
    cases c : conB (tagsP B) (tagsP A) with
    | false => rfl
    | true => rw [if_pos c] at h3; cases h3
  · rfl
open Classical in
theorem both_cov {A B : S28} (h : bothE A B = 0) : rtB (mrgV A B) = true ∧ bothE (mrgV A B) A = 0 ∧ covB (mrgV A B) A = true ∧ bothE (mrgV A B) B = 0 ∧ covB (mrgV A B) B = true := by
  obtain ⟨h1, h2, h3⟩ := bothE_0 h
  have e : mrgV A B = aMerge A B := by unfold mrgV; rw [if_pos h]
  rw [e]
  have r := aMerge_rt h1 h2 h3
  obtain ⟨⟨c1, c2⟩, c3, c4⟩ := am_covers h1 h2 h3
  have b1 : bothE (aMerge A B) A = 0 := by unfold bothE; rw [rtB_iff.2 r, rtB_iff.2 h1]; exact c1
  have b2 : bothE (aMerge A B) B = 0 := by unfold bothE; rw [rtB_iff.2 r, rtB_iff.2 h2]; exact c3
  exact ⟨rtB_iff.2 r, b1, by unfold covB; exact decide_eq_true ⟨b1, c2⟩, b2, by unfold covB; exact decide_eq_true ⟨b2, c4⟩⟩
theorem both_assoc {A B C : S28} (h : bothE A B = 0) (hl : bothE (mrgV A B) C = 0) (hr : bothE B C = 0) (ho : bothE A (mrgV B C) = 0) : mrgV (mrgV A B) C = mrgV A (mrgV B C) := by
  obtain ⟨h1, h2, h3⟩ := bothE_0 h
  obtain ⟨g1, g2, g3⟩ := bothE_0 hr
  have e1 : mrgV A B = aMerge A B := by unfold mrgV; rw [if_pos h]
  have e2 : mrgV B C = aMerge B C := by unfold mrgV; rw [if_pos hr]
  rw [e1] at hl ⊢
  rw [e2] at ho ⊢
  rw [show mrgV (aMerge A B) C = aMerge (aMerge A B) C by unfold mrgV; rw [if_pos hl], show mrgV A (aMerge B C) = aMerge A (aMerge B C) by unfold mrgV; rw [if_pos ho]]
  exact am_assoc h1 h2 g2 h3 g3
end Go.Proofs.YtmeaeapopfcmbaaGreat
