/- both, Merge. No conditions. -/
import Derived.Test.YtmeaeapopfcmbaaGreatG6
namespace Go.Proofs.YtmeaeapopfcmbaaGreat
open Go.RowKit Go.Proofs.YtmeaeapopfcmbaaGreatW.PrintWords Go.Proofs.YtmeaeapopfcmbaaGreatW.PrintLast Go.Proofs.YtmeaeapopfcmbaaGreatW.PrintMore PP
set_option linter.unusedVariables false
set_option linter.unusedSimpArgs false
set_option maxHeartbeats 4000000
set_option maxRecDepth 100000
/-- The error of the merge of two states. -/
noncomputable def bothE (A B : S28) : Int := if (rtB A && rtB B) = true then mrgS A B else 2
theorem bothE_0 {A B : S28} (h : bothE A B = 0) : Rt A ∧ Rt B ∧ mrgS A B = 0 := by
  unfold bothE at h
  split at h
  · rename_i h1
    rw [Bool.and_eq_true, rtB_iff, rtB_iff] at h1
    exact ⟨h1.1, h1.2, h⟩
  · omega
theorem both_run (w : World) (A0 A1 A2 A3 A4 : Option Addr) (c0 c1 c2 c3 c4 : Nat) (A : S28) (hA : StC w A0 c0 A1 c1 A2 c2 A3 c3 A4 c4 A) (okA : StOk A) (B0 B1 B2 B3 B4 : Option Addr) (d0 d1 d2 d3 d4 : Nat) (B : S28) (hB : StC w B0 d0 B1 d1 B2 d2 B3 d3 B4 d4 B) (okB : StOk B) :
    Calls Tryz.prog 69 #[stV A A0 c0 A1 c1 A2 c2 A3 c3 A4 c4, stV B B0 d0 B1 d1 B2 d2 B3 d3 B4 d4] w fun e w' => ∃ p : Option Addr, e = .returned (.tuple #[.pointer p, .int .i64 (bothE A B)]) ∧ (bothE A B ≠ 0 → p = none) ∧ (bothE A B = 0 → ∃ k mt mn mw, p = some ⟨k, 0, none⟩ ∧ KnowNew w.heap.size w' k mt mn mw (aMerge A B).f0 (tagsP (aMerge A B)) (notesP (aMerge A B)) (waysP (aMerge A B))) ∧ Below w.heap.size w w' := by
  obtain ⟨wB, hwB⟩ : ∃ wB, wB = (w.alloc (.cells #[.slice A0 A.f0.length c0, .slice A1 A.f1.length c1, .slice A2 A.f2.length c2, .slice A3 A.f3.length c3, .slice A4 A.f4.length c4] 28)).alloc (.cells #[.slice B0 B.f0.length d0, .slice B1 B.f1.length d1, .slice B2 B.f2.length d2, .slice B3 B.f3.length d3, .slice B4 B.f4.length d4] 28) := ⟨_, rfl⟩
  have BB := Hd.mk (show Below w.heap.size w wB by rw [hwB]; exact below_alloc (below_alloc (Below.refl _ _) _) _)
  have X1 := Hd.mk (show wB.heap[w.heap.size + 1]? = some (Obj.cells #[.slice B0 B.f0.length d0, .slice B1 B.f1.length d1, .slice B2 B.f2.length d2, .slice B3 B.f3.length d3, .slice B4 B.f4.length d4] 28 (0, 0)) by rw [hwB]; exact alloc_at _ _ _ (by simp))
  have R1 := Hd.mk (read_rt wB A0 A1 A2 A3 A4 c0 c1 c2 c3 c4 A (hA.below BB.out) okA)
  have R2 := Hd.mk (fun W (hb : Below w.heap.size w W) => read_rt W B0 B1 B2 B3 B4 d0 d1 d2 d3 d4 B (hB.below hb) okB)
  have TA := Hd.mk (show rtB A = true → Rt A from rtB_iff.1)
  have TB := Hd.mk (show rtB B = true → Rt B from rtB_iff.1)
  have EE := Hd.mk (show bothE A B = if (rtB A && rtB B) = true then mrgS A B else 2 from rfl)
  clear hA hB okA okB
  generalize rtB A = ra at *
  generalize rtB B = rb at *
  have HW := Hd.mk hwB
  clear hwB
  unfold stV at *
  go_enter Tryz.func69, Tryz.ntmps69
  go_wp2_with fail
  rw [← HW.out]
  refine R1.out.mono ?_
  rintro e w1 ⟨p1, rfl, hk1, hb1⟩
  have K1 := Hd.mk hk1
  have B1 := Hd.mk (BB.out.trans (hb1.mono BB.out.size))
  have X2 := Hd.mk ((hb1.block _ (Array.getElem?_eq_some_iff.1 X1.out).1).trans X1.out)
  have y0 := cell_of X2.out 0 rfl
  have y1 := cell_of X2.out 1 rfl
  have y2 := cell_of X2.out 2 rfl
  have y3 := cell_of X2.out 3 rfl
  have y4 := cell_of X2.out 4 rfl
  clear hk1 hb1
  go_wp2_with fail
  refine (R2.out _ B1.out).mono ?_
  rintro e w2 ⟨p2, rfl, hk2, hb2⟩
  have K2 := Hd.mk hk2
  have B2 := Hd.mk (B1.out.trans (hb2.mono B1.out.size))
  have Z2 := Hd.mk hb2
  clear hk2 hb2 y0 y1 y2 y3 y4 R1 R2
  cases ra with
  | false =>
    have E2 := Hd.mk (show bothE A B = 2 by rw [EE.out]; rfl)
    go_wp2_with fail
    go_ret2
    exact ⟨none, by rw [E2.out]; rfl, fun _ => rfl, fun h => absurd (E2.out.symm.trans h) (by decide), B2.out⟩
  | true =>
    cases rb with
    | false =>
      have E2 := Hd.mk (show bothE A B = 2 by rw [EE.out]; rfl)
      go_wp2_with fail
      go_ret2
      exact ⟨none, by rw [E2.out]; rfl, fun _ => rfl, fun h => absurd (E2.out.symm.trans h) (by decide), B2.out⟩
    | true =>
      have E2 := Hd.mk (show bothE A B = mrgS A B by rw [EE.out]; rfl)
      obtain ⟨ka, mta, mna, mwa, rfl, hna⟩ := K1.out rfl
      obtain ⟨kb, mtb, mnb, mwb, rfl, hnb⟩ := K2.out rfl
      have MS := Hd.mk (merge_st w2 ka mta mna mwa kb mtb mnb mwb A B (TA.out rfl) (TB.out rfl) (hna.at_.below Z2.out) hnb.at_)
      clear hna hnb K1 K2 EE
      go_wp2_with fail
      refine MS.out.mono ?_
      rintro e w3 ⟨p3, rfl, hp0, hp1, hb3⟩
      have P0 := Hd.mk hp0
      have P1 := Hd.mk hp1
      have B3 := Hd.mk (B2.out.trans (hb3.mono B2.out.size))
      clear hp0 hp1 hb3 MS
      rw [← E2.out] at P0 P1 ⊢
      go_wp2_with fail
      go_ret2
      refine ⟨p3, rfl, P0.out, fun h0 => ?_, B3.out⟩
      obtain ⟨k, mt, mn, mw, g1, g2⟩ := P1.out h0
      exact ⟨k, mt, mn, mw, g1, g2.at_, Nat.le_trans B2.out.size g2.k_, Nat.le_trans B2.out.size g2.t_, Nat.le_trans B2.out.size g2.n_, Nat.le_trans B2.out.size g2.w_⟩
theorem results_cell_tmp {P : Program} {fn : Func} {p q : Tmp} {ty : TypeId} (h : fn.results = #[.cell p ty, .tmp q]) (tmps : Array Value) (w : World) (g : Nat) (t : TypeId) (cs : Array Value) (fr : Nat × Nat) (d : TypeDesc)
    (hp : tmps.getD p undef = .pointer (some ⟨g, 0, none⟩)) (hg : w.heap[g]? = some (.cells cs t fr))
    (hu : P.underlying ty = some d) (hd : (match d with | .struct _ | .array _ _ => true | _ => false) = true) (hi : (P.info? ty).map (·.size) = some cs.size) :
    (results fn tmps).run P w = .ok (.tuple #[.agg cs, tmps.getD q undef]) w := by
  have hp' : tmps[p]?.getD undef = .pointer (some ⟨g, 0, none⟩) := by simpa using hp
  simp [results, h, hp', asAddr, run_loadVar_row w g t ty cs fr d hg hu hd hi]
/-- The merge of two states; where there is none the zero value. -/
noncomputable def mrgV (A B : S28) : S28 := if bothE A B = 0 then aMerge A B else ⟨[], [], [], [], []⟩
theorem nilR (base : Nat) (W : World) : StR base W (.slice none 0 0) (.slice none 0 0) (.slice none 0 0) (.slice none 0 0) (.slice none 0 0) ⟨[], [], [], [], []⟩ :=
  ⟨Kd.R_nil _ _ _ _ _, Kd.R_nil _ _ _ _ _, Kd.R_nil _ _ _ _ _, Kd.R_nil _ _ _ _ _, Kd.R_nil _ _ _ _ _⟩
theorem Merge_run (w : World) (A0 A1 A2 A3 A4 : Option Addr) (c0 c1 c2 c3 c4 : Nat) (A : S28) (hA : StC w A0 c0 A1 c1 A2 c2 A3 c3 A4 c4 A) (okA : StOk A) (B0 B1 B2 B3 B4 : Option Addr) (d0 d1 d2 d3 d4 : Nat) (B : S28) (hB : StC w B0 d0 B1 d1 B2 d2 B3 d3 B4 d4 B) (okB : StOk B) :
    Calls Tryz.prog 37 #[stV A A0 c0 A1 c1 A2 c2 A3 c3 A4 c4, stV B B0 d0 B1 d1 B2 d2 B3 d3 B4 d4] w fun e w' => ∃ v0 v1 v2 v3 v4, e = .returned (.tuple #[.agg #[v0, v1, v2, v3, v4], .int .i64 (bothE A B)]) ∧ StR w.heap.size w' v0 v1 v2 v3 v4 (mrgV A B) ∧ Below w.heap.size w w' := by
  obtain ⟨wB, hwB⟩ : ∃ wB, wB = ((w.alloc (.cells #[.slice A0 A.f0.length c0, .slice A1 A.f1.length c1, .slice A2 A.f2.length c2, .slice A3 A.f3.length c3, .slice A4 A.f4.length c4] 28)).alloc (.cells #[.slice B0 B.f0.length d0, .slice B1 B.f1.length d1, .slice B2 B.f2.length d2, .slice B3 B.f3.length d3, .slice B4 B.f4.length d4] 28)).alloc (.cells zeroSt 28) := ⟨_, rfl⟩
  have BB := Hd.mk (show Below w.heap.size w wB by rw [hwB]; exact below_alloc (below_alloc (below_alloc (Below.refl _ _) _) _) _)
  have RB := Hd.mk (show wB.heap[w.heap.size + 2]? = some (Obj.cells zeroSt 28 (0, 0)) by rw [hwB]; exact alloc_at _ _ _ (by simp))
  have BT := Hd.mk (both_run wB A0 A1 A2 A3 A4 c0 c1 c2 c3 c4 A (hA.below BB.out) okA B0 B1 B2 B3 B4 d0 d1 d2 d3 d4 B (hB.below BB.out) okB)
  have ER := Hd.mk (show bothE A B ≠ 0 → mrgV A B = ⟨[], [], [], [], []⟩ from fun h => by unfold mrgV; rw [if_neg h])
  have EQ := Hd.mk (show bothE A B = 0 → mrgV A B = aMerge A B from fun h => by unfold mrgV; rw [if_pos h])
  have RT := Hd.mk (show bothE A B = 0 → Rt (aMerge A B) from fun h => aMerge_rt (bothE_0 h).1 (bothE_0 h).2.1 (bothE_0 h).2.2)
  clear hA hB okA okB
  generalize bothE A B = v at *
  generalize mrgV A B = mv at *
  generalize aMerge A B = M at *
  have hz := Tryz.zeroValue28
  have HW := Hd.mk hwB
  clear hwB
  unfold stV at *
  unfold zeroSt at HW
  go_enter Tryz.func37, Tryz.ntmps37
  go_wp2_with fail
  rw [← HW.out]
  refine BT.out.mono ?_
  rintro e w1 ⟨p, rfl, hp0, hp1, hb⟩
  have P0 := Hd.mk hp0
  have P1 := Hd.mk hp1
  have B1 := Hd.mk (BB.out.trans (hb.mono BB.out.size))
  have RB1 := Hd.mk ((hb.block _ (Array.getElem?_eq_some_iff.1 RB.out).1).trans RB.out)
  clear hp0 hp1 hb BT
  by_cases hv : v = 0
  · subst hv
    obtain ⟨k, mt, mn, mw, rfl, hn⟩ := P1.out rfl
    have RM := Hd.mk (RT.out rfl)
    have ST := Hd.mk (state_run w1 k mt mn mw _ _ _ _ hn.at_ RM.out.kv RM.out.lens)
    rw [RM.out.mk_eq] at ST
    clear hn P0 P1
    go_wp2_with fail
    refine ST.out.mono ?_
    rintro e w2 ⟨v0, v1, v2, v3, v4, rfl, hs, hb⟩
    have RB2 := Hd.mk ((hb.block _ (Array.getElem?_eq_some_iff.1 RB1.out).1).trans RB1.out)
    have B2 := Hd.mk (B1.out.trans (hb.mono B1.out.size))
    have HS := Hd.mk (hs.lower B1.out.size)
    clear hs hb ST
    obtain ⟨C0, e0', e0⟩ := Kd.R_slice HS.out.r0
    obtain ⟨C1, e1', e1⟩ := Kd.R_slice HS.out.r1
    obtain ⟨C2, e2', e2⟩ := Kd.R_slice HS.out.r2
    obtain ⟨C3, e3', e3⟩ := Kd.R_slice HS.out.r3
    obtain ⟨C4, e4', e4⟩ := Kd.R_slice HS.out.r4
    subst e0 e1 e2 e3 e4
    have s0 := cell_of RB2.out 0 rfl
    have s1 := cell_of RB2.out 1 rfl
    have s2 := cell_of RB2.out 2 rfl
    have s3 := cell_of RB2.out 3 rfl
    have s4 := cell_of RB2.out 4 rfl
    have z0 := frozen_of RB2.out 0 none
    have z1 := frozen_of RB2.out 1 none
    have z2 := frozen_of RB2.out 2 none
    have z3 := frozen_of RB2.out 3 none
    have z4 := frozen_of RB2.out 4 none
    have FE := Hd.mk (zeroSt_store RB2.out B2.out (by omega) HS.out)
    go_wp2_with fail
    refine bodyPost_ret (results_cell_tmp rfl _ _ (w.heap.size + 2) 28 #[.slice C0 M.f0.length e0', .slice C1 M.f1.length e1', .slice C2 M.f2.length e2', .slice C3 M.f3.length e3', .slice C4 M.f4.length e4'] (0, 0) _ rfl FE.out.1 Tryz.underlying28 rfl (by kernel_rfl)) rfl ?_
    refine ⟨_, _, _, _, _, rfl, ?_, FE.out.2.2⟩
    rw [EQ.out (by first | rfl | trivial)]
    exact FE.out.2.1
  · obtain rfl := P0.out hv
    have hvb : (v == 0) = false := by simp [hv]
    have hvd : decide (v = 0) = false := by simp [hv]
    have ER2 := Hd.mk (ER.out hv)
    have s0 := cell_of RB1.out 0 rfl
    have s1 := cell_of RB1.out 1 rfl
    have s2 := cell_of RB1.out 2 rfl
    have s3 := cell_of RB1.out 3 rfl
    have s4 := cell_of RB1.out 4 rfl
    have z0 := frozen_of RB1.out 0 none
    have z1 := frozen_of RB1.out 1 none
    have z2 := frozen_of RB1.out 2 none
    have z3 := frozen_of RB1.out 3 none
    have z4 := frozen_of RB1.out 4 none
    have FE := Hd.mk (zeroSt_store RB1.out B1.out (by omega) (nilR w.heap.size w1))
    clear hv
    go_wp2_with fail
    refine bodyPost_ret (results_cell_tmp rfl _ _ (w.heap.size + 2) 28 #[.slice none 0 0, .slice none 0 0, .slice none 0 0, .slice none 0 0, .slice none 0 0] (0, 0) _ rfl FE.out.1 Tryz.underlying28 rfl (by kernel_rfl)) rfl ?_
    refine ⟨_, _, _, _, _, rfl, ?_, FE.out.2.2⟩
    rw [ER2.out]
    exact FE.out.2.1
end Go.Proofs.YtmeaeapopfcmbaaGreat
