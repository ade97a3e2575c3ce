/- ReplicaLattice's walk. No conditions. -/
import Derived.Test.YtmeaeapopfcmbaaGreatB45
namespace Go.Proofs.YtmeaeapopfcmbaaGreat
open Go.RowKit Go.Proofs.YtmeaeapopfcmbaaGreatW.PrintWords Go.Proofs.YtmeaeapopfcmbaaGreatW.PrintLast Go.Proofs.YtmeaeapopfcmbaaGreatW.PrintMore PP
set_option linter.unusedVariables false
set_option linter.unusedSimpArgs false
set_option maxHeartbeats 4000000
set_option maxRecDepth 100000
/-- A state in a block. -/
structure Bx (W : World) (b : Nat) (S : S28) (x0 x1 x2 x3 x4 : Value) : Prop where
  blk : W.heap[b]? = some (.cells #[x0, x1, x2, x3, x4] 28 (0, 0))
  sk : Sk W S x0 x1 x2 x3 x4
theorem Bx.below {W W' : World} {b : Nat} {S : S28} {x0 x1 x2 x3 x4 : Value} (h : Bx W b S x0 x1 x2 x3 x4) (hb : Below W.heap.size W W') : Bx W' b S x0 x1 x2 x3 x4 :=
  ⟨(hb.block _ (Array.getElem?_eq_some_iff.1 h.blk).1).trans h.blk, h.sk.below hb⟩
theorem Bx.sv {W : World} {b : Nat} {S : S28} {x0 x1 x2 x3 x4 : Value} (h : Bx W b S x0 x1 x2 x3 x4) (hf : Fit S ∧ StOk S) : Sv W S x0 x1 x2 x3 x4 := ⟨h.sk, hf.1, hf.2⟩
theorem bx_new {W : World} {S : S28} {x0 x1 x2 x3 x4 : Value} (h : Sk W S x0 x1 x2 x3 x4) : Bx (W.alloc (.cells #[x0, x1, x2, x3, x4] 28)) W.heap.size S x0 x1 x2 x3 x4 :=
  ⟨alloc_at _ _ _ rfl, h.below (below_alloc (Below.refl _ _) _)⟩
theorem lattice_run (w : World) (A B C : S28) (x0 x1 x2 x3 x4 y0 y1 y2 y3 y4 z0 z1 z2 z3 z4 : Value) (hA : Sk w A x0 x1 x2 x3 x4) (oA : StOk A) (hB : Sk w B y0 y1 y2 y3 y4) (oB : StOk B) (hC : Sk w C z0 z1 z2 z3 z4) (oC : StOk C) :
    Calls Tryz.prog 9 #[.agg #[x0, x1, x2, x3, x4], .agg #[y0, y1, y2, y3, y4], .agg #[z0, z1, z2, z3, z4]] w fun e w' => e = .returned (.bool true) ∧ Below w.heap.size w w' := by
  obtain ⟨wB, hwB⟩ : ∃ wB, wB = ((w.alloc (.cells #[x0, x1, x2, x3, x4] 28)).alloc (.cells #[y0, y1, y2, y3, y4] 28)).alloc (.cells #[z0, z1, z2, z3, z4] 28) := ⟨_, rfl⟩
  have BB := Hd.mk (show Below w.heap.size w wB by rw [hwB]; exact below_alloc (below_alloc (below_alloc (Below.refl _ _) _) _) _)
  have XA := Hd.mk (show Bx wB w.heap.size A x0 x1 x2 x3 x4 by rw [hwB]; exact ((bx_new hA).below (below_alloc (Below.refl _ _) _)).below (below_alloc (Below.refl _ _) _))
  have XB := Hd.mk (show Bx wB (w.heap.size + 1) B y0 y1 y2 y3 y4 by rw [hwB]; exact (show (w.alloc (.cells #[x0, x1, x2, x3, x4] 28)).heap.size = w.heap.size + 1 by simp) ▸ (bx_new (hB.below (below_alloc (Below.refl _ _) _))).below (below_alloc (Below.refl _ _) _))
  have XC := Hd.mk (show Bx wB (w.heap.size + 1 + 1) C z0 z1 z2 z3 z4 by rw [hwB]; exact (show ((w.alloc (.cells #[x0, x1, x2, x3, x4] 28)).alloc (.cells #[y0, y1, y2, y3, y4] 28)).heap.size = w.heap.size + 1 + 1 by simp) ▸ bx_new ((hC.below (below_alloc (Below.refl _ _) _)).below (below_alloc (Below.refl _ _) _)))
  have FA := Hd.mk (fun h : smallB A = true => (⟨(smallB_few h).fit, oA⟩ : Fit A ∧ StOk A))
  have FB := Hd.mk (fun h : smallB B = true => (⟨(smallB_few h).fit, oB⟩ : Fit B ∧ StOk B))
  have FC := Hd.mk (fun h : smallB C = true => (⟨(smallB_few h).fit, oC⟩ : Fit C ∧ StOk C))
  have HW := Hd.mk hwB
  have hz := Tryz.zeroValue28
  clear hA oA hB oB hC oC hwB
  go_enter Tryz.func9, Tryz.ntmps9
  cases sa : smallB A with
  | false =>
    have q0 := cell_of XA.out.blk 0 rfl
    have q1 := cell_of XA.out.blk 1 rfl
    have q2 := cell_of XA.out.blk 2 rfl
    have q3 := cell_of XA.out.blk 3 rfl
    have q4 := cell_of XA.out.blk 4 rfl
    go_wp2_with fail
    rw [← HW.out]
    refine ((small_v XA.out.sk).mono fun e w' (h : _ ∧ _) => (show e = Ending.returned (.bool false) ∧ Below wB.heap.size wB w' from sa ▸ h)).mono ?_
    rintro e w0 ⟨rfl, hb⟩
    have BB' := Hd.mk (BB.out.trans (hb.mono BB.out.size))
    have XA' := Hd.mk (XA.out.below hb)
    have XB' := Hd.mk (XB.out.below hb)
    have XC' := Hd.mk (XC.out.below hb)
    clear hb BB XA XB XC q0 q1 q2 q3 q4
    have BB := BB'
    have XA := XA'
    have XB := XB'
    have XC := XC'
    clear BB' XA' XB' XC'
    go_wp2_with fail
    refine (alive_run _).mono ?_
    rintro e w99 ⟨rfl, hb⟩
    have BB' := Hd.mk (BB.out.trans (hb.mono BB.out.size))
    clear hb
    go_wp2_with fail
    go_ret
    exact ⟨rfl, BB'.out⟩
  | true =>
    have q0 := cell_of XA.out.blk 0 rfl
    have q1 := cell_of XA.out.blk 1 rfl
    have q2 := cell_of XA.out.blk 2 rfl
    have q3 := cell_of XA.out.blk 3 rfl
    have q4 := cell_of XA.out.blk 4 rfl
    go_wp2_with fail
    rw [← HW.out]
    refine ((small_v XA.out.sk).mono fun e w' (h : _ ∧ _) => (show e = Ending.returned (.bool true) ∧ Below wB.heap.size wB w' from sa ▸ h)).mono ?_
    rintro e w1 ⟨rfl, hb⟩
    have BB' := Hd.mk (BB.out.trans (hb.mono BB.out.size))
    have XA' := Hd.mk (XA.out.below hb)
    have XB' := Hd.mk (XB.out.below hb)
    have XC' := Hd.mk (XC.out.below hb)
    clear hb BB XA XB XC q0 q1 q2 q3 q4
    have BB := BB'
    have XA := XA'
    have XB := XB'
    have XC := XC'
    clear BB' XA' XB' XC'
    cases sb : smallB B with
    | false =>
      have q0 := cell_of XB.out.blk 0 rfl
      have q1 := cell_of XB.out.blk 1 rfl
      have q2 := cell_of XB.out.blk 2 rfl
      have q3 := cell_of XB.out.blk 3 rfl
      have q4 := cell_of XB.out.blk 4 rfl
      go_wp2_with fail
      refine ((small_v XB.out.sk).mono fun e w' (h : _ ∧ _) => (show e = Ending.returned (.bool false) ∧ Below w1.heap.size w1 w' from sb ▸ h)).mono ?_
      rintro e w2 ⟨rfl, hb⟩
      have BB' := Hd.mk (BB.out.trans (hb.mono BB.out.size))
      have XA' := Hd.mk (XA.out.below hb)
      have XB' := Hd.mk (XB.out.below hb)
      have XC' := Hd.mk (XC.out.below hb)
      clear hb BB XA XB XC q0 q1 q2 q3 q4
      have BB := BB'
      have XA := XA'
      have XB := XB'
      have XC := XC'
      clear BB' XA' XB' XC'
      go_wp2_with fail
      refine (alive_run _).mono ?_
      rintro e w99 ⟨rfl, hb⟩
      have BB' := Hd.mk (BB.out.trans (hb.mono BB.out.size))
      clear hb
      go_wp2_with fail
      go_ret
      exact ⟨rfl, BB'.out⟩
    | true =>
      have q0 := cell_of XB.out.blk 0 rfl
      have q1 := cell_of XB.out.blk 1 rfl
      have q2 := cell_of XB.out.blk 2 rfl
      have q3 := cell_of XB.out.blk 3 rfl
      have q4 := cell_of XB.out.blk 4 rfl
      go_wp2_with fail
      refine ((small_v XB.out.sk).mono fun e w' (h : _ ∧ _) => (show e = Ending.returned (.bool true) ∧ Below w1.heap.size w1 w' from sb ▸ h)).mono ?_
      rintro e w3 ⟨rfl, hb⟩
      have BB' := Hd.mk (BB.out.trans (hb.mono BB.out.size))
      have XA' := Hd.mk (XA.out.below hb)
      have XB' := Hd.mk (XB.out.below hb)
      have XC' := Hd.mk (XC.out.below hb)
      clear hb BB XA XB XC q0 q1 q2 q3 q4
      have BB := BB'
      have XA := XA'
      have XB := XB'
      have XC := XC'
      clear BB' XA' XB' XC'
      cases sc : smallB C with
      | false =>
        have q0 := cell_of XC.out.blk 0 rfl
        have q1 := cell_of XC.out.blk 1 rfl
        have q2 := cell_of XC.out.blk 2 rfl
        have q3 := cell_of XC.out.blk 3 rfl
        have q4 := cell_of XC.out.blk 4 rfl
        go_wp2_with fail
        refine ((small_v XC.out.sk).mono fun e w' (h : _ ∧ _) => (show e = Ending.returned (.bool false) ∧ Below w3.heap.size w3 w' from sc ▸ h)).mono ?_
        rintro e w4 ⟨rfl, hb⟩
        have BB' := Hd.mk (BB.out.trans (hb.mono BB.out.size))
        have XA' := Hd.mk (XA.out.below hb)
        have XB' := Hd.mk (XB.out.below hb)
        have XC' := Hd.mk (XC.out.below hb)
        clear hb BB XA XB XC q0 q1 q2 q3 q4
        have BB := BB'
        have XA := XA'
        have XB := XB'
        have XC := XC'
        clear BB' XA' XB' XC'
        go_wp2_with fail
        refine (alive_run _).mono ?_
        rintro e w99 ⟨rfl, hb⟩
        have BB' := Hd.mk (BB.out.trans (hb.mono BB.out.size))
        clear hb
        go_wp2_with fail
        go_ret
        exact ⟨rfl, BB'.out⟩
      | true =>
        have q0 := cell_of XC.out.blk 0 rfl
        have q1 := cell_of XC.out.blk 1 rfl
        have q2 := cell_of XC.out.blk 2 rfl
        have q3 := cell_of XC.out.blk 3 rfl
        have q4 := cell_of XC.out.blk 4 rfl
        go_wp2_with fail
        refine ((small_v XC.out.sk).mono fun e w' (h : _ ∧ _) => (show e = Ending.returned (.bool true) ∧ Below w3.heap.size w3 w' from sc ▸ h)).mono ?_
        rintro e w5 ⟨rfl, hb⟩
        have BB' := Hd.mk (BB.out.trans (hb.mono BB.out.size))
        have XA' := Hd.mk (XA.out.below hb)
        have XB' := Hd.mk (XB.out.below hb)
        have XC' := Hd.mk (XC.out.below hb)
        clear hb BB XA XB XC q0 q1 q2 q3 q4
        have BB := BB'
        have XA := XA'
        have XB := XB'
        have XC := XC'
        clear BB' XA' XB' XC'
        have FA := Hd.mk (FA.out sa)
        have FB := Hd.mk (FB.out sb)
        have FC := Hd.mk (FC.out sc)
        clear sa sb sc
        have RF := Hd.mk (@rtB_false A)
        have RS := Hd.mk (@both_self A)
        have RC := Hd.mk (both_comm A B)
        have R0 := Hd.mk (show bothE A B = 0 → rtB A = true from fun h => rtB_iff.2 (bothE_0 h).1)
        have RV := Hd.mk (@both_cov A B)
        have RN := Hd.mk (show bothE A B ≠ 0 → mrgV A B = ⟨[], [], [], [], []⟩ from fun h => by unfold mrgV; rw [if_neg h])
        have RA := Hd.mk (@both_assoc A B C)
        have FM := Hd.mk (@mrgV_fit A B)
        have FD := Hd.mk (@mrgV_fit B C)
        cases ra : rtB A with
        | false =>
          have E0 := Hd.mk (RF.out ra)
          have VN := Hd.mk (show bothE A B ≠ 0 from fun h => by have := R0.out h; rw [ra] at this; cases this)
          have q0 := cell_of XA.out.blk 0 rfl
          have q1 := cell_of XA.out.blk 1 rfl
          have q2 := cell_of XA.out.blk 2 rfl
          have q3 := cell_of XA.out.blk 3 rfl
          have q4 := cell_of XA.out.blk 4 rfl
          go_wp2_with fail
          have CF := merge_v (XA.out.sv FA.out) (XA.out.sv FA.out)
          rw [E0.out] at CF
          refine CF.mono ?_
          clear CF
          rintro e w6 ⟨v0, v1, v2, v3, v4, rfl, hs, hb⟩
          obtain ⟨CS0, dS0, CS1, dS1, CS2, dS2, CS3, dS3, CS4, dS4, rfl, rfl, rfl, rfl, rfl, _⟩ := StR.sk hs
          have hb2 : Below w6.heap.size w6 (w6.alloc (Obj.cells #[.slice CS0 (mrgV A A).f0.length dS0, .slice CS1 (mrgV A A).f1.length dS1, .slice CS2 (mrgV A A).f2.length dS2, .slice CS3 (mrgV A A).f3.length dS3, .slice CS4 (mrgV A A).f4.length dS4] 28)) := below_alloc (Below.refl _ _) _
          have BB' := Hd.mk (show Below w.heap.size w (w6.alloc (Obj.cells #[.slice CS0 (mrgV A A).f0.length dS0, .slice CS1 (mrgV A A).f1.length dS1, .slice CS2 (mrgV A A).f2.length dS2, .slice CS3 (mrgV A A).f3.length dS3, .slice CS4 (mrgV A A).f4.length dS4] 28)) from (BB.out.trans (hb.mono BB.out.size)).alloc (Nat.le_trans BB.out.size hb.size) _)
          have XA' := Hd.mk (show Bx (w6.alloc (Obj.cells #[.slice CS0 (mrgV A A).f0.length dS0, .slice CS1 (mrgV A A).f1.length dS1, .slice CS2 (mrgV A A).f2.length dS2, .slice CS3 (mrgV A A).f3.length dS3, .slice CS4 (mrgV A A).f4.length dS4] 28)) w.heap.size A x0 x1 x2 x3 x4 from (XA.out.below hb).below hb2)
          have XB' := Hd.mk (show Bx (w6.alloc (Obj.cells #[.slice CS0 (mrgV A A).f0.length dS0, .slice CS1 (mrgV A A).f1.length dS1, .slice CS2 (mrgV A A).f2.length dS2, .slice CS3 (mrgV A A).f3.length dS3, .slice CS4 (mrgV A A).f4.length dS4] 28)) (w.heap.size + 1) B y0 y1 y2 y3 y4 from (XB.out.below hb).below hb2)
          have XC' := Hd.mk (show Bx (w6.alloc (Obj.cells #[.slice CS0 (mrgV A A).f0.length dS0, .slice CS1 (mrgV A A).f1.length dS1, .slice CS2 (mrgV A A).f2.length dS2, .slice CS3 (mrgV A A).f3.length dS3, .slice CS4 (mrgV A A).f4.length dS4] 28)) (w.heap.size + 1 + 1) C z0 z1 z2 z3 z4 from (XC.out.below hb).below hb2)
          have XS' := Hd.mk (show Bx (w6.alloc (Obj.cells #[.slice CS0 (mrgV A A).f0.length dS0, .slice CS1 (mrgV A A).f1.length dS1, .slice CS2 (mrgV A A).f2.length dS2, .slice CS3 (mrgV A A).f3.length dS3, .slice CS4 (mrgV A A).f4.length dS4] 28)) w6.heap.size (mrgV A A) (.slice CS0 (mrgV A A).f0.length dS0) (.slice CS1 (mrgV A A).f1.length dS1) (.slice CS2 (mrgV A A).f2.length dS2) (.slice CS3 (mrgV A A).f3.length dS3) (.slice CS4 (mrgV A A).f4.length dS4) from bx_new (StR.sk hs))
          clear hb hb2 hs BB XA XB XC q0 q1 q2 q3 q4
          have BB := BB'
          have XA := XA'
          have XB := XB'
          have XC := XC'
          have XS := XS'
          clear BB' XA' XB' XC' XS'
          have q0 := cell_of XA.out.blk 0 rfl
          have q1 := cell_of XA.out.blk 1 rfl
          have q2 := cell_of XA.out.blk 2 rfl
          have q3 := cell_of XA.out.blk 3 rfl
          have q4 := cell_of XA.out.blk 4 rfl
          go_wp2_with fail
          have CF := right_v (XA.out.sv FA.out)
          rw [ra] at CF
          refine CF.mono ?_
          clear CF
          rintro e w7 ⟨rfl, hb⟩
          have BB' := Hd.mk (BB.out.trans (hb.mono BB.out.size))
          have XA' := Hd.mk (XA.out.below hb)
          have XB' := Hd.mk (XB.out.below hb)
          have XC' := Hd.mk (XC.out.below hb)
          have XS' := Hd.mk (XS.out.below hb)
          clear hb BB XA XB XC XS q0 q1 q2 q3 q4
          have BB := BB'
          have XA := XA'
          have XB := XB'
          have XC := XC'
          have XS := XS'
          clear BB' XA' XB' XC' XS'
          have q0 := cell_of XA.out.blk 0 rfl
          have q1 := cell_of XA.out.blk 1 rfl
          have q2 := cell_of XA.out.blk 2 rfl
          have q3 := cell_of XA.out.blk 3 rfl
          have q4 := cell_of XA.out.blk 4 rfl
          go_wp2_with fail
          have CF := right_v (XA.out.sv FA.out)
          rw [ra] at CF
          refine CF.mono ?_
          clear CF
          rintro e w8 ⟨rfl, hb⟩
          have BB' := Hd.mk (BB.out.trans (hb.mono BB.out.size))
          have XA' := Hd.mk (XA.out.below hb)
          have XB' := Hd.mk (XB.out.below hb)
          have XC' := Hd.mk (XC.out.below hb)
          have XS' := Hd.mk (XS.out.below hb)
          clear hb BB XA XB XC XS q0 q1 q2 q3 q4
          have BB := BB'
          have XA := XA'
          have XB := XB'
          have XC := XC'
          have XS := XS'
          clear BB' XA' XB' XC' XS'
          have MN := Hd.mk (RN.out VN.out)
          have VE := Hd.mk RC.out.1
          have WE := Hd.mk RC.out.2
          have hv1 := VN.out
          obtain ⟨N, hN⟩ : ∃ N : S28, N = ⟨[], [], [], [], []⟩ := ⟨_, rfl⟩
          rw [← hN] at MN
          have FN := Hd.mk (show Fit N by rw [hN]; exact fit_nil)
          have EN := Hd.mk hN
          clear hN
          obtain ⟨v, hv⟩ : ∃ v, bothE A B = v := ⟨_, rfl⟩
          rw [hv] at hv1 VE VN
          have HV := Hd.mk hv
          clear hv RF RS RC R0 RV RN RA FM FD
          have q0 := cell_of XA.out.blk 0 rfl
          have q1 := cell_of XA.out.blk 1 rfl
          have q2 := cell_of XA.out.blk 2 rfl
          have q3 := cell_of XA.out.blk 3 rfl
          have q4 := cell_of XA.out.blk 4 rfl
          have q5 := cell_of XB.out.blk 0 rfl
          have q6 := cell_of XB.out.blk 1 rfl
          have q7 := cell_of XB.out.blk 2 rfl
          have q8 := cell_of XB.out.blk 3 rfl
          have q9 := cell_of XB.out.blk 4 rfl
          go_wp2_with fail
          have CF := merge_v (XA.out.sv FA.out) (XB.out.sv FB.out)
          rw [HV.out, MN.out] at CF
          refine CF.mono ?_
          clear CF
          rintro e w9 ⟨v0, v1, v2, v3, v4, rfl, hs, hb⟩
          obtain ⟨CM0, dM0, CM1, dM1, CM2, dM2, CM3, dM3, CM4, dM4, rfl, rfl, rfl, rfl, rfl, _⟩ := StR.sk hs
          have hb2 : Below w9.heap.size w9 (w9.alloc (Obj.cells #[.slice CM0 N.f0.length dM0, .slice CM1 N.f1.length dM1, .slice CM2 N.f2.length dM2, .slice CM3 N.f3.length dM3, .slice CM4 N.f4.length dM4] 28)) := below_alloc (Below.refl _ _) _
          have BB' := Hd.mk (show Below w.heap.size w (w9.alloc (Obj.cells #[.slice CM0 N.f0.length dM0, .slice CM1 N.f1.length dM1, .slice CM2 N.f2.length dM2, .slice CM3 N.f3.length dM3, .slice CM4 N.f4.length dM4] 28)) from (BB.out.trans (hb.mono BB.out.size)).alloc (Nat.le_trans BB.out.size hb.size) _)
          have XA' := Hd.mk (show Bx (w9.alloc (Obj.cells #[.slice CM0 N.f0.length dM0, .slice CM1 N.f1.length dM1, .slice CM2 N.f2.length dM2, .slice CM3 N.f3.length dM3, .slice CM4 N.f4.length dM4] 28)) w.heap.size A x0 x1 x2 x3 x4 from (XA.out.below hb).below hb2)
          have XB' := Hd.mk (show Bx (w9.alloc (Obj.cells #[.slice CM0 N.f0.length dM0, .slice CM1 N.f1.length dM1, .slice CM2 N.f2.length dM2, .slice CM3 N.f3.length dM3, .slice CM4 N.f4.length dM4] 28)) (w.heap.size + 1) B y0 y1 y2 y3 y4 from (XB.out.below hb).below hb2)
          have XC' := Hd.mk (show Bx (w9.alloc (Obj.cells #[.slice CM0 N.f0.length dM0, .slice CM1 N.f1.length dM1, .slice CM2 N.f2.length dM2, .slice CM3 N.f3.length dM3, .slice CM4 N.f4.length dM4] 28)) (w.heap.size + 1 + 1) C z0 z1 z2 z3 z4 from (XC.out.below hb).below hb2)
          have XS' := Hd.mk (show Bx (w9.alloc (Obj.cells #[.slice CM0 N.f0.length dM0, .slice CM1 N.f1.length dM1, .slice CM2 N.f2.length dM2, .slice CM3 N.f3.length dM3, .slice CM4 N.f4.length dM4] 28)) w6.heap.size (mrgV A A) (.slice CS0 (mrgV A A).f0.length dS0) (.slice CS1 (mrgV A A).f1.length dS1) (.slice CS2 (mrgV A A).f2.length dS2) (.slice CS3 (mrgV A A).f3.length dS3) (.slice CS4 (mrgV A A).f4.length dS4) from (XS.out.below hb).below hb2)
          have XM' := Hd.mk (show Bx (w9.alloc (Obj.cells #[.slice CM0 N.f0.length dM0, .slice CM1 N.f1.length dM1, .slice CM2 N.f2.length dM2, .slice CM3 N.f3.length dM3, .slice CM4 N.f4.length dM4] 28)) w9.heap.size N (.slice CM0 N.f0.length dM0) (.slice CM1 N.f1.length dM1) (.slice CM2 N.f2.length dM2) (.slice CM3 N.f3.length dM3) (.slice CM4 N.f4.length dM4) from bx_new (StR.sk hs))
          clear hb hb2 hs BB XA XB XC XS q0 q1 q2 q3 q4 q5 q6 q7 q8 q9
          have BB := BB'
          have XA := XA'
          have XB := XB'
          have XC := XC'
          have XS := XS'
          have XM := XM'
          clear BB' XA' XB' XC' XS' XM'
          have q0 := cell_of XB.out.blk 0 rfl
          have q1 := cell_of XB.out.blk 1 rfl
          have q2 := cell_of XB.out.blk 2 rfl
          have q3 := cell_of XB.out.blk 3 rfl
          have q4 := cell_of XB.out.blk 4 rfl
          have q5 := cell_of XA.out.blk 0 rfl
          have q6 := cell_of XA.out.blk 1 rfl
          have q7 := cell_of XA.out.blk 2 rfl
          have q8 := cell_of XA.out.blk 3 rfl
          have q9 := cell_of XA.out.blk 4 rfl
          go_wp2_with fail
          have CF := merge_v (XB.out.sv FB.out) (XA.out.sv FA.out)
          rw [← VE.out, ← WE.out, MN.out] at CF
          refine CF.mono ?_
          clear CF
          rintro e w10 ⟨v0, v1, v2, v3, v4, rfl, hs, hb⟩
          obtain ⟨CT0, dT0, CT1, dT1, CT2, dT2, CT3, dT3, CT4, dT4, rfl, rfl, rfl, rfl, rfl, _⟩ := StR.sk hs
          have hb2 : Below w10.heap.size w10 (w10.alloc (Obj.cells #[.slice CT0 N.f0.length dT0, .slice CT1 N.f1.length dT1, .slice CT2 N.f2.length dT2, .slice CT3 N.f3.length dT3, .slice CT4 N.f4.length dT4] 28)) := below_alloc (Below.refl _ _) _
          have BB' := Hd.mk (show Below w.heap.size w (w10.alloc (Obj.cells #[.slice CT0 N.f0.length dT0, .slice CT1 N.f1.length dT1, .slice CT2 N.f2.length dT2, .slice CT3 N.f3.length dT3, .slice CT4 N.f4.length dT4] 28)) from (BB.out.trans (hb.mono BB.out.size)).alloc (Nat.le_trans BB.out.size hb.size) _)
          have XA' := Hd.mk (show Bx (w10.alloc (Obj.cells #[.slice CT0 N.f0.length dT0, .slice CT1 N.f1.length dT1, .slice CT2 N.f2.length dT2, .slice CT3 N.f3.length dT3, .slice CT4 N.f4.length dT4] 28)) w.heap.size A x0 x1 x2 x3 x4 from (XA.out.below hb).below hb2)
          have XB' := Hd.mk (show Bx (w10.alloc (Obj.cells #[.slice CT0 N.f0.length dT0, .slice CT1 N.f1.length dT1, .slice CT2 N.f2.length dT2, .slice CT3 N.f3.length dT3, .slice CT4 N.f4.length dT4] 28)) (w.heap.size + 1) B y0 y1 y2 y3 y4 from (XB.out.below hb).below hb2)
          have XC' := Hd.mk (show Bx (w10.alloc (Obj.cells #[.slice CT0 N.f0.length dT0, .slice CT1 N.f1.length dT1, .slice CT2 N.f2.length dT2, .slice CT3 N.f3.length dT3, .slice CT4 N.f4.length dT4] 28)) (w.heap.size + 1 + 1) C z0 z1 z2 z3 z4 from (XC.out.below hb).below hb2)
          have XS' := Hd.mk (show Bx (w10.alloc (Obj.cells #[.slice CT0 N.f0.length dT0, .slice CT1 N.f1.length dT1, .slice CT2 N.f2.length dT2, .slice CT3 N.f3.length dT3, .slice CT4 N.f4.length dT4] 28)) w6.heap.size (mrgV A A) (.slice CS0 (mrgV A A).f0.length dS0) (.slice CS1 (mrgV A A).f1.length dS1) (.slice CS2 (mrgV A A).f2.length dS2) (.slice CS3 (mrgV A A).f3.length dS3) (.slice CS4 (mrgV A A).f4.length dS4) from (XS.out.below hb).below hb2)
          have XM' := Hd.mk (show Bx (w10.alloc (Obj.cells #[.slice CT0 N.f0.length dT0, .slice CT1 N.f1.length dT1, .slice CT2 N.f2.length dT2, .slice CT3 N.f3.length dT3, .slice CT4 N.f4.length dT4] 28)) w9.heap.size N (.slice CM0 N.f0.length dM0) (.slice CM1 N.f1.length dM1) (.slice CM2 N.f2.length dM2) (.slice CM3 N.f3.length dM3) (.slice CM4 N.f4.length dM4) from (XM.out.below hb).below hb2)
          have XT' := Hd.mk (show Bx (w10.alloc (Obj.cells #[.slice CT0 N.f0.length dT0, .slice CT1 N.f1.length dT1, .slice CT2 N.f2.length dT2, .slice CT3 N.f3.length dT3, .slice CT4 N.f4.length dT4] 28)) w10.heap.size N (.slice CT0 N.f0.length dT0) (.slice CT1 N.f1.length dT1) (.slice CT2 N.f2.length dT2) (.slice CT3 N.f3.length dT3) (.slice CT4 N.f4.length dT4) from bx_new (StR.sk hs))
          clear hb hb2 hs BB XA XB XC XS XM q0 q1 q2 q3 q4 q5 q6 q7 q8 q9
          have BB := BB'
          have XA := XA'
          have XB := XB'
          have XC := XC'
          have XS := XS'
          have XM := XM'
          have XT := XT'
          clear BB' XA' XB' XC' XS' XM' XT'
          have q0 := cell_of XM.out.blk 0 rfl
          have q1 := cell_of XM.out.blk 1 rfl
          have q2 := cell_of XM.out.blk 2 rfl
          have q3 := cell_of XM.out.blk 3 rfl
          have q4 := cell_of XM.out.blk 4 rfl
          have q5 := cell_of XT.out.blk 0 rfl
          have q6 := cell_of XT.out.blk 1 rfl
          have q7 := cell_of XT.out.blk 2 rfl
          have q8 := cell_of XT.out.blk 3 rfl
          have q9 := cell_of XT.out.blk 4 rfl
          go_wp2_with fail
          have CF := same_v XM.out.sk FN.out XT.out.sk
          rw [eqL_iff.2 rfl] at CF
          refine CF.mono ?_
          clear CF
          rintro e w11 ⟨rfl, hb⟩
          have BB' := Hd.mk (BB.out.trans (hb.mono BB.out.size))
          have XA' := Hd.mk (XA.out.below hb)
          have XB' := Hd.mk (XB.out.below hb)
          have XC' := Hd.mk (XC.out.below hb)
          have XS' := Hd.mk (XS.out.below hb)
          have XM' := Hd.mk (XM.out.below hb)
          have XT' := Hd.mk (XT.out.below hb)
          clear hb BB XA XB XC XS XM XT q0 q1 q2 q3 q4 q5 q6 q7 q8 q9
          have BB := BB'
          have XA := XA'
          have XB := XB'
          have XC := XC'
          have XS := XS'
          have XM := XM'
          have XT := XT'
          clear BB' XA' XB' XC' XS' XM' XT'
          have vb : (v != 0) = true := by simp [VN.out]
          have vd : decide (v = 0) = false := by simp [VN.out]
          have q0 := cell_of XM.out.blk 0 rfl
          have q1 := cell_of XM.out.blk 1 rfl
          have q2 := cell_of XM.out.blk 2 rfl
          have q3 := cell_of XM.out.blk 3 rfl
          have q4 := cell_of XM.out.blk 4 rfl
          go_wp2_with fail
          have CF := same_v XM.out.sk FN.out (nil_sk _)
          rw [eqL_iff.2 EN.out] at CF
          refine CF.mono ?_
          clear CF
          rintro e w12 ⟨rfl, hb⟩
          have BB' := Hd.mk (BB.out.trans (hb.mono BB.out.size))
          have XA' := Hd.mk (XA.out.below hb)
          have XB' := Hd.mk (XB.out.below hb)
          have XC' := Hd.mk (XC.out.below hb)
          have XS' := Hd.mk (XS.out.below hb)
          have XM' := Hd.mk (XM.out.below hb)
          have XT' := Hd.mk (XT.out.below hb)
          clear hb BB XA XB XC XS XM XT q0 q1 q2 q3 q4
          have BB := BB'
          have XA := XA'
          have XB := XB'
          have XC := XC'
          have XS := XS'
          have XM := XM'
          have XT := XT'
          clear BB' XA' XB' XC' XS' XM' XT'
          go_wp2_with fail
          refine (alive_run _).mono ?_
          rintro e w99 ⟨rfl, hb⟩
          have BB' := Hd.mk (BB.out.trans (hb.mono BB.out.size))
          clear hb
          go_wp2_with fail
          go_ret
          exact ⟨rfl, BB'.out⟩
        | true =>
          have E0 := Hd.mk (RS.out ra).1
          have E1 := Hd.mk (RS.out ra).2
          have q0 := cell_of XA.out.blk 0 rfl
          have q1 := cell_of XA.out.blk 1 rfl
          have q2 := cell_of XA.out.blk 2 rfl
          have q3 := cell_of XA.out.blk 3 rfl
          have q4 := cell_of XA.out.blk 4 rfl
          go_wp2_with fail
          have CF := merge_v (XA.out.sv FA.out) (XA.out.sv FA.out)
          rw [E0.out, E1.out] at CF
          refine CF.mono ?_
          clear CF
          rintro e w13 ⟨v0, v1, v2, v3, v4, rfl, hs, hb⟩
          obtain ⟨CS0, dS0, CS1, dS1, CS2, dS2, CS3, dS3, CS4, dS4, rfl, rfl, rfl, rfl, rfl, _⟩ := StR.sk hs
          have hb2 : Below w13.heap.size w13 (w13.alloc (Obj.cells #[.slice CS0 A.f0.length dS0, .slice CS1 A.f1.length dS1, .slice CS2 A.f2.length dS2, .slice CS3 A.f3.length dS3, .slice CS4 A.f4.length dS4] 28)) := below_alloc (Below.refl _ _) _
          have BB' := Hd.mk (show Below w.heap.size w (w13.alloc (Obj.cells #[.slice CS0 A.f0.length dS0, .slice CS1 A.f1.length dS1, .slice CS2 A.f2.length dS2, .slice CS3 A.f3.length dS3, .slice CS4 A.f4.length dS4] 28)) from (BB.out.trans (hb.mono BB.out.size)).alloc (Nat.le_trans BB.out.size hb.size) _)
          have XA' := Hd.mk (show Bx (w13.alloc (Obj.cells #[.slice CS0 A.f0.length dS0, .slice CS1 A.f1.length dS1, .slice CS2 A.f2.length dS2, .slice CS3 A.f3.length dS3, .slice CS4 A.f4.length dS4] 28)) w.heap.size A x0 x1 x2 x3 x4 from (XA.out.below hb).below hb2)
          have XB' := Hd.mk (show Bx (w13.alloc (Obj.cells #[.slice CS0 A.f0.length dS0, .slice CS1 A.f1.length dS1, .slice CS2 A.f2.length dS2, .slice CS3 A.f3.length dS3, .slice CS4 A.f4.length dS4] 28)) (w.heap.size + 1) B y0 y1 y2 y3 y4 from (XB.out.below hb).below hb2)
          have XC' := Hd.mk (show Bx (w13.alloc (Obj.cells #[.slice CS0 A.f0.length dS0, .slice CS1 A.f1.length dS1, .slice CS2 A.f2.length dS2, .slice CS3 A.f3.length dS3, .slice CS4 A.f4.length dS4] 28)) (w.heap.size + 1 + 1) C z0 z1 z2 z3 z4 from (XC.out.below hb).below hb2)
          have XS' := Hd.mk (show Bx (w13.alloc (Obj.cells #[.slice CS0 A.f0.length dS0, .slice CS1 A.f1.length dS1, .slice CS2 A.f2.length dS2, .slice CS3 A.f3.length dS3, .slice CS4 A.f4.length dS4] 28)) w13.heap.size A (.slice CS0 A.f0.length dS0) (.slice CS1 A.f1.length dS1) (.slice CS2 A.f2.length dS2) (.slice CS3 A.f3.length dS3) (.slice CS4 A.f4.length dS4) from bx_new (StR.sk hs))
          clear hb hb2 hs BB XA XB XC q0 q1 q2 q3 q4
          have BB := BB'
          have XA := XA'
          have XB := XB'
          have XC := XC'
          have XS := XS'
          clear BB' XA' XB' XC' XS'
          have q0 := cell_of XA.out.blk 0 rfl
          have q1 := cell_of XA.out.blk 1 rfl
          have q2 := cell_of XA.out.blk 2 rfl
          have q3 := cell_of XA.out.blk 3 rfl
          have q4 := cell_of XA.out.blk 4 rfl
          go_wp2_with fail
          have CF := right_v (XA.out.sv FA.out)
          rw [ra] at CF
          refine CF.mono ?_
          clear CF
          rintro e w14 ⟨rfl, hb⟩
          have BB' := Hd.mk (BB.out.trans (hb.mono BB.out.size))
          have XA' := Hd.mk (XA.out.below hb)
          have XB' := Hd.mk (XB.out.below hb)
          have XC' := Hd.mk (XC.out.below hb)
          have XS' := Hd.mk (XS.out.below hb)
          clear hb BB XA XB XC XS q0 q1 q2 q3 q4
          have BB := BB'
          have XA := XA'
          have XB := XB'
          have XC := XC'
          have XS := XS'
          clear BB' XA' XB' XC' XS'
          have q0 := cell_of XS.out.blk 0 rfl
          have q1 := cell_of XS.out.blk 1 rfl
          have q2 := cell_of XS.out.blk 2 rfl
          have q3 := cell_of XS.out.blk 3 rfl
          have q4 := cell_of XS.out.blk 4 rfl
          have q5 := cell_of XA.out.blk 0 rfl
          have q6 := cell_of XA.out.blk 1 rfl
          have q7 := cell_of XA.out.blk 2 rfl
          have q8 := cell_of XA.out.blk 3 rfl
          have q9 := cell_of XA.out.blk 4 rfl
          go_wp2_with fail
          have CF := same_v XS.out.sk FA.out.1 XA.out.sk
          rw [eqL_iff.2 rfl] at CF
          refine CF.mono ?_
          clear CF
          rintro e w15 ⟨rfl, hb⟩
          have BB' := Hd.mk (BB.out.trans (hb.mono BB.out.size))
          have XA' := Hd.mk (XA.out.below hb)
          have XB' := Hd.mk (XB.out.below hb)
          have XC' := Hd.mk (XC.out.below hb)
          have XS' := Hd.mk (XS.out.below hb)
          clear hb BB XA XB XC XS q0 q1 q2 q3 q4 q5 q6 q7 q8 q9
          have BB := BB'
          have XA := XA'
          have XB := XB'
          have XC := XC'
          have XS := XS'
          clear BB' XA' XB' XC' XS'
          have q0 := cell_of XA.out.blk 0 rfl
          have q1 := cell_of XA.out.blk 1 rfl
          have q2 := cell_of XA.out.blk 2 rfl
          have q3 := cell_of XA.out.blk 3 rfl
          have q4 := cell_of XA.out.blk 4 rfl
          go_wp2_with fail
          have CF := right_v (XA.out.sv FA.out)
          rw [ra] at CF
          refine CF.mono ?_
          clear CF
          rintro e w16 ⟨rfl, hb⟩
          have BB' := Hd.mk (BB.out.trans (hb.mono BB.out.size))
          have XA' := Hd.mk (XA.out.below hb)
          have XB' := Hd.mk (XB.out.below hb)
          have XC' := Hd.mk (XC.out.below hb)
          have XS' := Hd.mk (XS.out.below hb)
          clear hb BB XA XB XC XS q0 q1 q2 q3 q4
          have BB := BB'
          have XA := XA'
          have XB := XB'
          have XC := XC'
          have XS := XS'
          clear BB' XA' XB' XC' XS'
          by_cases hv : bothE A B = 0
          · have VC := Hd.mk (RV.out hv)
            have V0 := Hd.mk hv
            have VE := Hd.mk (RC.out.1.symm.trans hv)
            have WE := Hd.mk RC.out.2
            have AS := Hd.mk (RA.out hv)
            clear hv RV RC RN RA R0 RF RS ra
            obtain ⟨M, hM⟩ : ∃ M, mrgV A B = M := ⟨_, rfl⟩
            rw [hM] at VC WE AS FM
            have HM := Hd.mk hM
            clear hM
            have q0 := cell_of XA.out.blk 0 rfl
            have q1 := cell_of XA.out.blk 1 rfl
            have q2 := cell_of XA.out.blk 2 rfl
            have q3 := cell_of XA.out.blk 3 rfl
            have q4 := cell_of XA.out.blk 4 rfl
            have q5 := cell_of XB.out.blk 0 rfl
            have q6 := cell_of XB.out.blk 1 rfl
            have q7 := cell_of XB.out.blk 2 rfl
            have q8 := cell_of XB.out.blk 3 rfl
            have q9 := cell_of XB.out.blk 4 rfl
            go_wp2_with fail
            have CF := merge_v (XA.out.sv FA.out) (XB.out.sv FB.out)
            rw [V0.out, HM.out] at CF
            refine CF.mono ?_
            clear CF
            rintro e w17 ⟨v0, v1, v2, v3, v4, rfl, hs, hb⟩
            obtain ⟨CM0, dM0, CM1, dM1, CM2, dM2, CM3, dM3, CM4, dM4, rfl, rfl, rfl, rfl, rfl, _⟩ := StR.sk hs
            have hb2 : Below w17.heap.size w17 (w17.alloc (Obj.cells #[.slice CM0 M.f0.length dM0, .slice CM1 M.f1.length dM1, .slice CM2 M.f2.length dM2, .slice CM3 M.f3.length dM3, .slice CM4 M.f4.length dM4] 28)) := below_alloc (Below.refl _ _) _
            have BB' := Hd.mk (show Below w.heap.size w (w17.alloc (Obj.cells #[.slice CM0 M.f0.length dM0, .slice CM1 M.f1.length dM1, .slice CM2 M.f2.length dM2, .slice CM3 M.f3.length dM3, .slice CM4 M.f4.length dM4] 28)) from (BB.out.trans (hb.mono BB.out.size)).alloc (Nat.le_trans BB.out.size hb.size) _)
            have XA' := Hd.mk (show Bx (w17.alloc (Obj.cells #[.slice CM0 M.f0.length dM0, .slice CM1 M.f1.length dM1, .slice CM2 M.f2.length dM2, .slice CM3 M.f3.length dM3, .slice CM4 M.f4.length dM4] 28)) w.heap.size A x0 x1 x2 x3 x4 from (XA.out.below hb).below hb2)
            have XB' := Hd.mk (show Bx (w17.alloc (Obj.cells #[.slice CM0 M.f0.length dM0, .slice CM1 M.f1.length dM1, .slice CM2 M.f2.length dM2, .slice CM3 M.f3.length dM3, .slice CM4 M.f4.length dM4] 28)) (w.heap.size + 1) B y0 y1 y2 y3 y4 from (XB.out.below hb).below hb2)
            have XC' := Hd.mk (show Bx (w17.alloc (Obj.cells #[.slice CM0 M.f0.length dM0, .slice CM1 M.f1.length dM1, .slice CM2 M.f2.length dM2, .slice CM3 M.f3.length dM3, .slice CM4 M.f4.length dM4] 28)) (w.heap.size + 1 + 1) C z0 z1 z2 z3 z4 from (XC.out.below hb).below hb2)
            have XS' := Hd.mk (show Bx (w17.alloc (Obj.cells #[.slice CM0 M.f0.length dM0, .slice CM1 M.f1.length dM1, .slice CM2 M.f2.length dM2, .slice CM3 M.f3.length dM3, .slice CM4 M.f4.length dM4] 28)) w13.heap.size A (.slice CS0 A.f0.length dS0) (.slice CS1 A.f1.length dS1) (.slice CS2 A.f2.length dS2) (.slice CS3 A.f3.length dS3) (.slice CS4 A.f4.length dS4) from (XS.out.below hb).below hb2)
            have XM' := Hd.mk (show Bx (w17.alloc (Obj.cells #[.slice CM0 M.f0.length dM0, .slice CM1 M.f1.length dM1, .slice CM2 M.f2.length dM2, .slice CM3 M.f3.length dM3, .slice CM4 M.f4.length dM4] 28)) w17.heap.size M (.slice CM0 M.f0.length dM0) (.slice CM1 M.f1.length dM1) (.slice CM2 M.f2.length dM2) (.slice CM3 M.f3.length dM3) (.slice CM4 M.f4.length dM4) from bx_new (StR.sk hs))
            clear hb hb2 hs BB XA XB XC XS q0 q1 q2 q3 q4 q5 q6 q7 q8 q9
            have BB := BB'
            have XA := XA'
            have XB := XB'
            have XC := XC'
            have XS := XS'
            have XM := XM'
            clear BB' XA' XB' XC' XS' XM'
            have q0 := cell_of XB.out.blk 0 rfl
            have q1 := cell_of XB.out.blk 1 rfl
            have q2 := cell_of XB.out.blk 2 rfl
            have q3 := cell_of XB.out.blk 3 rfl
            have q4 := cell_of XB.out.blk 4 rfl
            have q5 := cell_of XA.out.blk 0 rfl
            have q6 := cell_of XA.out.blk 1 rfl
            have q7 := cell_of XA.out.blk 2 rfl
            have q8 := cell_of XA.out.blk 3 rfl
            have q9 := cell_of XA.out.blk 4 rfl
            go_wp2_with fail
            have CF := merge_v (XB.out.sv FB.out) (XA.out.sv FA.out)
            rw [VE.out, ← WE.out] at CF
            refine CF.mono ?_
            clear CF
            rintro e w18 ⟨v0, v1, v2, v3, v4, rfl, hs, hb⟩
            obtain ⟨CT0, dT0, CT1, dT1, CT2, dT2, CT3, dT3, CT4, dT4, rfl, rfl, rfl, rfl, rfl, _⟩ := StR.sk hs
            have hb2 : Below w18.heap.size w18 (w18.alloc (Obj.cells #[.slice CT0 M.f0.length dT0, .slice CT1 M.f1.length dT1, .slice CT2 M.f2.length dT2, .slice CT3 M.f3.length dT3, .slice CT4 M.f4.length dT4] 28)) := below_alloc (Below.refl _ _) _
            have BB' := Hd.mk (show Below w.heap.size w (w18.alloc (Obj.cells #[.slice CT0 M.f0.length dT0, .slice CT1 M.f1.length dT1, .slice CT2 M.f2.length dT2, .slice CT3 M.f3.length dT3, .slice CT4 M.f4.length dT4] 28)) from (BB.out.trans (hb.mono BB.out.size)).alloc (Nat.le_trans BB.out.size hb.size) _)
            have XA' := Hd.mk (show Bx (w18.alloc (Obj.cells #[.slice CT0 M.f0.length dT0, .slice CT1 M.f1.length dT1, .slice CT2 M.f2.length dT2, .slice CT3 M.f3.length dT3, .slice CT4 M.f4.length dT4] 28)) w.heap.size A x0 x1 x2 x3 x4 from (XA.out.below hb).below hb2)
            have XB' := Hd.mk (show Bx (w18.alloc (Obj.cells #[.slice CT0 M.f0.length dT0, .slice CT1 M.f1.length dT1, .slice CT2 M.f2.length dT2, .slice CT3 M.f3.length dT3, .slice CT4 M.f4.length dT4] 28)) (w.heap.size + 1) B y0 y1 y2 y3 y4 from (XB.out.below hb).below hb2)
            have XC' := Hd.mk (show Bx (w18.alloc (Obj.cells #[.slice CT0 M.f0.length dT0, .slice CT1 M.f1.length dT1, .slice CT2 M.f2.length dT2, .slice CT3 M.f3.length dT3, .slice CT4 M.f4.length dT4] 28)) (w.heap.size + 1 + 1) C z0 z1 z2 z3 z4 from (XC.out.below hb).below hb2)
            have XS' := Hd.mk (show Bx (w18.alloc (Obj.cells #[.slice CT0 M.f0.length dT0, .slice CT1 M.f1.length dT1, .slice CT2 M.f2.length dT2, .slice CT3 M.f3.length dT3, .slice CT4 M.f4.length dT4] 28)) w13.heap.size A (.slice CS0 A.f0.length dS0) (.slice CS1 A.f1.length dS1) (.slice CS2 A.f2.length dS2) (.slice CS3 A.f3.length dS3) (.slice CS4 A.f4.length dS4) from (XS.out.below hb).below hb2)
            have XM' := Hd.mk (show Bx (w18.alloc (Obj.cells #[.slice CT0 M.f0.length dT0, .slice CT1 M.f1.length dT1, .slice CT2 M.f2.length dT2, .slice CT3 M.f3.length dT3, .slice CT4 M.f4.length dT4] 28)) w17.heap.size M (.slice CM0 M.f0.length dM0) (.slice CM1 M.f1.length dM1) (.slice CM2 M.f2.length dM2) (.slice CM3 M.f3.length dM3) (.slice CM4 M.f4.length dM4) from (XM.out.below hb).below hb2)
            have XT' := Hd.mk (show Bx (w18.alloc (Obj.cells #[.slice CT0 M.f0.length dT0, .slice CT1 M.f1.length dT1, .slice CT2 M.f2.length dT2, .slice CT3 M.f3.length dT3, .slice CT4 M.f4.length dT4] 28)) w18.heap.size M (.slice CT0 M.f0.length dT0) (.slice CT1 M.f1.length dT1) (.slice CT2 M.f2.length dT2) (.slice CT3 M.f3.length dT3) (.slice CT4 M.f4.length dT4) from bx_new (StR.sk hs))
            clear hb hb2 hs BB XA XB XC XS XM q0 q1 q2 q3 q4 q5 q6 q7 q8 q9
            have BB := BB'
            have XA := XA'
            have XB := XB'
            have XC := XC'
            have XS := XS'
            have XM := XM'
            have XT := XT'
            clear BB' XA' XB' XC' XS' XM' XT'
            have q0 := cell_of XM.out.blk 0 rfl
            have q1 := cell_of XM.out.blk 1 rfl
            have q2 := cell_of XM.out.blk 2 rfl
            have q3 := cell_of XM.out.blk 3 rfl
            have q4 := cell_of XM.out.blk 4 rfl
            have q5 := cell_of XT.out.blk 0 rfl
            have q6 := cell_of XT.out.blk 1 rfl
            have q7 := cell_of XT.out.blk 2 rfl
            have q8 := cell_of XT.out.blk 3 rfl
            have q9 := cell_of XT.out.blk 4 rfl
            go_wp2_with fail
            have CF := same_v XM.out.sk FM.out.1 XT.out.sk
            rw [eqL_iff.2 rfl] at CF
            refine CF.mono ?_
            clear CF
            rintro e w19 ⟨rfl, hb⟩
            have BB' := Hd.mk (BB.out.trans (hb.mono BB.out.size))
            have XA' := Hd.mk (XA.out.below hb)
            have XB' := Hd.mk (XB.out.below hb)
            have XC' := Hd.mk (XC.out.below hb)
            have XS' := Hd.mk (XS.out.below hb)
            have XM' := Hd.mk (XM.out.below hb)
            have XT' := Hd.mk (XT.out.below hb)
            clear hb BB XA XB XC XS XM XT q0 q1 q2 q3 q4 q5 q6 q7 q8 q9
            have BB := BB'
            have XA := XA'
            have XB := XB'
            have XC := XC'
            have XS := XS'
            have XM := XM'
            have XT := XT'
            clear BB' XA' XB' XC' XS' XM' XT'
            have q0 := cell_of XM.out.blk 0 rfl
            have q1 := cell_of XM.out.blk 1 rfl
            have q2 := cell_of XM.out.blk 2 rfl
            have q3 := cell_of XM.out.blk 3 rfl
            have q4 := cell_of XM.out.blk 4 rfl
            have q5 := cell_of XA.out.blk 0 rfl
            have q6 := cell_of XA.out.blk 1 rfl
            have q7 := cell_of XA.out.blk 2 rfl
            have q8 := cell_of XA.out.blk 3 rfl
            have q9 := cell_of XA.out.blk 4 rfl
            go_wp2_with fail
            have CF := covers_v (XM.out.sv FM.out) (XA.out.sv FA.out)
            rw [VC.out.2.1, VC.out.2.2.1] at CF
            refine CF.mono ?_
            clear CF
            rintro e w20 ⟨rfl, hb⟩
            have BB' := Hd.mk (BB.out.trans (hb.mono BB.out.size))
            have XA' := Hd.mk (XA.out.below hb)
            have XB' := Hd.mk (XB.out.below hb)
            have XC' := Hd.mk (XC.out.below hb)
            have XS' := Hd.mk (XS.out.below hb)
            have XM' := Hd.mk (XM.out.below hb)
            have XT' := Hd.mk (XT.out.below hb)
            clear hb BB XA XB XC XS XM XT q0 q1 q2 q3 q4 q5 q6 q7 q8 q9
            have BB := BB'
            have XA := XA'
            have XB := XB'
            have XC := XC'
            have XS := XS'
            have XM := XM'
            have XT := XT'
            clear BB' XA' XB' XC' XS' XM' XT'
            have q0 := cell_of XM.out.blk 0 rfl
            have q1 := cell_of XM.out.blk 1 rfl
            have q2 := cell_of XM.out.blk 2 rfl
            have q3 := cell_of XM.out.blk 3 rfl
            have q4 := cell_of XM.out.blk 4 rfl
            have q5 := cell_of XB.out.blk 0 rfl
            have q6 := cell_of XB.out.blk 1 rfl
            have q7 := cell_of XB.out.blk 2 rfl
            have q8 := cell_of XB.out.blk 3 rfl
            have q9 := cell_of XB.out.blk 4 rfl
            go_wp2_with fail
            have CF := covers_v (XM.out.sv FM.out) (XB.out.sv FB.out)
            rw [VC.out.2.2.2.1, VC.out.2.2.2.2] at CF
            refine CF.mono ?_
            clear CF
            rintro e w21 ⟨rfl, hb⟩
            have BB' := Hd.mk (BB.out.trans (hb.mono BB.out.size))
            have XA' := Hd.mk (XA.out.below hb)
            have XB' := Hd.mk (XB.out.below hb)
            have XC' := Hd.mk (XC.out.below hb)
            have XS' := Hd.mk (XS.out.below hb)
            have XM' := Hd.mk (XM.out.below hb)
            have XT' := Hd.mk (XT.out.below hb)
            clear hb BB XA XB XC XS XM XT q0 q1 q2 q3 q4 q5 q6 q7 q8 q9
            have BB := BB'
            have XA := XA'
            have XB := XB'
            have XC := XC'
            have XS := XS'
            have XM := XM'
            have XT := XT'
            clear BB' XA' XB' XC' XS' XM' XT'
            have q0 := cell_of XM.out.blk 0 rfl
            have q1 := cell_of XM.out.blk 1 rfl
            have q2 := cell_of XM.out.blk 2 rfl
            have q3 := cell_of XM.out.blk 3 rfl
            have q4 := cell_of XM.out.blk 4 rfl
            go_wp2_with fail
            have CF := right_v (XM.out.sv FM.out)
            rw [VC.out.1] at CF
            refine CF.mono ?_
            clear CF
            rintro e w22 ⟨rfl, hb⟩
            have BB' := Hd.mk (BB.out.trans (hb.mono BB.out.size))
            have XA' := Hd.mk (XA.out.below hb)
            have XB' := Hd.mk (XB.out.below hb)
            have XC' := Hd.mk (XC.out.below hb)
            have XS' := Hd.mk (XS.out.below hb)
            have XM' := Hd.mk (XM.out.below hb)
            have XT' := Hd.mk (XT.out.below hb)
            clear hb BB XA XB XC XS XM XT q0 q1 q2 q3 q4
            have BB := BB'
            have XA := XA'
            have XB := XB'
            have XC := XC'
            have XS := XS'
            have XM := XM'
            have XT := XT'
            clear BB' XA' XB' XC' XS' XM' XT'
            have FL := Hd.mk (@mrgV_fit M C)
            have FR := Hd.mk (@mrgV_fit A (mrgV B C))
            obtain ⟨L, hL⟩ : ∃ L, mrgV M C = L := ⟨_, rfl⟩
            obtain ⟨D, hD⟩ : ∃ D, mrgV B C = D := ⟨_, rfl⟩
            rw [hD] at AS FD FR
            obtain ⟨R, hR⟩ : ∃ R, mrgV A D = R := ⟨_, rfl⟩
            rw [hL, hR] at AS
            rw [hL] at FL
            rw [hR] at FR
            obtain ⟨i1, hi1⟩ : ∃ b, (bothE M C == 0) = b := ⟨_, rfl⟩
            obtain ⟨i2, hi2⟩ : ∃ b, (bothE B C == 0) = b := ⟨_, rfl⟩
            obtain ⟨i3, hi3⟩ : ∃ b, (bothE A D == 0) = b := ⟨_, rfl⟩
            have q0 := cell_of XM.out.blk 0 rfl
            have q1 := cell_of XM.out.blk 1 rfl
            have q2 := cell_of XM.out.blk 2 rfl
            have q3 := cell_of XM.out.blk 3 rfl
            have q4 := cell_of XM.out.blk 4 rfl
            have q5 := cell_of XC.out.blk 0 rfl
            have q6 := cell_of XC.out.blk 1 rfl
            have q7 := cell_of XC.out.blk 2 rfl
            have q8 := cell_of XC.out.blk 3 rfl
            have q9 := cell_of XC.out.blk 4 rfl
            go_wp2_with fail
            have CF := merge41_v (XM.out.sv FM.out) (XC.out.sv FC.out)
            rw [hi1, hL] at CF
            refine CF.mono ?_
            clear CF
            rintro e w23 ⟨v0, v1, v2, v3, v4, rfl, hs, hb⟩
            obtain ⟨CL0, dL0, CL1, dL1, CL2, dL2, CL3, dL3, CL4, dL4, rfl, rfl, rfl, rfl, rfl, _⟩ := StR.sk hs
            have hb2 : Below w23.heap.size w23 (w23.alloc (Obj.cells #[.slice CL0 L.f0.length dL0, .slice CL1 L.f1.length dL1, .slice CL2 L.f2.length dL2, .slice CL3 L.f3.length dL3, .slice CL4 L.f4.length dL4] 28)) := below_alloc (Below.refl _ _) _
            have BB' := Hd.mk (show Below w.heap.size w (w23.alloc (Obj.cells #[.slice CL0 L.f0.length dL0, .slice CL1 L.f1.length dL1, .slice CL2 L.f2.length dL2, .slice CL3 L.f3.length dL3, .slice CL4 L.f4.length dL4] 28)) from (BB.out.trans (hb.mono BB.out.size)).alloc (Nat.le_trans BB.out.size hb.size) _)
            have XA' := Hd.mk (show Bx (w23.alloc (Obj.cells #[.slice CL0 L.f0.length dL0, .slice CL1 L.f1.length dL1, .slice CL2 L.f2.length dL2, .slice CL3 L.f3.length dL3, .slice CL4 L.f4.length dL4] 28)) w.heap.size A x0 x1 x2 x3 x4 from (XA.out.below hb).below hb2)
            have XB' := Hd.mk (show Bx (w23.alloc (Obj.cells #[.slice CL0 L.f0.length dL0, .slice CL1 L.f1.length dL1, .slice CL2 L.f2.length dL2, .slice CL3 L.f3.length dL3, .slice CL4 L.f4.length dL4] 28)) (w.heap.size + 1) B y0 y1 y2 y3 y4 from (XB.out.below hb).below hb2)
            have XC' := Hd.mk (show Bx (w23.alloc (Obj.cells #[.slice CL0 L.f0.length dL0, .slice CL1 L.f1.length dL1, .slice CL2 L.f2.length dL2, .slice CL3 L.f3.length dL3, .slice CL4 L.f4.length dL4] 28)) (w.heap.size + 1 + 1) C z0 z1 z2 z3 z4 from (XC.out.below hb).below hb2)
            have XS' := Hd.mk (show Bx (w23.alloc (Obj.cells #[.slice CL0 L.f0.length dL0, .slice CL1 L.f1.length dL1, .slice CL2 L.f2.length dL2, .slice CL3 L.f3.length dL3, .slice CL4 L.f4.length dL4] 28)) w13.heap.size A (.slice CS0 A.f0.length dS0) (.slice CS1 A.f1.length dS1) (.slice CS2 A.f2.length dS2) (.slice CS3 A.f3.length dS3) (.slice CS4 A.f4.length dS4) from (XS.out.below hb).below hb2)
            have XM' := Hd.mk (show Bx (w23.alloc (Obj.cells #[.slice CL0 L.f0.length dL0, .slice CL1 L.f1.length dL1, .slice CL2 L.f2.length dL2, .slice CL3 L.f3.length dL3, .slice CL4 L.f4.length dL4] 28)) w17.heap.size M (.slice CM0 M.f0.length dM0) (.slice CM1 M.f1.length dM1) (.slice CM2 M.f2.length dM2) (.slice CM3 M.f3.length dM3) (.slice CM4 M.f4.length dM4) from (XM.out.below hb).below hb2)
            have XT' := Hd.mk (show Bx (w23.alloc (Obj.cells #[.slice CL0 L.f0.length dL0, .slice CL1 L.f1.length dL1, .slice CL2 L.f2.length dL2, .slice CL3 L.f3.length dL3, .slice CL4 L.f4.length dL4] 28)) w18.heap.size M (.slice CT0 M.f0.length dT0) (.slice CT1 M.f1.length dT1) (.slice CT2 M.f2.length dT2) (.slice CT3 M.f3.length dT3) (.slice CT4 M.f4.length dT4) from (XT.out.below hb).below hb2)
            have XL' := Hd.mk (show Bx (w23.alloc (Obj.cells #[.slice CL0 L.f0.length dL0, .slice CL1 L.f1.length dL1, .slice CL2 L.f2.length dL2, .slice CL3 L.f3.length dL3, .slice CL4 L.f4.length dL4] 28)) w23.heap.size L (.slice CL0 L.f0.length dL0) (.slice CL1 L.f1.length dL1) (.slice CL2 L.f2.length dL2) (.slice CL3 L.f3.length dL3) (.slice CL4 L.f4.length dL4) from bx_new (StR.sk hs))
            clear hb hb2 hs BB XA XB XC XS XM XT q0 q1 q2 q3 q4 q5 q6 q7 q8 q9
            have BB := BB'
            have XA := XA'
            have XB := XB'
            have XC := XC'
            have XS := XS'
            have XM := XM'
            have XT := XT'
            have XL := XL'
            clear BB' XA' XB' XC' XS' XM' XT' XL'
            have q0 := cell_of XB.out.blk 0 rfl
            have q1 := cell_of XB.out.blk 1 rfl
            have q2 := cell_of XB.out.blk 2 rfl
            have q3 := cell_of XB.out.blk 3 rfl
            have q4 := cell_of XB.out.blk 4 rfl
            have q5 := cell_of XC.out.blk 0 rfl
            have q6 := cell_of XC.out.blk 1 rfl
            have q7 := cell_of XC.out.blk 2 rfl
            have q8 := cell_of XC.out.blk 3 rfl
            have q9 := cell_of XC.out.blk 4 rfl
            go_wp2_with fail
            have CF := merge41_v (XB.out.sv FB.out) (XC.out.sv FC.out)
            rw [hi2, hD] at CF
            refine CF.mono ?_
            clear CF
            rintro e w24 ⟨v0, v1, v2, v3, v4, rfl, hs, hb⟩
            obtain ⟨CD0, dD0, CD1, dD1, CD2, dD2, CD3, dD3, CD4, dD4, rfl, rfl, rfl, rfl, rfl, _⟩ := StR.sk hs
            have hb2 : Below w24.heap.size w24 (w24.alloc (Obj.cells #[.slice CD0 D.f0.length dD0, .slice CD1 D.f1.length dD1, .slice CD2 D.f2.length dD2, .slice CD3 D.f3.length dD3, .slice CD4 D.f4.length dD4] 28)) := below_alloc (Below.refl _ _) _
            have BB' := Hd.mk (show Below w.heap.size w (w24.alloc (Obj.cells #[.slice CD0 D.f0.length dD0, .slice CD1 D.f1.length dD1, .slice CD2 D.f2.length dD2, .slice CD3 D.f3.length dD3, .slice CD4 D.f4.length dD4] 28)) from (BB.out.trans (hb.mono BB.out.size)).alloc (Nat.le_trans BB.out.size hb.size) _)
            have XA' := Hd.mk (show Bx (w24.alloc (Obj.cells #[.slice CD0 D.f0.length dD0, .slice CD1 D.f1.length dD1, .slice CD2 D.f2.length dD2, .slice CD3 D.f3.length dD3, .slice CD4 D.f4.length dD4] 28)) w.heap.size A x0 x1 x2 x3 x4 from (XA.out.below hb).below hb2)
            have XB' := Hd.mk (show Bx (w24.alloc (Obj.cells #[.slice CD0 D.f0.length dD0, .slice CD1 D.f1.length dD1, .slice CD2 D.f2.length dD2, .slice CD3 D.f3.length dD3, .slice CD4 D.f4.length dD4] 28)) (w.heap.size + 1) B y0 y1 y2 y3 y4 from (XB.out.below hb).below hb2)
            have XC' := Hd.mk (show Bx (w24.alloc (Obj.cells #[.slice CD0 D.f0.length dD0, .slice CD1 D.f1.length dD1, .slice CD2 D.f2.length dD2, .slice CD3 D.f3.length dD3, .slice CD4 D.f4.length dD4] 28)) (w.heap.size + 1 + 1) C z0 z1 z2 z3 z4 from (XC.out.below hb).below hb2)
            have XS' := Hd.mk (show Bx (w24.alloc (Obj.cells #[.slice CD0 D.f0.length dD0, .slice CD1 D.f1.length dD1, .slice CD2 D.f2.length dD2, .slice CD3 D.f3.length dD3, .slice CD4 D.f4.length dD4] 28)) w13.heap.size A (.slice CS0 A.f0.length dS0) (.slice CS1 A.f1.length dS1) (.slice CS2 A.f2.length dS2) (.slice CS3 A.f3.length dS3) (.slice CS4 A.f4.length dS4) from (XS.out.below hb).below hb2)
            have XM' := Hd.mk (show Bx (w24.alloc (Obj.cells #[.slice CD0 D.f0.length dD0, .slice CD1 D.f1.length dD1, .slice CD2 D.f2.length dD2, .slice CD3 D.f3.length dD3, .slice CD4 D.f4.length dD4] 28)) w17.heap.size M (.slice CM0 M.f0.length dM0) (.slice CM1 M.f1.length dM1) (.slice CM2 M.f2.length dM2) (.slice CM3 M.f3.length dM3) (.slice CM4 M.f4.length dM4) from (XM.out.below hb).below hb2)
            have XT' := Hd.mk (show Bx (w24.alloc (Obj.cells #[.slice CD0 D.f0.length dD0, .slice CD1 D.f1.length dD1, .slice CD2 D.f2.length dD2, .slice CD3 D.f3.length dD3, .slice CD4 D.f4.length dD4] 28)) w18.heap.size M (.slice CT0 M.f0.length dT0) (.slice CT1 M.f1.length dT1) (.slice CT2 M.f2.length dT2) (.slice CT3 M.f3.length dT3) (.slice CT4 M.f4.length dT4) from (XT.out.below hb).below hb2)
            have XL' := Hd.mk (show Bx (w24.alloc (Obj.cells #[.slice CD0 D.f0.length dD0, .slice CD1 D.f1.length dD1, .slice CD2 D.f2.length dD2, .slice CD3 D.f3.length dD3, .slice CD4 D.f4.length dD4] 28)) w23.heap.size L (.slice CL0 L.f0.length dL0) (.slice CL1 L.f1.length dL1) (.slice CL2 L.f2.length dL2) (.slice CL3 L.f3.length dL3) (.slice CL4 L.f4.length dL4) from (XL.out.below hb).below hb2)
            have XD' := Hd.mk (show Bx (w24.alloc (Obj.cells #[.slice CD0 D.f0.length dD0, .slice CD1 D.f1.length dD1, .slice CD2 D.f2.length dD2, .slice CD3 D.f3.length dD3, .slice CD4 D.f4.length dD4] 28)) w24.heap.size D (.slice CD0 D.f0.length dD0) (.slice CD1 D.f1.length dD1) (.slice CD2 D.f2.length dD2) (.slice CD3 D.f3.length dD3) (.slice CD4 D.f4.length dD4) from bx_new (StR.sk hs))
            clear hb hb2 hs BB XA XB XC XS XM XT XL q0 q1 q2 q3 q4 q5 q6 q7 q8 q9
            have BB := BB'
            have XA := XA'
            have XB := XB'
            have XC := XC'
            have XS := XS'
            have XM := XM'
            have XT := XT'
            have XL := XL'
            have XD := XD'
            clear BB' XA' XB' XC' XS' XM' XT' XL' XD'
            have q0 := cell_of XA.out.blk 0 rfl
            have q1 := cell_of XA.out.blk 1 rfl
            have q2 := cell_of XA.out.blk 2 rfl
            have q3 := cell_of XA.out.blk 3 rfl
            have q4 := cell_of XA.out.blk 4 rfl
            have q5 := cell_of XD.out.blk 0 rfl
            have q6 := cell_of XD.out.blk 1 rfl
            have q7 := cell_of XD.out.blk 2 rfl
            have q8 := cell_of XD.out.blk 3 rfl
            have q9 := cell_of XD.out.blk 4 rfl
            go_wp2_with fail
            have CF := merge41_v (XA.out.sv FA.out) (XD.out.sv FD.out)
            rw [hi3, hR] at CF
            refine CF.mono ?_
            clear CF
            rintro e w25 ⟨v0, v1, v2, v3, v4, rfl, hs, hb⟩
            obtain ⟨CR0, dR0, CR1, dR1, CR2, dR2, CR3, dR3, CR4, dR4, rfl, rfl, rfl, rfl, rfl, _⟩ := StR.sk hs
            have hb2 : Below w25.heap.size w25 (w25.alloc (Obj.cells #[.slice CR0 R.f0.length dR0, .slice CR1 R.f1.length dR1, .slice CR2 R.f2.length dR2, .slice CR3 R.f3.length dR3, .slice CR4 R.f4.length dR4] 28)) := below_alloc (Below.refl _ _) _
            have BB' := Hd.mk (show Below w.heap.size w (w25.alloc (Obj.cells #[.slice CR0 R.f0.length dR0, .slice CR1 R.f1.length dR1, .slice CR2 R.f2.length dR2, .slice CR3 R.f3.length dR3, .slice CR4 R.f4.length dR4] 28)) from (BB.out.trans (hb.mono BB.out.size)).alloc (Nat.le_trans BB.out.size hb.size) _)
            have XA' := Hd.mk (show Bx (w25.alloc (Obj.cells #[.slice CR0 R.f0.length dR0, .slice CR1 R.f1.length dR1, .slice CR2 R.f2.length dR2, .slice CR3 R.f3.length dR3, .slice CR4 R.f4.length dR4] 28)) w.heap.size A x0 x1 x2 x3 x4 from (XA.out.below hb).below hb2)
            have XB' := Hd.mk (show Bx (w25.alloc (Obj.cells #[.slice CR0 R.f0.length dR0, .slice CR1 R.f1.length dR1, .slice CR2 R.f2.length dR2, .slice CR3 R.f3.length dR3, .slice CR4 R.f4.length dR4] 28)) (w.heap.size + 1) B y0 y1 y2 y3 y4 from (XB.out.below hb).below hb2)
            have XC' := Hd.mk (show Bx (w25.alloc (Obj.cells #[.slice CR0 R.f0.length dR0, .slice CR1 R.f1.length dR1, .slice CR2 R.f2.length dR2, .slice CR3 R.f3.length dR3, .slice CR4 R.f4.length dR4] 28)) (w.heap.size + 1 + 1) C z0 z1 z2 z3 z4 from (XC.out.below hb).below hb2)
            have XS' := Hd.mk (show Bx (w25.alloc (Obj.cells #[.slice CR0 R.f0.length dR0, .slice CR1 R.f1.length dR1, .slice CR2 R.f2.length dR2, .slice CR3 R.f3.length dR3, .slice CR4 R.f4.length dR4] 28)) w13.heap.size A (.slice CS0 A.f0.length dS0) (.slice CS1 A.f1.length dS1) (.slice CS2 A.f2.length dS2) (.slice CS3 A.f3.length dS3) (.slice CS4 A.f4.length dS4) from (XS.out.below hb).below hb2)
            have XM' := Hd.mk (show Bx (w25.alloc (Obj.cells #[.slice CR0 R.f0.length dR0, .slice CR1 R.f1.length dR1, .slice CR2 R.f2.length dR2, .slice CR3 R.f3.length dR3, .slice CR4 R.f4.length dR4] 28)) w17.heap.size M (.slice CM0 M.f0.length dM0) (.slice CM1 M.f1.length dM1) (.slice CM2 M.f2.length dM2) (.slice CM3 M.f3.length dM3) (.slice CM4 M.f4.length dM4) from (XM.out.below hb).below hb2)
            have XT' := Hd.mk (show Bx (w25.alloc (Obj.cells #[.slice CR0 R.f0.length dR0, .slice CR1 R.f1.length dR1, .slice CR2 R.f2.length dR2, .slice CR3 R.f3.length dR3, .slice CR4 R.f4.length dR4] 28)) w18.heap.size M (.slice CT0 M.f0.length dT0) (.slice CT1 M.f1.length dT1) (.slice CT2 M.f2.length dT2) (.slice CT3 M.f3.length dT3) (.slice CT4 M.f4.length dT4) from (XT.out.below hb).below hb2)
            have XL' := Hd.mk (show Bx (w25.alloc (Obj.cells #[.slice CR0 R.f0.length dR0, .slice CR1 R.f1.length dR1, .slice CR2 R.f2.length dR2, .slice CR3 R.f3.length dR3, .slice CR4 R.f4.length dR4] 28)) w23.heap.size L (.slice CL0 L.f0.length dL0) (.slice CL1 L.f1.length dL1) (.slice CL2 L.f2.length dL2) (.slice CL3 L.f3.length dL3) (.slice CL4 L.f4.length dL4) from (XL.out.below hb).below hb2)
            have XD' := Hd.mk (show Bx (w25.alloc (Obj.cells #[.slice CR0 R.f0.length dR0, .slice CR1 R.f1.length dR1, .slice CR2 R.f2.length dR2, .slice CR3 R.f3.length dR3, .slice CR4 R.f4.length dR4] 28)) w24.heap.size D (.slice CD0 D.f0.length dD0) (.slice CD1 D.f1.length dD1) (.slice CD2 D.f2.length dD2) (.slice CD3 D.f3.length dD3) (.slice CD4 D.f4.length dD4) from (XD.out.below hb).below hb2)
            have XR' := Hd.mk (show Bx (w25.alloc (Obj.cells #[.slice CR0 R.f0.length dR0, .slice CR1 R.f1.length dR1, .slice CR2 R.f2.length dR2, .slice CR3 R.f3.length dR3, .slice CR4 R.f4.length dR4] 28)) w25.heap.size R (.slice CR0 R.f0.length dR0) (.slice CR1 R.f1.length dR1) (.slice CR2 R.f2.length dR2) (.slice CR3 R.f3.length dR3) (.slice CR4 R.f4.length dR4) from bx_new (StR.sk hs))
            clear hb hb2 hs BB XA XB XC XS XM XT XL XD q0 q1 q2 q3 q4 q5 q6 q7 q8 q9
            have BB := BB'
            have XA := XA'
            have XB := XB'
            have XC := XC'
            have XS := XS'
            have XM := XM'
            have XT := XT'
            have XL := XL'
            have XD := XD'
            have XR := XR'
            clear BB' XA' XB' XC' XS' XM' XT' XL' XD' XR'
            cases i1 with
            | false =>
              go_wp2_with fail
              refine (alive_run _).mono ?_
              rintro e w99 ⟨rfl, hb⟩
              have BB' := Hd.mk (BB.out.trans (hb.mono BB.out.size))
              clear hb
              go_wp2_with fail
              go_ret
              exact ⟨rfl, BB'.out⟩
            | true =>
              cases i2 with
              | false =>
                go_wp2_with fail
                refine (alive_run _).mono ?_
                rintro e w99 ⟨rfl, hb⟩
                have BB' := Hd.mk (BB.out.trans (hb.mono BB.out.size))
                clear hb
                go_wp2_with fail
                go_ret
                exact ⟨rfl, BB'.out⟩
              | true =>
                cases i3 with
                | false =>
                  go_wp2_with fail
                  refine (alive_run _).mono ?_
                  rintro e w99 ⟨rfl, hb⟩
                  have BB' := Hd.mk (BB.out.trans (hb.mono BB.out.size))
                  clear hb
                  go_wp2_with fail
                  go_ret
                  exact ⟨rfl, BB'.out⟩
                | true =>
                  have EQ := Hd.mk (AS.out (by simpa using hi1) (by simpa using hi2) (by simpa using hi3))
                  have q0 := cell_of XL.out.blk 0 rfl
                  have q1 := cell_of XL.out.blk 1 rfl
                  have q2 := cell_of XL.out.blk 2 rfl
                  have q3 := cell_of XL.out.blk 3 rfl
                  have q4 := cell_of XL.out.blk 4 rfl
                  have q5 := cell_of XR.out.blk 0 rfl
                  have q6 := cell_of XR.out.blk 1 rfl
                  have q7 := cell_of XR.out.blk 2 rfl
                  have q8 := cell_of XR.out.blk 3 rfl
                  have q9 := cell_of XR.out.blk 4 rfl
                  go_wp2_with fail
                  have CF := same_v XL.out.sk FL.out.1 XR.out.sk
                  rw [eqL_iff.2 EQ.out] at CF
                  refine CF.mono ?_
                  clear CF
                  rintro e w26 ⟨rfl, hb⟩
                  have BB' := Hd.mk (BB.out.trans (hb.mono BB.out.size))
                  have XA' := Hd.mk (XA.out.below hb)
                  have XB' := Hd.mk (XB.out.below hb)
                  have XC' := Hd.mk (XC.out.below hb)
                  have XS' := Hd.mk (XS.out.below hb)
                  have XM' := Hd.mk (XM.out.below hb)
                  have XT' := Hd.mk (XT.out.below hb)
                  have XL' := Hd.mk (XL.out.below hb)
                  have XD' := Hd.mk (XD.out.below hb)
                  have XR' := Hd.mk (XR.out.below hb)
                  clear hb BB XA XB XC XS XM XT XL XD XR q0 q1 q2 q3 q4 q5 q6 q7 q8 q9
                  have BB := BB'
                  have XA := XA'
                  have XB := XB'
                  have XC := XC'
                  have XS := XS'
                  have XM := XM'
                  have XT := XT'
                  have XL := XL'
                  have XD := XD'
                  have XR := XR'
                  clear BB' XA' XB' XC' XS' XM' XT' XL' XD' XR'
                  go_wp2_with fail
                  refine (alive_run _).mono ?_
                  rintro e w99 ⟨rfl, hb⟩
                  have BB' := Hd.mk (BB.out.trans (hb.mono BB.out.size))
                  clear hb
                  go_wp2_with fail
                  go_ret
                  exact ⟨rfl, BB'.out⟩
          · have VN := Hd.mk hv
            clear hv
            have MN := Hd.mk (RN.out VN.out)
            have VE := Hd.mk RC.out.1
            have WE := Hd.mk RC.out.2
            have hv1 := VN.out
            obtain ⟨N, hN⟩ : ∃ N : S28, N = ⟨[], [], [], [], []⟩ := ⟨_, rfl⟩
            rw [← hN] at MN
            have FN := Hd.mk (show Fit N by rw [hN]; exact fit_nil)
            have EN := Hd.mk hN
            clear hN
            obtain ⟨v, hv⟩ : ∃ v, bothE A B = v := ⟨_, rfl⟩
            rw [hv] at hv1 VE VN
            have HV := Hd.mk hv
            clear hv RF RS RC R0 RV RN RA FM FD
            have q0 := cell_of XA.out.blk 0 rfl
            have q1 := cell_of XA.out.blk 1 rfl
            have q2 := cell_of XA.out.blk 2 rfl
            have q3 := cell_of XA.out.blk 3 rfl
            have q4 := cell_of XA.out.blk 4 rfl
            have q5 := cell_of XB.out.blk 0 rfl
            have q6 := cell_of XB.out.blk 1 rfl
            have q7 := cell_of XB.out.blk 2 rfl
            have q8 := cell_of XB.out.blk 3 rfl
            have q9 := cell_of XB.out.blk 4 rfl
            go_wp2_with fail
            have CF := merge_v (XA.out.sv FA.out) (XB.out.sv FB.out)
            rw [HV.out, MN.out] at CF
            refine CF.mono ?_
            clear CF
            rintro e w27 ⟨v0, v1, v2, v3, v4, rfl, hs, hb⟩
            obtain ⟨CM0, dM0, CM1, dM1, CM2, dM2, CM3, dM3, CM4, dM4, rfl, rfl, rfl, rfl, rfl, _⟩ := StR.sk hs
            have hb2 : Below w27.heap.size w27 (w27.alloc (Obj.cells #[.slice CM0 N.f0.length dM0, .slice CM1 N.f1.length dM1, .slice CM2 N.f2.length dM2, .slice CM3 N.f3.length dM3, .slice CM4 N.f4.length dM4] 28)) := below_alloc (Below.refl _ _) _
            have BB' := Hd.mk (show Below w.heap.size w (w27.alloc (Obj.cells #[.slice CM0 N.f0.length dM0, .slice CM1 N.f1.length dM1, .slice CM2 N.f2.length dM2, .slice CM3 N.f3.length dM3, .slice CM4 N.f4.length dM4] 28)) from (BB.out.trans (hb.mono BB.out.size)).alloc (Nat.le_trans BB.out.size hb.size) _)
            have XA' := Hd.mk (show Bx (w27.alloc (Obj.cells #[.slice CM0 N.f0.length dM0, .slice CM1 N.f1.length dM1, .slice CM2 N.f2.length dM2, .slice CM3 N.f3.length dM3, .slice CM4 N.f4.length dM4] 28)) w.heap.size A x0 x1 x2 x3 x4 from (XA.out.below hb).below hb2)
            have XB' := Hd.mk (show Bx (w27.alloc (Obj.cells #[.slice CM0 N.f0.length dM0, .slice CM1 N.f1.length dM1, .slice CM2 N.f2.length dM2, .slice CM3 N.f3.length dM3, .slice CM4 N.f4.length dM4] 28)) (w.heap.size + 1) B y0 y1 y2 y3 y4 from (XB.out.below hb).below hb2)
            have XC' := Hd.mk (show Bx (w27.alloc (Obj.cells #[.slice CM0 N.f0.length dM0, .slice CM1 N.f1.length dM1, .slice CM2 N.f2.length dM2, .slice CM3 N.f3.length dM3, .slice CM4 N.f4.length dM4] 28)) (w.heap.size + 1 + 1) C z0 z1 z2 z3 z4 from (XC.out.below hb).below hb2)
            have XS' := Hd.mk (show Bx (w27.alloc (Obj.cells #[.slice CM0 N.f0.length dM0, .slice CM1 N.f1.length dM1, .slice CM2 N.f2.length dM2, .slice CM3 N.f3.length dM3, .slice CM4 N.f4.length dM4] 28)) w13.heap.size A (.slice CS0 A.f0.length dS0) (.slice CS1 A.f1.length dS1) (.slice CS2 A.f2.length dS2) (.slice CS3 A.f3.length dS3) (.slice CS4 A.f4.length dS4) from (XS.out.below hb).below hb2)
            have XM' := Hd.mk (show Bx (w27.alloc (Obj.cells #[.slice CM0 N.f0.length dM0, .slice CM1 N.f1.length dM1, .slice CM2 N.f2.length dM2, .slice CM3 N.f3.length dM3, .slice CM4 N.f4.length dM4] 28)) w27.heap.size N (.slice CM0 N.f0.length dM0) (.slice CM1 N.f1.length dM1) (.slice CM2 N.f2.length dM2) (.slice CM3 N.f3.length dM3) (.slice CM4 N.f4.length dM4) from bx_new (StR.sk hs))
            clear hb hb2 hs BB XA XB XC XS q0 q1 q2 q3 q4 q5 q6 q7 q8 q9
            have BB := BB'
            have XA := XA'
            have XB := XB'
            have XC := XC'
            have XS := XS'
            have XM := XM'
            clear BB' XA' XB' XC' XS' XM'
            have q0 := cell_of XB.out.blk 0 rfl
            have q1 := cell_of XB.out.blk 1 rfl
            have q2 := cell_of XB.out.blk 2 rfl
            have q3 := cell_of XB.out.blk 3 rfl
            have q4 := cell_of XB.out.blk 4 rfl
            have q5 := cell_of XA.out.blk 0 rfl
            have q6 := cell_of XA.out.blk 1 rfl
            have q7 := cell_of XA.out.blk 2 rfl
            have q8 := cell_of XA.out.blk 3 rfl
            have q9 := cell_of XA.out.blk 4 rfl
            go_wp2_with fail
            have CF := merge_v (XB.out.sv FB.out) (XA.out.sv FA.out)
            rw [← VE.out, ← WE.out, MN.out] at CF
            refine CF.mono ?_
            clear CF
            rintro e w28 ⟨v0, v1, v2, v3, v4, rfl, hs, hb⟩
            obtain ⟨CT0, dT0, CT1, dT1, CT2, dT2, CT3, dT3, CT4, dT4, rfl, rfl, rfl, rfl, rfl, _⟩ := StR.sk hs
            have hb2 : Below w28.heap.size w28 (w28.alloc (Obj.cells #[.slice CT0 N.f0.length dT0, .slice CT1 N.f1.length dT1, .slice CT2 N.f2.length dT2, .slice CT3 N.f3.length dT3, .slice CT4 N.f4.length dT4] 28)) := below_alloc (Below.refl _ _) _
            have BB' := Hd.mk (show Below w.heap.size w (w28.alloc (Obj.cells #[.slice CT0 N.f0.length dT0, .slice CT1 N.f1.length dT1, .slice CT2 N.f2.length dT2, .slice CT3 N.f3.length dT3, .slice CT4 N.f4.length dT4] 28)) from (BB.out.trans (hb.mono BB.out.size)).alloc (Nat.le_trans BB.out.size hb.size) _)
            have XA' := Hd.mk (show Bx (w28.alloc (Obj.cells #[.slice CT0 N.f0.length dT0, .slice CT1 N.f1.length dT1, .slice CT2 N.f2.length dT2, .slice CT3 N.f3.length dT3, .slice CT4 N.f4.length dT4] 28)) w.heap.size A x0 x1 x2 x3 x4 from (XA.out.below hb).below hb2)
            have XB' := Hd.mk (show Bx (w28.alloc (Obj.cells #[.slice CT0 N.f0.length dT0, .slice CT1 N.f1.length dT1, .slice CT2 N.f2.length dT2, .slice CT3 N.f3.length dT3, .slice CT4 N.f4.length dT4] 28)) (w.heap.size + 1) B y0 y1 y2 y3 y4 from (XB.out.below hb).below hb2)
            have XC' := Hd.mk (show Bx (w28.alloc (Obj.cells #[.slice CT0 N.f0.length dT0, .slice CT1 N.f1.length dT1, .slice CT2 N.f2.length dT2, .slice CT3 N.f3.length dT3, .slice CT4 N.f4.length dT4] 28)) (w.heap.size + 1 + 1) C z0 z1 z2 z3 z4 from (XC.out.below hb).below hb2)
            have XS' := Hd.mk (show Bx (w28.alloc (Obj.cells #[.slice CT0 N.f0.length dT0, .slice CT1 N.f1.length dT1, .slice CT2 N.f2.length dT2, .slice CT3 N.f3.length dT3, .slice CT4 N.f4.length dT4] 28)) w13.heap.size A (.slice CS0 A.f0.length dS0) (.slice CS1 A.f1.length dS1) (.slice CS2 A.f2.length dS2) (.slice CS3 A.f3.length dS3) (.slice CS4 A.f4.length dS4) from (XS.out.below hb).below hb2)
            have XM' := Hd.mk (show Bx (w28.alloc (Obj.cells #[.slice CT0 N.f0.length dT0, .slice CT1 N.f1.length dT1, .slice CT2 N.f2.length dT2, .slice CT3 N.f3.length dT3, .slice CT4 N.f4.length dT4] 28)) w27.heap.size N (.slice CM0 N.f0.length dM0) (.slice CM1 N.f1.length dM1) (.slice CM2 N.f2.length dM2) (.slice CM3 N.f3.length dM3) (.slice CM4 N.f4.length dM4) from (XM.out.below hb).below hb2)
            have XT' := Hd.mk (show Bx (w28.alloc (Obj.cells #[.slice CT0 N.f0.length dT0, .slice CT1 N.f1.length dT1, .slice CT2 N.f2.length dT2, .slice CT3 N.f3.length dT3, .slice CT4 N.f4.length dT4] 28)) w28.heap.size N (.slice CT0 N.f0.length dT0) (.slice CT1 N.f1.length dT1) (.slice CT2 N.f2.length dT2) (.slice CT3 N.f3.length dT3) (.slice CT4 N.f4.length dT4) from bx_new (StR.sk hs))
            clear hb hb2 hs BB XA XB XC XS XM q0 q1 q2 q3 q4 q5 q6 q7 q8 q9
            have BB := BB'
            have XA := XA'
            have XB := XB'
            have XC := XC'
            have XS := XS'
            have XM := XM'
            have XT := XT'
            clear BB' XA' XB' XC' XS' XM' XT'
            have q0 := cell_of XM.out.blk 0 rfl
            have q1 := cell_of XM.out.blk 1 rfl
            have q2 := cell_of XM.out.blk 2 rfl
            have q3 := cell_of XM.out.blk 3 rfl
            have q4 := cell_of XM.out.blk 4 rfl
            have q5 := cell_of XT.out.blk 0 rfl
            have q6 := cell_of XT.out.blk 1 rfl
            have q7 := cell_of XT.out.blk 2 rfl
            have q8 := cell_of XT.out.blk 3 rfl
            have q9 := cell_of XT.out.blk 4 rfl
            go_wp2_with fail
            have CF := same_v XM.out.sk FN.out XT.out.sk
            rw [eqL_iff.2 rfl] at CF
            refine CF.mono ?_
            clear CF
            rintro e w29 ⟨rfl, hb⟩
            have BB' := Hd.mk (BB.out.trans (hb.mono BB.out.size))
            have XA' := Hd.mk (XA.out.below hb)
            have XB' := Hd.mk (XB.out.below hb)
            have XC' := Hd.mk (XC.out.below hb)
            have XS' := Hd.mk (XS.out.below hb)
            have XM' := Hd.mk (XM.out.below hb)
            have XT' := Hd.mk (XT.out.below hb)
            clear hb BB XA XB XC XS XM XT q0 q1 q2 q3 q4 q5 q6 q7 q8 q9
            have BB := BB'
            have XA := XA'
            have XB := XB'
            have XC := XC'
            have XS := XS'
            have XM := XM'
            have XT := XT'
            clear BB' XA' XB' XC' XS' XM' XT'
            have vb : (v != 0) = true := by simp [VN.out]
            have vd : decide (v = 0) = false := by simp [VN.out]
            have q0 := cell_of XM.out.blk 0 rfl
            have q1 := cell_of XM.out.blk 1 rfl
            have q2 := cell_of XM.out.blk 2 rfl
            have q3 := cell_of XM.out.blk 3 rfl
            have q4 := cell_of XM.out.blk 4 rfl
            go_wp2_with fail
            have CF := same_v XM.out.sk FN.out (nil_sk _)
            rw [eqL_iff.2 EN.out] at CF
            refine CF.mono ?_
            clear CF
            rintro e w30 ⟨rfl, hb⟩
            have BB' := Hd.mk (BB.out.trans (hb.mono BB.out.size))
            have XA' := Hd.mk (XA.out.below hb)
            have XB' := Hd.mk (XB.out.below hb)
            have XC' := Hd.mk (XC.out.below hb)
            have XS' := Hd.mk (XS.out.below hb)
            have XM' := Hd.mk (XM.out.below hb)
            have XT' := Hd.mk (XT.out.below hb)
            clear hb BB XA XB XC XS XM XT q0 q1 q2 q3 q4
            have BB := BB'
            have XA := XA'
            have XB := XB'
            have XC := XC'
            have XS := XS'
            have XM := XM'
            have XT := XT'
            clear BB' XA' XB' XC' XS' XM' XT'
            go_wp2_with fail
            refine (alive_run _).mono ?_
            rintro e w99 ⟨rfl, hb⟩
            have BB' := Hd.mk (BB.out.trans (hb.mono BB.out.size))
            clear hb
            go_wp2_with fail
            go_ret
            exact ⟨rfl, BB'.out⟩
end Go.Proofs.YtmeaeapopfcmbaaGreat
