/- ReplicaFull's walk. No conditions. -/
import Derived.Test.YtmeaeapopfcmbaaGreatG6
import Derived.Test.YtmeaeapopfcmbaaGreatP7
namespace Go.Proofs.YtmeaeapopfcmbaaGreat
open Go.RowKit Go.Proofs.YtmeaeapopfcmbaaGreatW.PrintWords Go.Proofs.YtmeaeapopfcmbaaGreatW.PrintLast Go.Proofs.YtmeaeapopfcmbaaGreatW.PrintMore PP
set_option linter.unusedVariables false
set_option linter.unusedSimpArgs false
set_option maxHeartbeats 4000000
set_option maxRecDepth 100000
/-- One office. -/
structure One (w0 w : World) (r : Nat) (o : Int) (S : S28) : Prop where
  ex : ∃ F : Nat → Prop, RepF w r o S F ∧ ∀ i, F i → w0.heap.size ≤ i
  base : Below w0.heap.size w0 w
section
variable {w0 w w' : World} {r : Nat} {o : Int} {S S' : S28}
theorem One.below (h : One w0 w r o S) (hb : Below w.heap.size w w') : One w0 w' r o S := by
  obtain ⟨F, h1, h2⟩ := h.ex
  exact ⟨⟨F, h1.below hb, h2⟩, h.base.trans (hb.mono h.base.size)⟩
theorem One.of {F : Nat → Prop} (h : One w0 w r o S) (h2 : ∀ i, F i → w0.heap.size ≤ i) (hl : Left w w' r o S' F) : One w0 w' r o S' :=
  ⟨⟨_, hl.rep, fun i hi => hi.elim (h2 i) (fun hg => by have := h.base.size; omega)⟩, h.base.trans (hl.chg.fresh h.base.size h2)⟩
theorem One.put (h : One w0 w r o S) (st : Int) (nm : ByteArray) : Calls Tryz.prog 26 #[.pointer (some ⟨r, 0, none⟩), .int .i64 st, .string nm] w fun e w' => e = .returned (.int .i64 (putE S o st nm)) ∧ One w0 w' r o (aPut S o st nm) := by
  obtain ⟨F, h1, h2⟩ := h.ex
  exact (h1.put st nm).mono fun e w' hh => ⟨hh.1, h.of h2 hh.2⟩
theorem One.drop (h : One w0 w r o S) (st : Int) (nm : ByteArray) : Calls Tryz.prog 27 #[.pointer (some ⟨r, 0, none⟩), .int .i64 st, .string nm] w fun e w' => e = .returned (.tuple #[.int .i64 (dropN S st nm), .int .i64 (errB (argB st nm))]) ∧ One w0 w' r o (aDrop S st nm) := by
  obtain ⟨F, h1, h2⟩ := h.ex
  exact (h1.drop st nm).mono fun e w' hh => ⟨hh.1, h.of h2 hh.2⟩
theorem One.state (h : One w0 w r o S) : Calls Tryz.prog 24 #[.pointer (some ⟨r, 0, none⟩)] w fun e w' => ∃ v0 v1 v2 v3 v4, e = .returned (.agg #[v0, v1, v2, v3, v4]) ∧ StR w.heap.size w' v0 v1 v2 v3 v4 S ∧ One w0 w' r o S := by
  obtain ⟨F, h1, h2⟩ := h.ex
  exact h1.state.mono fun e w' ⟨v0, v1, v2, v3, v4, g1, g2, g3⟩ => ⟨v0, v1, v2, v3, v4, g1, g2, h.below g3⟩
end
theorem fld1 (W : World) (v0 v1 v2 v3 v4 : Value) : (Instr.field 28 (.agg #[v0, v1, v2, v3, v4]) 1).run Tryz.prog W = .ok v1 W := by
  have h1 := Tryz.underlying28
  have h2 := Tryz.isAgg23
  have h3 := Tryz.sizeOf23
  unfold Instr.field
  go_simp
  rfl
theorem conv_u8 {x y : Int} (h : x = y ∧ 0 ≤ y ∧ y < 256) (W : World) : (convert 5 3 (.int .u8 x)).run Tryz.prog W = .ok (.int .i64 y) W := by
  have h1 := run_convert_int (P := Tryz.prog) W 5 3 .u8 x (by kernel_rfl) (by kernel_rfl)
  rw [h1]
  have e : Tryz.prog.intKind 3 = .i64 := by kernel_rfl
  rw [e]
  obtain ⟨rfl, h2, h3⟩ := h
  have : IntKind.i64.wrap x = x := by simp [IntKind.wrap, IntKind.bits, IntKind.signed]; omega
  rw [this]
theorem full_run (w : World) (n : Nat) (hn : n < 256) : Calls Tryz.prog 4 #[.int .u8 n] w fun e w' => e = .returned (.bool true) ∧ Below w.heap.size w w' := by
  have HO := Hd.mk (show inR 0 7 ((n : Int) % 8) = true by rw [inR_iff]; omega)
  have N := Hd.mk (new_F w _ HO.out)
  have AL := Hd.mk alive_run
  have HX := Hd.mk (show n % 64 < 64 by omega)
  have cv1 : ∀ W, (convert 5 3 (.int .u8 ((n : Int) % 8))).run Tryz.prog W = .ok (.int .i64 ((n : Int) % 8)) W := fun W => conv_u8 (by omega) W
  have cv2 : ∀ W, (convert 5 3 (.int .u8 (n : Int))).run Tryz.prog W = .ok (.int .i64 (n : Int)) W := fun W => conv_u8 (by omega) W
  have f1 := fld1
  go_enter Tryz.func4, Tryz.ntmps4
  go_wp2_with fail
  refine N.out.mono ?_
  rintro e w1 ⟨r, rfl, hr, hb⟩
  have R1 := Hd.mk (show One w w1 r ((n : Int) % 8) emptyS from ⟨⟨_, hr, fun i hi => hi.1⟩, hb⟩)
  clear hr hb N cv1
  generalize (n : Int) % 8 = o at *
  go_wp2_with fail
  go_loopg [5] 128 (fun gg v5 wq => ∃ (i : Nat) (S : S28), v5 = .int .i64 i ∧ i + gg = 128 ∧ Hd (One w wq r o S) ∧ Hd (FullJ o i S))
  case atStart => exact ⟨0, emptyS, rfl, by omega, R1, ⟨full_zero HO.out⟩⟩
  case round =>
    clear R1
    obtain ⟨i, S, rfl, hi, RQ, FJ⟩ := hrel
    by_cases hlt : i < 128
    · have hz : ((i : Int) < 128) := by omega
      have ec : ((i % 64 : Nat) : Int) = (i : Int) % 64 := by omega
      have FS := Hd.mk (full_step HO.out hlt FJ.out)
      have C := Hd.mk (RQ.out.put ((i % 64 : Nat) : Int) (nmJ i))
      rw [FS.out.1] at C
      rw [ec] at C FS
      clear ec
      by_cases h64 : i < 64
      · have hz2 : ¬ ((64 : Int) ≤ (i : Int)) := by omega
        have hn : nmJ i = ⟨#[97]⟩ := by unfold nmJ; rw [if_pos h64]; rfl
        rw [hn] at C FS
        clear hn
        go_wp2_with fail
        refine C.out.mono ?_
        rintro e w3 ⟨rfl, h3⟩
        have R3 := Hd.mk h3
        clear h3 C
        go_wp2_with fail
        go_roundg (128 - (i + 1))
        case measure => omega
        case rel => exact ⟨i + 1, _, by go_num, by omega, R3, ⟨FS.out.2⟩⟩
      · have hz2 : ((64 : Int) ≤ (i : Int)) := by omega
        have hn : nmJ i = ⟨#[98]⟩ := by unfold nmJ; rw [if_neg h64]; rfl
        rw [hn] at C FS
        clear hn
        go_wp2_with fail
        refine C.out.mono ?_
        rintro e w3 ⟨rfl, h3⟩
        have R3 := Hd.mk h3
        clear h3 C
        go_wp2_with fail
        go_roundg (128 - (i + 1))
        case measure => omega
        case rel => exact ⟨i + 1, _, by go_num, by omega, R3, ⟨FS.out.2⟩⟩
    · have hz : ¬ ((i : Int) < 128) := by omega
      have h128 : i = 128 := by omega
      subst h128
      have FE := Hd.mk (full_end HO.out FJ.out (n % 64) HX.out)
      rw [show ((n % 64 : Nat) : Int) = (n : Int) % 64 by omega] at FE
      simp only [bA, bC] at FE
      have C := Hd.mk (RQ.out.put 0 ⟨#[99]⟩)
      rw [FE.out.1, FE.out.2.1] at C
      go_wp2_with fail
      refine C.out.mono ?_
      rintro e w3 ⟨rfl, h3⟩
      have C := Hd.mk (h3.put ((n : Int) % 64) ⟨#[97]⟩)
      rw [FE.out.2.2.1] at C
      clear h3
      go_wp2_with fail
      refine C.out.mono ?_
      rintro e w4 ⟨rfl, h3⟩
      have L1 := Hd.mk FE.out.2.2.2.1
      have C := Hd.mk h3.state
      clear h3
      go_wp2_with fail
      refine C.out.mono ?_
      rintro e w5 ⟨v0, v1, v2, v3, v4, rfl, hs, h3⟩
      obtain ⟨A1, c1, e1⟩ := Kd.R_slice hs.r1
      rw [L1.out] at e1
      subst e1
      have C := Hd.mk (h3.drop ((n : Int) % 64) ⟨#[97]⟩)
      rw [FE.out.2.2.2.2.1, FE.out.2.2.2.2.2.1] at C
      clear h3 hs
      go_wp2_with fail
      refine C.out.mono ?_
      rintro e w6 ⟨rfl, h3⟩
      have C := Hd.mk (h3.put 0 ⟨#[99]⟩)
      rw [FE.out.2.2.2.2.2.2] at C
      clear h3
      go_wp2_with fail
      refine C.out.mono ?_
      rintro e w7 ⟨rfl, h3⟩
      have B7 := Hd.mk h3.base
      clear h3 C FE L1 RQ FJ
      go_wp2_with fail
      refine (AL.out _).mono ?_
      rintro e w8 ⟨rfl, hb⟩
      have B8 := Hd.mk (B7.out.trans (hb.mono B7.out.size))
      clear hb
      go_wp2_with fail
      go_ret
      exact ⟨rfl, B8.out⟩
end Go.Proofs.YtmeaeapopfcmbaaGreat
