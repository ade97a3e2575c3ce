/- ReplicaNever's walk. No conditions. -/
import Derived.Test.YtmeaeapopfcmbaaGreatB50
namespace Go.Proofs.YtmeaeapopfcmbaaGreat
open Go.RowKit Go.Proofs.YtmeaeapopfcmbaaGreatW.PrintWords Go.Proofs.YtmeaeapopfcmbaaGreatW.PrintLast Go.Proofs.YtmeaeapopfcmbaaGreatW.PrintMore PP
set_option linter.unusedVariables false
set_option linter.unusedSimpArgs false
set_option maxHeartbeats 4000000
set_option maxRecDepth 100000
theorem GI.never {n k : Nat} {S : Nat → S28} {H : List S28} {md tk : List Int} (h : GI n k S H md tk) {s : Int} (s0 : 0 ≤ s) (s7 : s ≤ 7) : sget tk s ≤ sget md s := by
  have h1 := h.sys.left_nn s0 s7
  have h2 := h.bal s s0 s7
  omega
/-- What an office has free and what it knows to be left. -/
theorem RepF.two {w : World} {r : Nat} {o : Int} {S : S28} {F : Nat → Prop} (h : RepF w r o S F) (k : Nat) (hk : k < 8) : ∃ fv lv : Int, 0 ≤ fv ∧ fv ≤ lv ∧ (∀ W, Below w.heap.size w W → Calls Tryz.prog 32 #[.pointer (some ⟨r, 0, none⟩), .int .i64 (k : Int)] W fun e w' => e = .returned (.tuple #[.int .i64 fv, .int .i64 0]) ∧ Below W.heap.size W w') ∧ (∀ W, Below w.heap.size w W → Calls Tryz.prog 33 #[.pointer (some ⟨r, 0, none⟩), .int .i64 (k : Int)] W fun e w' => e = .returned (.tuple #[.int .i64 lv, .int .i64 0]) ∧ Below W.heap.size W w') := by
  have hi : inR 0 7 (k : Int) = true := inR_iff.2 ⟨by omega, by omega⟩
  have fl := free_le_left h.rt (s := (k : Int)) (o := o) ⟨by omega, by omega⟩ (inR_iff.1 h.o8)
  refine ⟨freeY (waysP S) k o, leftY (waysP S) k, fl.1, fl.2, fun W hW => ((h.below hW).free k).mono fun e w' hh => ?_, fun W hW => ((h.below hW).left k).mono fun e w' hh => ?_⟩
  · have := hh.1
    unfold freeV errB at this
    rw [if_pos hi, if_pos hi] at this
    exact ⟨this, hh.2⟩
  · have := hh.1
    unfold leftV errB at this
    rw [if_pos hi, if_pos hi] at this
    exact ⟨this, hh.2⟩
theorem never_run (w : World) (n : Nat) (hn : n < 256) (A : Option Addr) (c : Nat) (l : List S61) (hL : Kd.C k61 w A l.length l) (hc : l.length ≤ c) (oL : ∀ x ∈ l, StepOk x) :
    Calls Tryz.prog 6 #[.int .u8 n, .slice A l.length c] w fun e w' => e = .returned (.bool true) ∧ Below w.heap.size w w' := by
  have BR := Hd.mk (brief_v hL hc)
  have BG := Hd.mk (fun W => begun_run W n hn)
  have B6 := Hd.mk (fun h : briefB l = true => briefB_60 h)
  have AL := Hd.mk alive_run
  have HL := Hd.mk hL
  have OL := Hd.mk oL
  have I1 := Hd.mk (gi_zero (n := 2 + n % 4) (by omega) (by omega))
  clear hL hc oL hn
  generalize 2 + n % 4 = N at *
  generalize briefB l = b at *
  go_enter Tryz.func6, Tryz.ntmps6
  go_wp2_with fail
  with_reducible refine BR.out.mono ?_
  rintro e w1 ⟨rfl, hb⟩
  have B1 := Hd.mk hb
  clear hb BR
  cases b with
  | false =>
    go_wp2_with fail
    with_reducible refine (AL.out _).mono ?_
    rintro e w2 ⟨rfl, hb⟩
    have B2 := Hd.mk (B1.out.trans (hb.mono B1.out.size))
    clear hb
    go_wp2_with fail
    go_ret
    exact ⟨rfl, B2.out⟩
  | true =>
    have H6 := Hd.mk (B6.out rfl)
    clear B6
    go_wp2_with fail
    with_reducible refine (BG.out _).mono ?_
    rintro e w2 ⟨g, r, rfl, hg⟩
    have G1 := Hd.mk hg
    clear hg BG
    go_wp2_with fail
    go_loopg [6, 7, 8, 9, 10, 11, 12, 13] l.length (fun gg v6 v7 v8 v9 v10 v11 v12 v13 wq => ∃ (i : Nat) (S : Nat → S28) (H : List S28) (md tk : List Int), v6 = .bool true ∧ v7 = .int .i64 i ∧ i + gg = l.length ∧ Hd (Grp w1 wq g N r S H md tk) ∧ Hd (GI N i S H md tk))
    case atStart => exact ⟨0, _, _, _, _, rfl, rfl, by omega, G1, I1⟩
    case round =>
      clear G1 I1
      obtain ⟨i, S, H, md, tk, rfl, rfl, hi, GQ, IQ⟩ := hrel
      by_cases hlt : i < l.length
      · have hz : ((i : Int) < (l.length : Int)) := by omega
        obtain ⟨ad, A7, c7, A8, c8, A9, c9, A10, c10, A11, c11, hA, y0, y1, y2, y3, y4, y5, y6, y7, y8, y9, y10, y11, _⟩ := at_T61 (Kd.C_below HL.out (B1.out.trans (GQ.out.base.mono B1.out.size))) (i : Int) (by omega) hz
        subst hA
        simp only [Int.toNat_natCast] at y0 y1 y2 y3 y4 y5 y6 y7 y8 y9 y10 y11
        have OX := OL.out (rd_T61 l (i : Int)) (by
          show l.getD (i : Int).toNat z61 ∈ l
          rw [Int.toNat_natCast, List.getD_eq_getElem?_getD, List.getElem?_eq_getElem hlt]
          exact List.getElem_mem _)
        generalize rd_T61 l (i : Int) = x at *
        have C := Hd.mk (step_of GQ.out IQ.out (by have := H6.out; omega) OX A7 A8 A9 A10 A11 x.f2.f5.f0.length x.f2.f5.f1.length x.f2.f5.f2.length x.f2.f5.f3.length x.f2.f5.f4.length c7 c8 c9 c10 c11)
        have LT := Hd.mk hlt
        clear hlt OX
        go_wp2_with fail
        with_reducible refine C.out.mono ?_
        rintro e w3 ⟨S1, md1, tk1, rfl, hg, hi1, _⟩
        have G2 := Hd.mk hg
        have I2 := Hd.mk hi1
        clear hg hi1 C GQ IQ y0 y1 y2 y3 y4 y5 y6 y7 y8 y9 y10 y11 hz
        generalize updN S (x.f0.toNat % N) S1 = S2 at *
        generalize H ++ [S1] = H2 at *
        obtain ⟨F, lv, hv, gx⟩ := G2.out
        obtain ⟨L, hL⟩ : ∃ L, L = (List.range N).map r := ⟨_, rfl⟩
        rw [← hL] at gx
        have NL := Hd.mk (show L.length = N by rw [hL, List.length_map, List.length_range])
        have GL := Hd.mk (fun j (hj : j < N) => show L.getD j 0 = r j by rw [hL, List.getD_eq_getElem?_getD, List.getElem?_map, List.getElem?_range hj]; rfl)
        obtain ⟨Al, cl, rfl⟩ := Kd.R_slice gx.l
        have GX := Hd.mk gx
        clear gx hL
        go_wp2_with fail
        have BZ := Hd.mk (Below.refl w3.heap.size w3)
        go_loopg [6, 8, 9, 10, 11, 12, 13] 8 (fun gg v6 v8 v9 v10 v11 v12 v13 wq => ∃ k : Nat, v6 = .bool true ∧ v8 = .int .i64 k ∧ k + gg = 8 ∧ Hd (Below w3.heap.size w3 wq))
        case atStart => exact ⟨0, rfl, rfl, rfl, BZ⟩
        case round =>
          clear BZ
          obtain ⟨k, rfl, rfl, hk, BQ⟩ := hrel
          rename_i wq
          by_cases hkl : k < 8
          · have hz : ((k : Int) < 8) := by omega
            have GM := gC_md (lv := (.slice Al L.length cl)) (hv := hv) I2.out.ml I2.out.tl (N := (k : Int)) (by omega) (by omega) 0
            have q0 := cell_of (GX.out.below BQ.out).blk _ GM.1
            have q1 := cell_of (GX.out.below BQ.out).blk _ GM.2.2.1
            simp only [Int.toNat_natCast] at q0 q1
            have le := I2.out.never (s := (k : Int)) (by omega) (by omega)
            have KL := Hd.mk hkl
            clear GM hkl
            go_wp2_with fail
            go_region
            have BD := Hd.mk (BQ.out.trans ((Below.drew (Below.refl _ wr)).mono BQ.out.size))
            clear q0 q1 le hz BQ
            go_wp2_with fail
            go_loopg [6, 9, 10, 11, 12, 13] N (fun gg v6 v9 v10 v11 v12 v13 wq => ∃ q : Nat, v6 = .bool true ∧ v9 = .int .i64 q ∧ q + gg = N ∧ Hd (Below w3.heap.size w3 wq))
            case atStart => exact ⟨0, rfl, rfl, by omega, BD⟩
            case round =>
              clear BD
              obtain ⟨q, rfl, rfl, hq, BQ⟩ := hrel
              have NN := NL.out
              have N5 := I2.out.n5
              have z0 : wr.cell? ⟨g, 0, none⟩ = some (.slice Al L.length cl) := cell_of (GX.out.below BQ.out).blk 0 rfl
              by_cases hql : q < N
              · have hz : ((q : Int) < (L.length : Int)) := by omega
                obtain ⟨ad', hAl, z1⟩ := ptr_at (Kd.R_reads' (GX.out.below BQ.out).l).2.2 q (by omega)
                rw [GL.out q hql] at z1
                obtain ⟨fv, lw, h0, h1, cf, cl'⟩ := (GX.out.many.rep q hql).two k KL.out
                have CF := Hd.mk (cf _ BQ.out)
                have QL := Hd.mk hql
                clear cf hql
                subst hAl
                go_wp2_with fail
                refine CF.out.mono ?_
                rintro e w5 ⟨rfl, hb⟩
                have B5 := Hd.mk (BQ.out.trans (hb.mono BQ.out.size))
                clear hb CF
                have z0 : w5.cell? ⟨g, 0, none⟩ = some (.slice (some ad') L.length cl) := cell_of (GX.out.below B5.out).blk 0 rfl
                have z1 : w5.cell? (ad'.add q) = some (.pointer (some ⟨r q, 0, none⟩)) := by
                  obtain ⟨ad2, hA2, z2⟩ := ptr_at (Kd.R_reads' (GX.out.below B5.out).l).2.2 q (by have := QL.out; have := NL.out; omega)
                  obtain rfl := Option.some.inj hA2
                  rw [GL.out q QL.out] at z2
                  exact z2
                have CL5 := Hd.mk (cl' w5 B5.out)
                go_wp2_with fail
                refine CL5.out.mono ?_
                rintro e w6 ⟨rfl, hb⟩
                have B6' := Hd.mk (B5.out.trans (hb.mono B5.out.size))
                clear hb CL5 z0 z1 BQ B5
                go_wp2_with fail
                go_roundg (N - (q + 1))
                case measure => have := QL.out; omega
                case rel => exact ⟨q + 1, rfl, rfl, by have := QL.out; omega, B6'⟩
              · have hz : ¬ ((q : Int) < (L.length : Int)) := by omega
                go_wp2_with fail
                go_roundg (8 - (k + 1))
                case measure => have := KL.out; omega
                case rel => exact ⟨k + 1, rfl, rfl, by have := KL.out; omega, BQ⟩
          · have hz : ¬ ((k : Int) < 8) := by omega
            have GF := Hd.mk (G2.out.below BQ.out)
            go_wp2_with fail
            go_roundg (l.length - (i + 1))
            case measure => have := LT.out; omega
            case rel => exact ⟨i + 1, _, _, _, _, rfl, nx LT.out (by have := H6.out; omega), by have := LT.out; omega, GF, I2⟩
      · have hz : ¬ ((i : Int) < (l.length : Int)) := by omega
        have B2 := Hd.mk (B1.out.trans (GQ.out.base.mono B1.out.size))
        go_wp2_with fail
        with_reducible refine (AL.out _).mono ?_
        rintro e w4 ⟨rfl, hb⟩
        have B3 := Hd.mk (B2.out.trans (hb.mono B2.out.size))
        clear hb
        go_wp2_with fail
        go_ret
        exact ⟨rfl, B3.out⟩
end Go.Proofs.YtmeaeapopfcmbaaGreat
