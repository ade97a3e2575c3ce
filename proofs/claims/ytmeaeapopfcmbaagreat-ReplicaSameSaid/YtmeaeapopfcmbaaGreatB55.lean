/- ReplicaSame's walk. No conditions. -/
import Derived.Test.YtmeaeapopfcmbaaGreatB54
namespace Go.Proofs.YtmeaeapopfcmbaaGreat
open Go.RowKit Go.Proofs.YtmeaeapopfcmbaaGreatW.PrintWords Go.Proofs.YtmeaeapopfcmbaaGreatW.PrintLast Go.Proofs.YtmeaeapopfcmbaaGreatW.PrintMore PP
set_option linter.unusedVariables false
set_option linter.unusedSimpArgs false
set_option maxHeartbeats 4000000
set_option maxRecDepth 100000
theorem range_succ_map {α : Type} (f : Nat → α) (i : Nat) : (List.range i).map f ++ [f i] = (List.range (i + 1)).map f := by
  rw [List.range_succ, List.map_append]; rfl
theorem map_getD {α : Type} (f : Nat → α) (n i : Nat) (z : α) (hi : i < n) : ((List.range n).map f).getD i z = f i := by
  rw [List.getD_eq_getElem?_getD, List.getElem?_map, List.getElem?_range hi]; rfl
theorem same13_run (w : World) (n : Nat) (hn : n < 256) (A : Option Addr) (c : Nat) (l : List S61) (hL : Kd.C k61 w A l.length l) (hc : l.length ≤ c) (oL : ∀ x ∈ l, StepOk x) (d : Nat) (hd : d < 256) :
    Calls Tryz.prog 13 #[.int .u8 n, .slice A l.length c, .int .u8 d] w fun e w' => e = .returned (.bool true) ∧ Below w.heap.size w w' := by
  have BR := Hd.mk (brief_v hL hc)
  have RN := Hd.mk (fun W (hb : Below w.heap.size w W) (h60 : l.length ≤ 60) => ran_run W n hn A c l (Kd.C_below hL hb) oL h60)
  have B6 := Hd.mk (fun h : briefB l = true => briefB_60 h)
  have AL := Hd.mk alive_run
  have HD := Hd.mk hd
  clear hL hc oL hn hd
  generalize 2 + n % 4 = N at *
  generalize briefB l = b at *
  go_enter Tryz.func13, Tryz.ntmps13
  go_wp2_with fail
  with_reducible refine BR.out.mono ?_
  rintro e w1 ⟨rfl, hb⟩
  have B1 := Hd.mk hb
  clear hb BR
  cases b with
  | false =>
    go_wp2_with fail
    with_reducible refine (AL.out _).mono ?_
    rintro e w2 ⟨rfl, hb⟩
    have B2 := Hd.mk (B1.out.trans (hb.mono B1.out.size))
    clear hb
    go_wp2_with fail
    go_ret
    exact ⟨rfl, B2.out⟩
  | true =>
    have R1 := Hd.mk (RN.out w1 B1.out (B6.out rfl))
    have H6 := Hd.mk (B6.out rfl)
    clear RN B6
    go_wp2_with fail
    with_reducible refine R1.out.mono ?_
    rintro e w2 ⟨g, r, S, H, md, tk, rfl, hg, hgi⟩
    obtain ⟨F, lv, hv, gx⟩ := hg
    have GI0 := Hd.mk hgi
    obtain ⟨L, hL⟩ : ∃ L, L = (List.range N).map r := ⟨_, rfl⟩
    rw [← hL] at gx
    have NL := Hd.mk (show L.length = N by rw [hL, List.length_map, List.length_range])
    have GL := Hd.mk (fun j (hj : j < N) => show L.getD j 0 = r j by rw [hL, map_getD r N j 0 hj])
    obtain ⟨Al, cl, rfl⟩ := Kd.R_slice gx.l
    obtain ⟨ad, hAl, _⟩ := ptr_at (Kd.R_reads' gx.l).2.2 0 (by have := NL.out; have := hgi.n2; omega)
    subst hAl
    have GM := Hd.mk gx.m
    clear gx hL hgi R1
    have PT := Hd.mk (fun (W : World) (F : Nat → Nat → Prop) (tv : Value) (T : List S28) (S : Nat → S28) (h : GrpM w1 W g N r S F L md tk (.slice (some ad) L.length cl) hv tv T) (j : Nat) (hj : j < N) => show W.cell? (ad.add j) = some (.pointer (some ⟨r j, 0, none⟩)) by
      obtain ⟨ad2, hA2, z2⟩ := ptr_at (Kd.R_reads' h.l).2.2 j (by have := NL.out; omega)
      obtain rfl := Option.some.inj hA2
      rw [GL.out j hj] at z2
      exact z2)
    go_wp2_with fail
    go_loopg [9, 10] N (fun gg v9 v10 wq => ∃ i : Nat, v10 = .int .i64 i ∧ i + gg = N ∧ Hd (GrpM w1 wq g N r S F L md tk (.slice (some ad) L.length cl) hv v9 ((List.range i).map S)))
    case atStart => exact ⟨0, rfl, by omega, GM⟩
    case round =>
      clear GM
      obtain ⟨i, rfl, hi, GQ⟩ := hrel
      have NN := NL.out
      have z0 : wr.cell? ⟨g, 0, none⟩ = some (.slice (some ad) L.length cl) := cell_of GQ.out.blk 0 rfl
      by_cases hlt : i < N
      · have hz : ((i : Int) < (L.length : Int)) := by omega
        have z1 := PT.out _ _ _ _ _ GQ.out i hlt
        obtain ⟨T, hT⟩ : ∃ T, T = (List.range i).map S := ⟨_, rfl⟩
        have TT := Hd.mk hT
        have TL := Hd.mk (show T.length = i by rw [hT, List.length_map, List.length_range])
        rw [← hT] at GQ
        obtain ⟨At, ct, rfl⟩ := Kd.R_slice GQ.out.t
        have ST := Hd.mk (GQ.out.many.rep i hlt).state
        have LT := Hd.mk hlt
        have GB := Hd.mk (fun k hk => And.intro (GQ.out.fresh k hk) (GQ.out.tl k hk))
        clear hlt hT
        go_wp2_with fail
        refine ST.out.mono ?_
        rintro e w3 ⟨v0, v1, v2, v3, v4, rfl, hs, hb⟩
        have G3 := Hd.mk (GQ.out.below hb)
        have R3 := Hd.mk hs
        have B3 := Hd.mk hb.size
        have N5 := Hd.mk GI0.out.n5
        have BQ := Hd.mk GQ.out.base.size
        clear hs hb ST GQ
        go_wp2_with (((with_reducible refine gate_builtin (b := .append) (xs := #[.tmp 42, .tmp 51]) rfl ?_); at_builtin; refine Kd.R_append k28 (w0 := w1) (W := w3) w1.heap.size rfl (.tmp 42) (.tmp 51) 63 28 (.agg #[.slice none 0 0, .slice none 0 0, .slice none 0 0, .slice none 0 0, .slice none 0 0]) 120 rfl Tryz.underlying63 info28 rfl (by decide) (by omega) (.slice At T.length ct) T (S i) [v0, v1, v2, v3, v4] (fun x => ∀ j, j < N → ¬ F j x) (fun k => wr.heap.size ≤ k) rfl (by first | rfl | (simp; rfl)) ?aP (fun k hk => GB.out k hk) G3.out.fresh G3.out.t G3.out.base G3.out.base.size ?aL ?_; (case aP => exact R3.out.m BQ.out); (case aL => have h1 := TL.out; have h2 := LT.out; have h3 := N5.out; omega); intro v2' w6 ho hb hg2 hat; have G6 := Hd.mk (G3.out.app hg2 ho); clear ho hb hg2 hat))
        go_roundg (N - (i + 1))
        case measure => have := LT.out; omega
        case rel => exact ⟨i + 1, nx LT.out (by have := N5.out; omega), by have := LT.out; omega, ⟨by rw [← range_succ_map, ← TT.out]; exact G6.out⟩⟩
      · have hz : ¬ ((i : Int) < (L.length : Int)) := by omega
        obtain rfl : i = N := by omega
        have GZ := Hd.mk GQ.out
        clear GQ hi NN
        obtain ⟨T, hT⟩ : ∃ T, T = (List.range i).map S := ⟨_, rfl⟩
        rw [← hT] at GZ
        have TT := Hd.mk hT
        have TL := Hd.mk (show T.length = i by rw [hT, List.length_map, List.length_range])
        have TG := Hd.mk (fun j (hj : j < i) => show T.getD j z28 = S j by rw [hT, map_getD S i j z28 hj])
        have TM := Hd.mk (fun j (hj : j < i) => show S j ∈ T by rw [hT]; exact List.mem_map.2 ⟨j, List.mem_range.2 hj, rfl⟩)
        clear hT
        generalize i = N at *
        have R0 := Hd.mk (rnd_zero (d := d) GI0.out.sys)
        have N5 := Hd.mk (And.intro GI0.out.n2 GI0.out.n5)
        obtain ⟨At, ct, rfl⟩ := Kd.R_slice GZ.out.t
        go_wp2_with fail
        clear z0 hz
        go_loopg [11, 12, 13] N (fun gg v11 v12 v13 wq => ∃ (i : Nat) (Sc : Nat → S28) (Fc : Nat → Nat → Prop) (P : S28 → Prop), v11 = .int .i64 i ∧ i + gg = N ∧ Hd (GrpM w1 wq g N r Sc Fc L md tk (.slice (some ad) L.length cl) hv (.slice At T.length ct) T) ∧ Hd (Rnd N d S Sc P i 0))
        case atStart => exact ⟨0, S, F, _, rfl, by omega, GZ, R0⟩
        case round =>
          clear GZ R0
          obtain ⟨i, Sc, Fc, P, rfl, hi, GQ, RQ⟩ := hrel
          have z0 : wr.cell? ⟨g, 0, none⟩ = some (.slice (some ad) L.length cl) := cell_of GQ.out.blk 0 rfl
          by_cases hlt : i < N
          · have hz : ((i : Int) < (L.length : Int)) := by have := NL.out; omega
            have LT := Hd.mk hlt
            clear hlt
            go_wp2_with fail
            clear z0 hz
            go_loopg [12, 13] N (fun gg v12 v13 wq => ∃ (k : Nat) (Sc : Nat → S28) (Fc : Nat → Nat → Prop) (P : S28 → Prop), v12 = .int .i64 k ∧ k + gg = N ∧ Hd (GrpM w1 wq g N r Sc Fc L md tk (.slice (some ad) L.length cl) hv (.slice At T.length ct) T) ∧ Hd (Rnd N d S Sc P i k))
            case atStart => exact ⟨0, Sc, Fc, P, rfl, by omega, GQ, RQ⟩
            case round =>
              clear GQ RQ
              obtain ⟨k, Sc, Fc, P, rfl, hk, GQ, RQ⟩ := hrel
              by_cases hkl : k < N
              · have hz : ((k : Int) < (T.length : Int)) := by have := TL.out; omega
                have KL := Hd.mk hkl
                clear hkl
                have GD := Hd.mk (GQ.out.below (Below.drew (Below.refl _ _)))
                have hne : ¬ T = [] := by intro e; have h1 := TL.out; rw [e] at h1; simp at h1; have := KL.out; omega
                have JJ := Hd.mk (show (k + i * d) % N < N from Nat.mod_lt _ (by have := KL.out; omega))
                have hw1 : IntKind.i64.wrap (d : Int) = (d : Int) := (i64_w _).trans (by unfold wrap64; have := HD.out; omega)
                have hb9 : i * d ≤ 5 * 256 := Nat.mul_le_mul (by have := LT.out; have := N5.out; omega) (by have := HD.out; omega)
                have hw2 : IntKind.i64.wrap ((i : Int) * (d : Int)) = (i : Int) * (d : Int) := (i64_w _).trans (by rw [← Int.natCast_mul]; unfold wrap64; omega)
                have hw3 : IntKind.i64.wrap ((k : Int) + (i : Int) * (d : Int)) = (k : Int) + (i : Int) * (d : Int) := (i64_w _).trans (by rw [← Int.natCast_mul]; unfold wrap64; have := KL.out; have := N5.out; omega)
                have tm : ((k : Int) + (i : Int) * (d : Int)).tmod (T.length : Int) = (((k + i * d) % N : Nat) : Int) := by rw [TL.out, ← Int.natCast_mul, ← Int.natCast_add]; rfl
                have RS := RQ.out
                obtain ⟨j, hj⟩ : ∃ j, j = (k + i * d) % N := ⟨_, rfl⟩
                rw [← hj] at JJ tm
                have HJ := Hd.mk hj
                clear hj
                have hjl : (j : Int) < (T.length : Int) := by have := JJ.out; have := TL.out; omega
                have q0 : wr.drew.cell? ⟨g, 0, none⟩ = some (.slice (some ad) L.length cl) := cell_of GD.out.blk 0 rfl
                have q1 := PT.out _ _ _ _ _ GD.out i LT.out
                have hil : (i : Int) < (L.length : Int) := by have := LT.out; have := NL.out; omega
                obtain ⟨adt, C0, e0, C1, e1, C2, e2, C3, e3, C4, e4, hAt, y0, y1, y2, y3, y4, l0, g0, l1, g1, l2, g2, l3, g3, l4, g4⟩ := at_T28 (Kd.R_reads' GD.out.t).2.2 (j : Int) (by omega) hjl
                subst hAt
                have YE := Hd.mk (show rd_T28 T (j : Int) = S j by
                  show T.getD (j : Int).toNat z28 = S j
                  rw [Int.toNat_natCast]
                  exact TG.out j JJ.out)
                simp only [Int.toNat_natCast] at y0 y1 y2 y3 y4
                rw [YE.out] at y0 y1 y2 y3 y4 l0 g0 l1 g1 l2 g2 l3 g3 l4 g4
                have YP := RQ.out.lst j JJ.out
                have RY := RQ.out.sys.rt _ YP
                have CS := Hd.mk ((GD.out.many.rep i LT.out).sync C0 C1 C2 C3 C4 e0 e1 e2 e3 e4 (S j) ⟨g0, g1, g2, g3, g4, l0, l1, l2, l3, l4, RY.fit.n0, RY.fit.n1, RY.fit.n2, RY.fit.n34⟩ RY.ok)
                have SE := RQ.out.sys.syncE (RQ.out.sys.own i LT.out) YP
                unfold stV at CS
                clear l0 l1 l2 l3 l4 g0 g1 g2 g3 g4 RY YP RS YE hb9
                go_wp2_with fail
                refine wp_region_still_tail 19 (by kernel_rfl) (by kernel_rfl) ?_
                change wpStill _ _ (World.drew _) _ _ _
                simp only [List.take_succ_cons, List.take_zero, List.drop_succ_cons, List.drop_zero]
                repeat still_step
                refine wpStill_nil ?_
                change wpList _ _ _ _ _ (World.drew _)
                rcases SE with he | he
                · rw [he] at CS
                  have RN1 := Hd.mk (RQ.out.step LT.out (by rw [← HJ.out]; exact he))
                  rw [← HJ.out] at RN1
                  clear he
                  go_wp2_with fail
                  refine CS.out.mono ?_
                  rintro e w3 ⟨rfl, hl⟩
                  have G3 := Hd.mk (GD.out.after LT.out hl)
                  clear hl CS
                  go_wp2_with fail
                  go_roundg (N - (k + 1))
                  case measure => have := KL.out; omega
                  case rel => exact ⟨k + 1, _, _, _, nx KL.out (by have := N5.out; omega), by have := KL.out; omega, G3, RN1⟩
                · rw [he] at CS
                  clear he
                  go_wp2_with fail
                  refine CS.out.mono ?_
                  rintro e w3 ⟨rfl, hl⟩
                  have G3 := Hd.mk (GD.out.after LT.out hl)
                  clear hl CS
                  have B3 := Hd.mk (B1.out.trans (G3.out.base.mono B1.out.size))
                  go_wp2_with fail
                  refine (AL.out _).mono ?_
                  rintro e wz ⟨rfl, hb⟩
                  have BZ := Hd.mk (B3.out.trans (hb.mono B3.out.size))
                  clear hb
                  go_wp2_with fail
                  go_ret
                  exact ⟨rfl, BZ.out⟩
              · have hz : ¬ ((k : Int) < (T.length : Int)) := by have := TL.out; omega
                obtain rfl : k = N := by omega
                have RN1 := Hd.mk (RQ.out.next LT.out)
                go_wp2_with fail
                go_roundg (k - (i + 1))
                case measure => have := LT.out; omega
                case rel => exact ⟨i + 1, _, _, _, nx LT.out (by have := N5.out; omega), by have := LT.out; omega, GQ, RN1⟩
          · have hz : ¬ ((i : Int) < (L.length : Int)) := by have := NL.out; omega
            obtain rfl : i = N := by omega
            have N0 := Hd.mk (show 0 < i by have := N5.out; omega)
            have z1 := PT.out _ _ _ _ _ GQ.out 0 N0.out
            have z2 : wr.cell? ad = some (.pointer (some ⟨r 0, 0, none⟩)) := by rw [show ad.add 0 = ad by simp [Addr.add]] at z1; exact z1
            have hil : (0 : Int) < (L.length : Int) := by have := N0.out; have := NL.out; omega
            have hLn : ¬ L = [] := by intro e; have h1 := NL.out; have h2 := N0.out; rw [e] at h1; simp at h1; omega
            have hLp : 0 < L.length := by have := N0.out; have := NL.out; omega
            have ST := Hd.mk (GQ.out.many.rep 0 N0.out).state
            have G2 := Hd.mk GQ.out
            have hzz := Tryz.zeroValue28
            clear GQ hi
            go_wp2_with fail
            refine ST.out.mono ?_
            rintro e w3 ⟨v0, v1, v2, v3, v4, rfl, hs, hb⟩
            obtain ⟨D0, f0, D1, f1, D2, f2, D3, f3, D4, f4, rfl, rfl, rfl, rfl, rfl, _⟩ := StR.sk hs
            have G3 := Hd.mk (G2.out.below hb)
            have R3 := Hd.mk hs
            clear hs hb ST G2 z1 z2
            go_wp2_with fail
            obtain ⟨wF, hwF⟩ : ∃ wF, wF = w3.alloc (.cells #[.slice D0 (Sc 0).f0.length f0, .slice D1 (Sc 0).f1.length f1, .slice D2 (Sc 0).f2.length f2, .slice D3 (Sc 0).f3.length f3, .slice D4 (Sc 0).f4.length f4] 28) := ⟨_, rfl⟩
            have GF := Hd.mk (show GrpM w1 wF g i r Sc Fc L md tk (.slice (some ad) L.length cl) hv (.slice At T.length ct) T by rw [hwF]; exact G3.out.below (below_alloc (Below.refl _ _) _))
            have RF := Hd.mk (show Sv wF (Sc 0) (.slice D0 (Sc 0).f0.length f0) (.slice D1 (Sc 0).f1.length f1) (.slice D2 (Sc 0).f2.length f2) (.slice D3 (Sc 0).f3.length f3) (.slice D4 (Sc 0).f4.length f4) by rw [hwF]; exact (R3.out.below (below_alloc (Below.refl _ _) _)).sv (RQ.out.sys.rt _ (RQ.out.sys.own 0 N0.out)))
            have BF := Hd.mk (show wF.heap[w3.heap.size]? = some (Obj.cells #[.slice D0 (Sc 0).f0.length f0, .slice D1 (Sc 0).f1.length f1, .slice D2 (Sc 0).f2.length f2, .slice D3 (Sc 0).f3.length f3, .slice D4 (Sc 0).f4.length f4] 28 (0, 0)) by rw [hwF]; exact alloc_at _ _ _ rfl)
            rw [← hwF]
            clear hwF G3 R3 hzz hil hLn hLp hz
            have BZ := Hd.mk (Below.refl wF.heap.size wF)
            have SQ := Hd.mk (fun q (hq : q < i) => RQ.out.same hq N0.out)
            have CQ := Hd.mk (fun q (hq : q < i) => RQ.out.covers N0.out hq)
            go_loopg [15, 16, 17] i (fun gg v15 v16 v17 wq => ∃ q : Nat, v15 = .int .i64 q ∧ q + gg = i ∧ Hd (Below wF.heap.size wF wq))
            case atStart => exact ⟨0, rfl, by omega, BZ⟩
            case round =>
              clear BZ
              obtain ⟨q, rfl, hq, BQ⟩ := hrel
              have z0 : wr.cell? ⟨g, 0, none⟩ = some (.slice (some ad) L.length cl) := cell_of (GF.out.below BQ.out).blk 0 rfl
              by_cases hql : q < i
              · have hz : ((q : Int) < (L.length : Int)) := by have := NL.out; omega
                have QL := Hd.mk hql
                have hqt : (q : Int) < (T.length : Int) := by have := TL.out; omega
                obtain ⟨adt, C0, e0, C1, e1, C2, e2, C3, e3, C4, e4, hAt, y0, y1, y2, y3, y4, l0, g0, l1, g1, l2, g2, l3, g3, l4, g4⟩ := at_T28 (Kd.R_reads' (GF.out.below BQ.out).t).2.2 (q : Int) (by omega) hqt
                subst hAt
                have YE : rd_T28 T (q : Int) = S q := by
                  show T.getD (q : Int).toNat z28 = S q
                  rw [Int.toNat_natCast]
                  exact TG.out q hql
                simp only [Int.toNat_natCast] at y0 y1 y2 y3 y4
                rw [YE] at y0 y1 y2 y3 y4 l0 g0 l1 g1 l2 g2 l3 g3 l4 g4
                have RY := RQ.out.sys.rt _ (RQ.out.lst q hql)
                have YV := Hd.mk (show Sv wr (S q) (.slice C0 (S q).f0.length e0) (.slice C1 (S q).f1.length e1) (.slice C2 (S q).f2.length e2) (.slice C3 (S q).f3.length e3) (.slice C4 (S q).f4.length e4) from ⟨⟨C0, e0, C1, e1, C2, e2, C3, e3, C4, e4, rfl, rfl, rfl, rfl, rfl, g0, g1, g2, g3, g4, l0, l1, l2, l3, l4⟩, RY.fit, RY.ok⟩)
                have Y0 := Hd.mk (And.intro y0 (And.intro y1 (And.intro y2 (And.intro y3 y4))))
                have CV := Hd.mk (fun W (hW : Below wr.heap.size wr W) => covers_v ((RF.out.below BQ.out).below hW) (YV.out.below hW))
                rw [(CQ.out q hql).1, (CQ.out q hql).2] at CV
                clear l0 l1 l2 l3 l4 g0 g1 g2 g3 g4 RY YE hql y0 y1 y2 y3 y4
                go_wp2_with fail
                refine wp_region_class (C := fun W => Below wr.heap.size wr W) (by kernel_rfl) (by kernel_rfl) (Below.drew (Below.refl _ _)) ?_
                repeat (first
                  | go_big_quiet_skip
                  | (go_big_quiet_want; go_big_quiet_op; first
                    | go_big_quiet_on
                    | (refine ⟨_, fun _ _ => by with_reducible rfl, ?_⟩; go_big_quiet_on)
                    | (apply Exists.intro
                       refine ⟨fun W hW => ?_, ?_⟩
                       · first
                             | (go_at_call 39; exact (CV.out W hW).mono fun e w' hh => ⟨hh.1, hW.trans (hh.2.mono hW.size)⟩)
                             | (have p0 := cell_of (((BQ.out.trans (hW.mono BQ.out.size)).block _ (Array.getElem?_eq_some_iff.1 BF.out).1).trans BF.out) 0 rfl;have p1 := cell_of (((BQ.out.trans (hW.mono BQ.out.size)).block _ (Array.getElem?_eq_some_iff.1 BF.out).1).trans BF.out) 1 rfl;have p2 := cell_of (((BQ.out.trans (hW.mono BQ.out.size)).block _ (Array.getElem?_eq_some_iff.1 BF.out).1).trans BF.out) 2 rfl;have p3 := cell_of (((BQ.out.trans (hW.mono BQ.out.size)).block _ (Array.getElem?_eq_some_iff.1 BF.out).1).trans BF.out) 3 rfl;have p4 := cell_of (((BQ.out.trans (hW.mono BQ.out.size)).block _ (Array.getElem?_eq_some_iff.1 BF.out).1).trans BF.out) 4 rfl; obtain ⟨y0, y1, y2, y3, y4⟩ := Y0.out; have x0 := (hW.cell (World.block_lt_of_cell? wr _ y0)).trans y0; have x1 := (hW.cell (World.block_lt_of_cell? wr _ y1)).trans y1; have x2 := (hW.cell (World.block_lt_of_cell? wr _ y2)).trans y2; have x3 := (hW.cell (World.block_lt_of_cell? wr _ y3)).trans y3; have x4 := (hW.cell (World.block_lt_of_cell? wr _ y4)).trans y4; clear y0 y1 y2 y3 y4; go_simp; first | done | rfl)
                       go_big_quiet_on)))
                refine wpQuiet_nil ?_
                intro W hW
                have HW := Hd.mk hW
                clear hW

                have BW := Hd.mk (BQ.out.trans (HW.out.mono BQ.out.size))
                clear HW CV Y0 YV z0
                go_wp2_with fail
                have BD := Hd.mk (BW.out.trans ((Below.drew (Below.refl _ W)).mono BW.out.size))
                have GD := Hd.mk (GF.out.below BD.out)
                have FD := Hd.mk ((BD.out.block _ (Array.getElem?_eq_some_iff.1 BF.out).1).trans BF.out)
                have ST := (GD.out.many.rep q QL.out).state
                rw [SQ.out q QL.out] at ST
                have ST := Hd.mk ST
                refine start_ (n := 19) (S := fun w' => w'.cell? ⟨g, 0, none⟩ = some (.slice (some ad) L.length cl) ∧ w'.cell? (ad.add q) = some (.pointer (some ⟨r q, 0, none⟩)) ∧ w'.cell? ⟨w3.heap.size, 0, none⟩ = some (.slice D0 (Sc 0).f0.length f0) ∧ w'.cell? ⟨w3.heap.size, 1, none⟩ = some (.slice D1 (Sc 0).f1.length f1) ∧ w'.cell? ⟨w3.heap.size, 2, none⟩ = some (.slice D2 (Sc 0).f2.length f2) ∧ w'.cell? ⟨w3.heap.size, 3, none⟩ = some (.slice D3 (Sc 0).f3.length f3) ∧ w'.cell? ⟨w3.heap.size, 4, none⟩ = some (.slice D4 (Sc 0).f4.length f4)) (ds := []) #[false, false, false, false, false, false, false, false, false, false, false, false, false, false, false, false, false, false, false] (by kernel_rfl) rfl rfl ⟨cell_of GD.out.blk 0 rfl, PT.out _ _ _ _ _ GD.out q QL.out, cell_of FD.out 0 rfl, cell_of FD.out 1 rfl, cell_of FD.out 2 rfl, cell_of FD.out 3 rfl, cell_of FD.out 4 rfl⟩ (fun hHeld => ?_)
                refine pure_ (i := 0) (N := some 118) (v := ?_) (a' := ?_) #[true, false, false, false, false, false, false, false, false, false, false, false, false, false, false, false, false, false, false] rfl rfl (by kernel_rfl) (fun _ _ _ h => h) (Or.inl ⟨by rfl, ?_⟩) ?_ ?_
                rotate_left
                · intro w'
                  go_simp
                  with_reducible rfl
                rotate_left
                · simp only [Act.put, List.setIfInBounds_toArray, List.set_cons_zero, List.set_cons_succ]
                  rfl
                refine pure_ (i := 1) (N := some 119) (v := ?_) (a' := ?_) #[true, true, false, false, false, false, false, false, false, false, false, false, false, false, false, false, false, false, false] rfl rfl (by kernel_rfl) (fun _ _ _ h => h) (Or.inl ⟨by rfl, ?_⟩) ?_ ?_
                rotate_left
                · intro w'
                  go_simp
                  with_reducible rfl
                rotate_left
                · simp only [Act.put, List.setIfInBounds_toArray, List.set_cons_zero, List.set_cons_succ]
                  rfl
                refine pure_ (i := 2) (N := some 120) (v := ?_) (a' := ?_) #[true, true, true, false, false, false, false, false, false, false, false, false, false, false, false, false, false, false, false] rfl rfl (by kernel_rfl) (fun _ _ _ h => h) (Or.inl ⟨by rfl, ?_⟩) ?_ ?_
                rotate_left
                · intro w'
                  go_simp
                  with_reducible rfl
                rotate_left
                · simp only [Act.put, List.setIfInBounds_toArray, List.set_cons_zero, List.set_cons_succ]
                  rfl
                refine take_ (i := 3) (N := some 121) (v := ?_) (a' := ?_) #[true, true, true, true, false, false, false, false, false, false, false, false, false, false, false, false, false, false, false] rfl rfl (by kernel_rfl) (fun _ _ _ h => h) (Or.inl ⟨by rfl, ?_⟩) hHeld ?_ ?_
                rotate_left
                · rintro w' ⟨s0, s1, s2, s3, s4, s5, s6⟩
                  go_simp
                  with_reducible rfl
                rotate_left
                · simp only [Act.put, List.setIfInBounds_toArray, List.set_cons_zero, List.set_cons_succ]
                  rfl
                refine pure_ (i := 4) (N := some 122) (v := ?_) (a' := ?_) #[true, true, true, true, true, false, false, false, false, false, false, false, false, false, false, false, false, false, false] rfl rfl (by kernel_rfl) (fun _ _ _ h => h) (Or.inl ⟨by rfl, ?_⟩) ?_ ?_
                rotate_left
                · intro w'
                  go_simp
                  with_reducible rfl
                rotate_left
                · simp only [Act.put, List.setIfInBounds_toArray, List.set_cons_zero, List.set_cons_succ]
                  rfl
                refine pure_ (i := 5) (N := some 123) (v := ?_) (a' := ?_) #[true, true, true, true, true, true, false, false, false, false, false, false, false, false, false, false, false, false, false] rfl rfl (by kernel_rfl) (fun _ _ _ h => h) (Or.inl ⟨by rfl, ?_⟩) ?_ ?_
                rotate_left
                · intro w'
                  go_simp
                  with_reducible rfl
                rotate_left
                · simp only [Act.put, List.setIfInBounds_toArray, List.set_cons_zero, List.set_cons_succ]
                  rfl
                refine take_ (i := 6) (N := some 124) (v := ?_) (a' := ?_) #[true, true, true, true, true, true, true, false, false, false, false, false, false, false, false, false, false, false, false] rfl rfl (by kernel_rfl) (fun _ _ _ h => h) (Or.inl ⟨by rfl, ?_⟩) hHeld ?_ ?_
                rotate_left
                · rintro w' ⟨s0, s1, s2, s3, s4, s5, s6⟩
                  go_simp
                  with_reducible rfl
                rotate_left
                · simp only [Act.put, List.setIfInBounds_toArray, List.set_cons_zero, List.set_cons_succ]
                  rfl
                refine take_ (i := 8) (N := some 126) (v := ?_) (a' := ?_) #[true, true, true, true, true, true, true, false, true, false, false, false, false, false, false, false, false, false, false] rfl rfl (by kernel_rfl) (fun _ _ _ h => h) (Or.inl ⟨by rfl, ?_⟩) hHeld ?_ ?_
                rotate_left
                · rintro w' ⟨s0, s1, s2, s3, s4, s5, s6⟩
                  go_simp
                  with_reducible rfl
                rotate_left
                · simp only [Act.put, List.setIfInBounds_toArray, List.set_cons_zero, List.set_cons_succ]
                  rfl
                refine one_ (i := 7) (N := some 125) #[true, true, true, true, true, true, true, true, true, false, false, false, false, false, false, false, false, false, false] rfl rfl (by kernel_rfl) (by decide) (fun K hK => ?_)
                refine goes_ Tryz.func24 (by kernel_rfl) rfl #[.pointer (some ⟨r q, 0, none⟩)] (by rfl) rfl rfl (by simp only [List.map_toArray, List.map_cons, List.map_nil]; rfl) ?_
                with_reducible refine ST.out.mono ?_
                rintro e w7 ⟨v0, v1, v2, v3, v4, rfl, hs, hb⟩
                refine ⟨_, rfl, ?_⟩
                have B7 := Hd.mk (BD.out.trans (hb.mono BD.out.size))
                have G7 := Hd.mk (GF.out.below B7.out)
                have F7 := Hd.mk ((B7.out.block _ (Array.getElem?_eq_some_iff.1 BF.out).1).trans BF.out)
                have SV := Hd.mk (same_v hs.sk (RQ.out.sys.rt _ (RQ.out.sys.own 0 N0.out)).fit (RF.out.below B7.out).sk)
                rw [eqL_iff.2 rfl] at SV
                clear hs hb ST
                refine hK.out _ _ ⟨cell_of G7.out.blk 0 rfl, PT.out _ _ _ _ _ G7.out q QL.out, cell_of F7.out 0 rfl, cell_of F7.out 1 rfl, cell_of F7.out 2 rfl, cell_of F7.out 3 rfl, cell_of F7.out 4 rfl⟩ (fun hHeld => ?_)
                clear hK K
                refine norm_ (a' := ?_) ?_ ?_
                rotate_left
                · show Act.put _ (some 125) _ = _
                  simp only [Act.put, List.setIfInBounds_toArray, List.set_cons_zero, List.set_cons_succ]
                  rfl
                refine one_ (i := 9) (N := some 127) #[true, true, true, true, true, true, true, true, true, true, false, false, false, false, false, false, false, false, false] rfl rfl (by kernel_rfl) (by decide) (fun K hK => ?_)
                refine goes_ Tryz.func22 (by kernel_rfl) rfl #[.agg #[v0, v1, v2, v3, v4], .agg #[.slice D0 (Sc 0).f0.length f0, .slice D1 (Sc 0).f1.length f1, .slice D2 (Sc 0).f2.length f2, .slice D3 (Sc 0).f3.length f3, .slice D4 (Sc 0).f4.length f4]] (by rfl) rfl rfl (by simp only [List.map_toArray, List.map_cons, List.map_nil]; rfl) ?_
                with_reducible refine SV.out.mono ?_
                rintro e w8 ⟨rfl, hb⟩
                refine ⟨_, rfl, ?_⟩
                have B8 := Hd.mk (B7.out.trans (hb.mono B7.out.size))
                have G8 := Hd.mk (GF.out.below B8.out)
                have F8 := Hd.mk ((B8.out.block _ (Array.getElem?_eq_some_iff.1 BF.out).1).trans BF.out)
                clear hb SV
                refine hK.out _ _ ⟨cell_of G8.out.blk 0 rfl, PT.out _ _ _ _ _ G8.out q QL.out, cell_of F8.out 0 rfl, cell_of F8.out 1 rfl, cell_of F8.out 2 rfl, cell_of F8.out 3 rfl, cell_of F8.out 4 rfl⟩ (fun hHeld => ?_)
                clear hK K
                refine norm_ (a' := ?_) ?_ ?_
                rotate_left
                · show Act.put _ (some 127) _ = _
                  simp only [Act.put, List.setIfInBounds_toArray, List.set_cons_zero, List.set_cons_succ]
                  rfl
                refine pure_ (i := 10) (N := some 128) (v := ?_) (a' := ?_) #[true, true, true, true, true, true, true, true, true, true, true, false, false, false, false, false, false, false, false] rfl rfl (by kernel_rfl) (fun _ _ _ h => h) (Or.inl ⟨by rfl, ?_⟩) ?_ ?_
                rotate_left
                · intro w'
                  go_simp
                  with_reducible rfl
                rotate_left
                · simp only [Act.put, List.setIfInBounds_toArray, List.set_cons_zero, List.set_cons_succ]
                  rfl
                refine pure_ (i := 11) (N := some 129) (v := ?_) (a' := ?_) #[true, true, true, true, true, true, true, true, true, true, true, true, false, false, false, false, false, false, false] rfl rfl (by kernel_rfl) (fun _ _ _ h => h) (Or.inl ⟨by rfl, ?_⟩) ?_ ?_
                rotate_left
                · intro w'
                  go_simp
                  with_reducible rfl
                rotate_left
                · simp only [Act.put, List.setIfInBounds_toArray, List.set_cons_zero, List.set_cons_succ]
                  rfl
                refine pure_ (i := 12) (N := some 130) (v := ?_) (a' := ?_) #[true, true, true, true, true, true, true, true, true, true, true, true, true, false, false, false, false, false, false] rfl rfl (by kernel_rfl) (fun _ _ _ h => h) (Or.inl ⟨by rfl, ?_⟩) ?_ ?_
                rotate_left
                · intro w'
                  go_simp
                  with_reducible rfl
                rotate_left
                · simp only [Act.put, List.setIfInBounds_toArray, List.set_cons_zero, List.set_cons_succ]
                  rfl
                refine pure_ (i := 13) (N := some 131) (v := ?_) (a' := ?_) #[true, true, true, true, true, true, true, true, true, true, true, true, true, true, false, false, false, false, false] rfl rfl (by kernel_rfl) (fun _ _ _ h => h) (Or.inl ⟨by rfl, ?_⟩) ?_ ?_
                rotate_left
                · intro w'
                  go_simp
                  with_reducible rfl
                rotate_left
                · simp only [Act.put, List.setIfInBounds_toArray, List.set_cons_zero, List.set_cons_succ]
                  rfl
                refine pure_ (i := 14) (N := some 132) (v := ?_) (a' := ?_) #[true, true, true, true, true, true, true, true, true, true, true, true, true, true, true, false, false, false, false] rfl rfl (by kernel_rfl) (fun _ _ _ h => h) (Or.inl ⟨by rfl, ?_⟩) ?_ ?_
                rotate_left
                · intro w'
                  go_simp
                  with_reducible rfl
                rotate_left
                · simp only [Act.put, List.setIfInBounds_toArray, List.set_cons_zero, List.set_cons_succ]
                  rfl
                refine pure_ (i := 15) (N := some 133) (v := ?_) (a' := ?_) #[true, true, true, true, true, true, true, true, true, true, true, true, true, true, true, true, false, false, false] rfl rfl (by kernel_rfl) (fun _ _ _ h => h) (Or.inl ⟨by rfl, ?_⟩) ?_ ?_
                rotate_left
                · intro w'
                  go_simp
                  with_reducible rfl
                rotate_left
                · simp only [Act.put, List.setIfInBounds_toArray, List.set_cons_zero, List.set_cons_succ]
                  rfl
                refine pure_ (i := 16) (N := some 134) (v := ?_) (a' := ?_) #[true, true, true, true, true, true, true, true, true, true, true, true, true, true, true, true, true, false, false] rfl rfl (by kernel_rfl) (fun _ _ _ h => h) (Or.inl ⟨by rfl, ?_⟩) ?_ ?_
                rotate_left
                · intro w'
                  go_simp
                  with_reducible rfl
                rotate_left
                · simp only [Act.put, List.setIfInBounds_toArray, List.set_cons_zero, List.set_cons_succ]
                  rfl
                refine pure_ (i := 17) (N := some 135) (v := ?_) (a' := ?_) #[true, true, true, true, true, true, true, true, true, true, true, true, true, true, true, true, true, true, false] rfl rfl (by kernel_rfl) (fun _ _ _ h => h) (Or.inl ⟨by rfl, ?_⟩) ?_ ?_
                rotate_left
                · intro w'
                  go_simp
                  with_reducible rfl
                rotate_left
                · simp only [Act.put, List.setIfInBounds_toArray, List.set_cons_zero, List.set_cons_succ]
                  rfl
                refine pure_ (i := 18) (N := some 136) (v := ?_) (a' := ?_) #[true, true, true, true, true, true, true, true, true, true, true, true, true, true, true, true, true, true, true] rfl rfl (by kernel_rfl) (fun _ _ _ h => h) (Or.inl ⟨by rfl, ?_⟩) ?_ ?_
                rotate_left
                · intro w'
                  go_simp
                  with_reducible rfl
                rotate_left
                · simp only [Act.put, List.setIfInBounds_toArray, List.set_cons_zero, List.set_cons_succ]
                  rfl
                refine done_ (by kernel_rfl) ?_

                have BN := Hd.mk (B8.out)
                go_wp2_with fail
                go_roundg (i - (q + 1))
                case measure => have := QL.out; omega
                case rel => exact ⟨q + 1, nx QL.out (by have := N5.out; omega), by have := QL.out; omega, BN⟩
              · have hz : ¬ ((q : Int) < (L.length : Int)) := by have := NL.out; omega
                go_wp2_with fail
                clear z0 hz CQ SQ
                have BX := Hd.mk BQ.out
                clear BQ hq hql
                go_loopg [18, 19, 20] 8 (fun gg v18 v19 v20 wq => ∃ k : Nat, v18 = .int .i64 k ∧ k + gg = 8 ∧ Hd (Below wF.heap.size wF wq))
                case atStart => exact ⟨0, rfl, rfl, BX⟩
                case round =>
                  clear BX
                  obtain ⟨k, rfl, hk, BQ⟩ := hrel
                  by_cases hkl : k < 8
                  · have hz : ((k : Int) < 8) := by omega
                    have KL := Hd.mk hkl
                    have z0 : wr.cell? ⟨g, 0, none⟩ = some (.slice (some ad) L.length cl) := cell_of (GF.out.below BQ.out).blk 0 rfl
                    have z1 := PT.out _ _ _ _ _ (GF.out.below BQ.out) 0 N0.out
                    have z2 : wr.cell? ad = some (.pointer (some ⟨r 0, 0, none⟩)) := by rw [show ad.add 0 = ad by simp [Addr.add]] at z1; exact z1
                    have hLn : ¬ L = [] := by intro e; have h1 := NL.out; have h2 := N0.out; rw [e] at h1; simp at h1; omega
                    have hLp : 0 < L.length := by have := N0.out; have := NL.out; omega
                    have hi7 : inR 0 7 (k : Int) = true := inR_iff.2 ⟨by omega, by omega⟩
                    have LV := ((GF.out.below BQ.out).many.rep 0 N0.out).left (k : Int)
                    unfold leftV errB at LV
                    rw [if_pos hi7, if_pos hi7, RQ.out.left N0.out, ← GI0.out.bal (k : Int) (by omega) (by omega)] at LV
                    have LV := Hd.mk LV
                    clear hkl hi7
                    go_wp2_with fail
                    refine LV.out.mono ?_
                    rintro e w9 ⟨rfl, hb⟩
                    have B9 := Hd.mk (BQ.out.trans (hb.mono BQ.out.size))
                    clear hb LV z0 z1 z2 BQ
                    have GM := Hd.mk (gC_md (lv := (.slice (some ad) L.length cl)) (hv := hv) GI0.out.ml GI0.out.tl (N := (k : Int)) (by have := KL.out; omega) (by have := KL.out; omega) 0)
                    have wm := GI0.out.mb _ (sget_mem GI0.out.ml (o := (k : Int)) (by have := KL.out; omega) (by have := KL.out; omega))
                    have wt := GI0.out.tb _ (sget_mem GI0.out.tl (o := (k : Int)) (by have := KL.out; omega) (by have := KL.out; omega))
                    have wz : IntKind.i64.wrap (sget md (k : Int) - sget tk (k : Int)) = sget md (k : Int) - sget tk (k : Int) := (i64_w _).trans (by have := H6.out; unfold MC at wm wt; unfold wrap64; omega)
                    clear wm wt
                    go_wp2_with fail
                    refine wp_region_class (C := fun W => Below w9.heap.size w9 W) (by kernel_rfl) (by kernel_rfl) (Below.drew (Below.refl _ _)) ?_
                    repeat (first
                      | go_big_quiet_skip
                      | (go_big_quiet_want; go_big_quiet_op; first
                        | go_big_quiet_on
                        | (refine ⟨_, fun _ _ => by with_reducible rfl, ?_⟩; go_big_quiet_on)
                        | (apply Exists.intro
                           refine ⟨fun W hW => ?_, ?_⟩
                           · first
                                 | (have p0 : W.cell? ⟨g, 2 + k, none⟩ = some (.int .i64 (sget md (k : Int))) := cell_of ((GF.out.below B9.out).below hW).blk _ GM.out.1; have p1 : W.cell? ⟨g, 10 + k, none⟩ = some (.int .i64 (sget tk (k : Int))) := cell_of ((GF.out.below B9.out).below hW).blk _ GM.out.2.2.1; go_simp; first | done | rfl)
                           go_big_quiet_on)))
                    refine wpQuiet_nil ?_
                    intro W hW
                    have HW := Hd.mk hW
                    clear hW

                    have BN := Hd.mk (B9.out.trans (HW.out.mono B9.out.size))
                    go_wp2_with fail
                    go_roundg (8 - (k + 1))
                    case measure => have := KL.out; omega
                    case rel => exact ⟨k + 1, rfl, by have := KL.out; omega, BN⟩
                  · have hz : ¬ ((k : Int) < 8) := by omega
                    have B3 := Hd.mk (B1.out.trans ((GF.out.below BQ.out).base.mono B1.out.size))
                    go_wp2_with fail
                    refine (AL.out _).mono ?_
                    rintro e wz ⟨rfl, hb⟩
                    have BZ := Hd.mk (B3.out.trans (hb.mono B3.out.size))
                    clear hb
                    go_wp2_with fail
                    go_ret
                    exact ⟨rfl, BZ.out⟩
end Go.Proofs.YtmeaeapopfcmbaaGreat
