/- A step of a group of offices beside a frame. No conditions. -/
import Derived.Test.YtmeaeapopfcmbaaGreatK47
import Derived.Test.YtmeaeapopfcmbaaGreatP14
import Derived.Deep.CutBlock
namespace Go.Proofs.YtmeaeapopfcmbaaGreat
open Go.RowKit Go.Proofs.YtmeaeapopfcmbaaGreatW.PrintWords Go.Proofs.YtmeaeapopfcmbaaGreatW.PrintLast Go.Proofs.YtmeaeapopfcmbaaGreatW.PrintMore PP
set_option linter.unusedVariables false
set_option linter.unusedSimpArgs false
set_option maxHeartbeats 4000000
set_option maxRecDepth 100000
/-- A step's values. -/
structure Stp where
  who : Nat
  st : Nat
  kd : Nat
  N : Int
  To : Int
  tx : ByteArray
  Am : Int
  h0 : who < 256
  h1 : st < 65536
  h2 : kd < 256
/-- The list of pointers as it is read. -/
theorem ptr_at {W : World} {A : Option Addr} {L : List Nat} (h : Kd.C kP W A L.length L) (i : Nat) (hi : i < L.length) : ∃ ad, A = some ad ∧ W.cell? (ad.add i) = some (.pointer (some ⟨L.getD i 0, 0, none⟩)) := by
  obtain ⟨ad, c, e, _, hK, hc⟩ := Kd.C_get h 0 (i : Int) (by omega) (by omega)
  have h1 : c = [.pointer (some ⟨L.getD i 0, 0, none⟩)] := hK
  subst h1
  exact ⟨ad, e, by have := hc 0 _ rfl; simpa [kP, Kd.scalar] using this⟩
theorem ty_ne {W : World} {a b t t' : Nat} {c c' : Array Value} (h : W.heap[a]? = some (.cells c t (0, 0))) (h' : W.heap[b]? = some (.cells c' t' (0, 0))) (hne : t ≠ t') : a ≠ b := by
  rintro rfl
  rw [h] at h'
  injection h' with h'
  injection h' with _ h2 _
  exact hne h2
theorem gC_md {lv hv : Value} {md tk : List Int} (hm : md.length = 8) (ht : tk.length = 8) {N : Int} (h0 : 0 ≤ N) (h7 : N ≤ 7) (v : Int) :
    (gC lv hv md tk)[2 + N.toNat]? = some (.int .i64 (sget md N)) ∧ (gC lv hv md tk).setIfInBounds (2 + N.toNat) (.int .i64 v) = gC lv hv (md.set N.toNat v) tk ∧
    (gC lv hv md tk)[10 + N.toNat]? = some (.int .i64 (sget tk N)) ∧ (gC lv hv md tk).setIfInBounds (10 + N.toNat) (.int .i64 v) = gC lv hv md (tk.set N.toNat v) := by
  match md, hm, tk, ht with
  | [a0, a1, a2, a3, a4, a5, a6, a7], _, [b0, b1, b2, b3, b4, b5, b6, b7], _ =>
    have hN : N = 0 ∨ N = 1 ∨ N = 2 ∨ N = 3 ∨ N = 4 ∨ N = 5 ∨ N = 6 ∨ N = 7 := by omega
    rcases hN with rfl | rfl | rfl | rfl | rfl | rfl | rfl | rfl <;> exact ⟨rfl, rfl, rfl, rfl⟩
/-- What a step has come to, ahead of its state. -/
structure Mid (w0 : Frm) (g n k i : Nat) (r : Nat → Nat) (S : Nat → S28) (H : List S28) (L : List Nat) (c : Nat) (N : Int) (tx : ByteArray) (lv hv : Value) (S1 : S28) (md1 tk1 : List Int) (wc : World) : Prop where
  ex : ∃ F, GrpK w0 wc g n r (updN S i S1) F L H md1 tk1 lv hv
  gi : GI n (k + 1) (updN S i S1) (H ++ [S1]) md1 tk1
  act : Act1 i (S i) H (c : Int) N tx S1
theorem step_run (w0 : Frm) (w : World) (g n k : Nat) (r : Nat → Nat) (S : Nat → S28) (H : List S28) (md tk : List Int) (hg : GrK w0 w g n r S H md tk) (gi : GI n k S H md tk) (hk : k ≤ 1000) (who st kd : Nat) (h0 : who < 256) (h1 : st < 65536) (h2 : kd < 256) (N To Am : Int) (tx : ByteArray) (A0 A1 A2 A3 A4 : Option Addr) (n0 n1 n2 n3 n4 c0 c1 c2 c3 c4 : Nat) :
    Calls Tryz.prog 31 #[.pointer (some ⟨g, 0, none⟩), .agg #[.int .u8 who, .int .u16 st, .int .u8 kd, .int .i64 N, .int .i64 To, .string tx, .int .i64 Am, .slice A0 n0 c0, .slice A1 n1 c1, .slice A2 n2 c2, .slice A3 n3 c3, .slice A4 n4 c4]] w fun e w' => ∃ S1 md1 tk1, e = .returned (.bool true) ∧ GrK w0 w' g n r (updN S (who % n) S1) (H ++ [S1]) md1 tk1 ∧ GI n (k + 1) (updN S (who % n) S1) (H ++ [S1]) md1 tk1 ∧ Act1 (who % n) (S (who % n)) H ((kd % 10 : Nat) : Int) N tx S1 := by
  obtain ⟨F, lv, hv, gx⟩ := hg
  obtain ⟨wB, hwB⟩ : ∃ wB, wB = w.alloc (.cells #[.int .u8 who, .int .u16 st, .int .u8 kd, .int .i64 N, .int .i64 To, .string tx, .int .i64 Am, .slice A0 n0 c0, .slice A1 n1 c1, .slice A2 n2 c2, .slice A3 n3 c3, .slice A4 n4 c4] 61) := ⟨_, rfl⟩
  have GX := Hd.mk (gx.below (by rw [hwB]; exact below_alloc (Below.refl _ _) _) : GrpK w0 wB g n r S F ((List.range n).map r) H md tk lv hv)
  have XB := Hd.mk (show wB.heap[w.heap.size]? = some (Obj.cells #[.int .u8 who, .int .u16 st, .int .u8 kd, .int .i64 N, .int .i64 To, .string tx, .int .i64 Am, .slice A0 n0 c0, .slice A1 n1 c1, .slice A2 n2 c2, .slice A3 n3 c3, .slice A4 n4 c4] 61 (0, 0)) by rw [hwB]; exact alloc_at _ _ _ rfl)
  have GG := Hd.mk gi
  have HK := Hd.mk hk
  have NF0 := Hd.mk (show ∀ j, j < n → ∀ x, F j x → x < w.heap.size from fun j hj x hx => (gx.many.rep j hj).lt x hx)
  have HB := Hd.mk (And.intro h0 (And.intro h1 h2))
  have HW := Hd.mk hwB
  obtain ⟨L, hL⟩ : ∃ L, L = (List.range n).map r := ⟨_, rfl⟩
  rw [← hL] at GX
  have LL := Hd.mk hL
  have NL := Hd.mk (show L.length = n by rw [hL, List.length_map, List.length_range])
  have HN := Hd.mk (show 0 < n by have := gi.n2; omega)
  have HI := Hd.mk (show who % n < n from Nat.mod_lt _ (by have := gi.n2; omega))
  have TM := Hd.mk (show (who : Int).tmod (L.length : Int) = ((who % n : Nat) : Int) by rw [NL.out]; rfl)
  have GI' := Hd.mk (show L.getD (who % n) 0 = r (who % n) by rw [hL, List.getD_eq_getElem?_getD, List.getElem?_map, List.getElem?_range HI.out]; rfl)
  generalize who % n = i at *
  have NF := Hd.mk (NF0.out i HI.out)
  clear NF0
  obtain ⟨c, hc⟩ : ∃ c, c = kd % 10 := ⟨_, rfl⟩
  have K10 := Hd.mk (show (kd : Int) % 10 = (c : Int) by omega)
  have HC := Hd.mk (show c < 10 by omega)
  rw [← hc]
  have QC := Hd.mk hc
  clear hc
  clear hwB hL gx gi hk h0 h1 h2
  obtain ⟨Al, cl, rfl⟩ := Kd.R_slice GX.out.l
  obtain ⟨Ah, ch, rfl⟩ := Kd.R_slice GX.out.h
  go_enter Tryz.func31, Tryz.ntmps31
  go_wp2_with fail
  rw [← HW.out]
  have wz : wrap64 (who : Int) = (who : Int) := by unfold wrap64; have := HB.out; omega
  have NZ : ¬ L = [] := by intro e; have h1 := NL.out; have h2 := HN.out; rw [e] at h1; simp at h1; omega
  have tm := TM.out
  have hil : (i : Int) < (L.length : Int) := by have := HI.out; have := NL.out; omega
  obtain ⟨ad, hAl, _⟩ := ptr_at (Kd.R_reads' GX.out.l).2.2 i (by have := HI.out; have := NL.out; omega)
  subst hAl
  refine wp_region_class (C := fun W => Below wB.heap.size wB W) (by kernel_rfl) (by kernel_rfl) (Below.drew (Below.refl _ _)) ?_
  repeat (first
    | go_big_quiet_skip
    | (go_big_quiet_want; go_big_quiet_op; first
      | go_big_quiet_on
      | (refine ⟨_, fun _ _ => by with_reducible rfl, ?_⟩; go_big_quiet_on)
      | (apply Exists.intro
         refine ⟨fun W hW => ?_, ?_⟩
         · first
               | (have z0 : W.cell? ⟨g, 0, none⟩ = some (.slice (some ad) L.length cl) := cell_of (GX.out.below hW).blk 0 rfl; have z1 := cell_of ((hW.block _ (Array.getElem?_eq_some_iff.1 XB.out).1).trans XB.out) 0 rfl; obtain ⟨ad', e1, z2⟩ := ptr_at (Kd.R_reads' (GX.out.below hW).l).2.2 i (by have := HI.out; have := NL.out; omega); obtain rfl := Option.some.inj e1; rw [GI'.out] at z2; go_simp; first | done | rfl)
         go_big_quiet_on)))
  refine wpQuiet_nil ?_
  intro W hW
  have HW := Hd.mk hW
  clear hW
  have GW := Hd.mk (GX.out.below HW.out)
  have XW := Hd.mk ((HW.out.block _ (Array.getElem?_eq_some_iff.1 XB.out).1).trans XB.out)
  have LO := Hd.mk (show ∀ x, F i x → x < w.heap.size from NF.out)
  have WW := Hd.mk (show w.heap.size ≤ W.heap.size from Nat.le_trans (Nat.le_of_lt (Array.getElem?_eq_some_iff.1 XB.out).1) HW.out.size)
  clear HW GX XB NF tm wz hil NZ
  have hk10 := K10.out
  have q0 := cell_of XW.out 2 rfl
  have q1 := cell_of XW.out 3 rfl
  have q2 := cell_of XW.out 4 rfl
  have q3 := cell_of XW.out 5 rfl
  have q4 := cell_of XW.out 6 rfl
  have q5 := cell_of XW.out 7 rfl
  have q6 := cell_of XW.out 8 rfl
  have q7 := cell_of XW.out 9 rfl
  have q8 := cell_of XW.out 10 rfl
  have q9 := cell_of XW.out 11 rfl
  go_upto_block 0 with fail
  go_cut [7] from 28 to 148 (fun v7 wc => ∃ S1 md1 tk1, Hd (Mid w0 g n k i r S H L c N tx (.slice (some ad) L.length cl) (.slice Ah H.length ch) S1 md1 tk1 wc))
  case first =>
    obtain ⟨wA, hwA⟩ : ∃ wA, wA = W.alloc (.cells #[.int .u8 kd, .int .i64 N, .int .i64 To, .string tx, .int .i64 Am, .slice A0 n0 c0, .slice A1 n1 c1, .slice A2 n2 c2, .slice A3 n3 c3, .slice A4 n4 c4] 59) := ⟨_, rfl⟩
    have GA := Hd.mk (show GrpK w0 wA g n r S F L H md tk (.slice (some ad) L.length cl) (.slice Ah H.length ch) by rw [hwA]; exact GW.out.below (below_alloc (Below.refl _ _) _))
    have XA := Hd.mk (show wA.heap[W.heap.size]? = some (Obj.cells #[.int .u8 kd, .int .i64 N, .int .i64 To, .string tx, .int .i64 Am, .slice A0 n0 c0, .slice A1 n1 c1, .slice A2 n2 c2, .slice A3 n3 c3, .slice A4 n4 c4] 59 (0, 0)) by rw [hwA]; exact alloc_at _ _ _ rfl)
    have XS := Hd.mk (show wA.heap[w.heap.size]? = some (Obj.cells #[.int .u8 who, .int .u16 st, .int .u8 kd, .int .i64 N, .int .i64 To, .string tx, .int .i64 Am, .slice A0 n0 c0, .slice A1 n1 c1, .slice A2 n2 c2, .slice A3 n3 c3, .slice A4 n4 c4] 61 (0, 0)) by rw [hwA]; exact ((below_alloc (Below.refl W.heap.size W) _).block _ (Array.getElem?_eq_some_iff.1 XW.out).1).trans XW.out)
    have HA := Hd.mk hwA
    clear hwA GW XW
    go_upto_region 8 with fail
    rw [← HA.out]
    have p0 := cell_of XA.out 0 rfl
    have p1 := cell_of XA.out 1 rfl
    have p2 := cell_of XA.out 2 rfl
    have p3 := cell_of XA.out 3 rfl
    have p4 := cell_of XA.out 4 rfl
    clear q0 q1 q2 q3 q4 q5 q6 q7 q8 q9
    have h10 := HC.out
    have hcs : c = 0 ∨ c = 1 ∨ c = 2 ∨ c = 3 ∨ c = 4 ∨ c = 5 ∨ c = 6 ∨ c = 7 ∨ c = 8 ∨ c = 9 := by omega
    clear h10 hk10
    rcases hcs with rfl | rfl | rfl | rfl | rfl | rfl | rfl | rfl | rfl | rfl
    · have hk10 : (kd : Int) % 10 = 0 := K10.out
      have C := Hd.mk ((GA.out.many.rep i HI.out).put N tx)
      go_wp2_with fail
      with_reducible refine C.out.mono ?_
      rintro e w3 ⟨rfl, hl⟩
      have G3 := Hd.mk (GA.out.after HI.out hl)
      clear hl C
      go_wp2_with fail
      go_meet
      exact ⟨_, md, tk, ⟨⟨⟨_, G3.out⟩, GG.out.put HI.out N tx, .put (by decide)⟩⟩⟩
    · have hk10 : (kd : Int) % 10 = 1 := K10.out
      have C := Hd.mk ((GA.out.many.rep i HI.out).put N tx)
      go_wp2_with fail
      with_reducible refine C.out.mono ?_
      rintro e w3 ⟨rfl, hl⟩
      have G3 := Hd.mk (GA.out.after HI.out hl)
      clear hl C
      go_wp2_with fail
      go_meet
      exact ⟨_, md, tk, ⟨⟨⟨_, G3.out⟩, GG.out.put HI.out N tx, .put (by decide)⟩⟩⟩
    · have hk10 : (kd : Int) % 10 = 2 := K10.out
      have C := Hd.mk ((GA.out.many.rep i HI.out).drop N tx)
      go_wp2_with fail
      with_reducible refine C.out.mono ?_
      rintro e w3 ⟨rfl, hl⟩
      have G3 := Hd.mk (GA.out.after HI.out hl)
      clear hl C
      go_wp2_with fail
      go_meet
      exact ⟨_, md, tk, ⟨⟨⟨_, G3.out⟩, GG.out.drop HI.out N tx, .drop rfl⟩⟩⟩
    · have hk10 : (kd : Int) % 10 = 3 := K10.out
      have C := Hd.mk ((GA.out.many.rep i HI.out).write N tx)
      go_wp2_with fail
      with_reducible refine C.out.mono ?_
      rintro e w3 ⟨rfl, hl⟩
      have G3 := Hd.mk (GA.out.after HI.out hl)
      clear hl C
      go_wp2_with fail
      go_meet
      exact ⟨_, md, tk, ⟨⟨⟨_, G3.out⟩, GG.out.write HI.out N tx, .other _ (by decide) rfl (write_tags (GG.out.rt HI.out) (GG.out.o8 HI.out))⟩⟩⟩
    · have hk10 : (kd : Int) % 10 = 4 := K10.out
      have C := Hd.mk ((GA.out.many.rep i HI.out).make N Am)
      by_cases he : addE (S i) i ⟨N, i, i⟩ Am true false = 0
      · have G1 := Hd.mk (GG.out.make1 HI.out N Am he)
        rw [he] at C
        clear he
        have hN0 := G1.out.1.1
        have hN7 := G1.out.1.2
        go_wp2_with fail
        with_reducible refine C.out.mono ?_
        rintro e w3 ⟨rfl, hl⟩
        have G3 := Hd.mk (GA.out.after HI.out hl)
        have X3 := Hd.mk ((hl.chg.block _ (Array.getElem?_eq_some_iff.1 XA.out).1 (fun hF => by have h1 := LO.out _ hF; have h2 := WW.out; omega)).trans XA.out)
        clear hl C
        have p1 := cell_of X3.out 1 rfl
        have p4 := cell_of X3.out 4 rfl
        have hn0 : ¬ (N < 0) := by omega
        have hn8 : N < 8 := by omega
        have hn7 : ¬ (7 < N) := by omega
        go_wp2_with fail
        have GD := Hd.mk (G3.out.below (Below.drew (Below.refl _ _)))
        have XD := Hd.mk (((Below.drew (Below.refl _ w3)).block _ (Array.getElem?_eq_some_iff.1 X3.out).1).trans X3.out)
        have GM := Hd.mk (gC_md (lv := (.slice (some ad) L.length cl)) (hv := (.slice Ah H.length ch)) GG.out.ml GG.out.tl hN0 hN7 (sget md N + Am))
        have wz : wrap64 (sget md N + Am) = sget md N + Am := by have h1 := G1.out.2.1; have h2 := G1.out.2.2.1; have h3 := HK.out; unfold wrap64; unfold MC at h1; omega
        have z0 := frozen_of G3.out.blk (2 + N.toNat) none
        refine start_ (n := 14) (S := fun w' => w'.cell? ⟨W.heap.size, 1, none⟩ = some (.int .i64 N) ∧ w'.cell? ⟨W.heap.size, 4, none⟩ = some (.int .i64 Am) ∧ w'.cell? ⟨g, 2 + N.toNat, none⟩ = some (.int .i64 (sget md N))) (ds := [13]) #[false, false, false, false, false, false, false, false, false, false, false, false, false, false] (by kernel_rfl) rfl rfl ⟨cell_of XD.out 1 rfl, cell_of XD.out 4 rfl, cell_of GD.out.blk _ GM.out.1⟩ (fun hHeld => ?_)
        refine pure_ (i := 0) (N := some 95) (v := ?_) (a' := ?_) #[true, false, false, false, false, false, false, false, false, false, false, false, false, false] rfl rfl (by kernel_rfl) (fun _ _ _ h => h) (Or.inl ⟨by rfl, ?_⟩) ?_ ?_
        rotate_left
        · intro w'
          go_simp
          with_reducible rfl
        rotate_left
        · simp only [Act.put, List.setIfInBounds_toArray, List.set_cons_zero, List.set_cons_succ]
          rfl
        refine pure_ (i := 1) (N := some 96) (v := ?_) (a' := ?_) #[true, true, false, false, false, false, false, false, false, false, false, false, false, false] rfl rfl (by kernel_rfl) (fun _ _ _ h => h) (Or.inl ⟨by rfl, ?_⟩) ?_ ?_
        rotate_left
        · intro w'
          go_simp
          with_reducible rfl
        rotate_left
        · simp only [Act.put, List.setIfInBounds_toArray, List.set_cons_zero, List.set_cons_succ]
          rfl
        refine take_ (i := 2) (N := some 97) (v := ?_) (a' := ?_) #[true, true, true, false, false, false, false, false, false, false, false, false, false, false] rfl rfl (by kernel_rfl) (fun _ _ _ h => h) (Or.inl ⟨by rfl, ?_⟩) hHeld ?_ ?_
        rotate_left
        · rintro w' ⟨s0, s1, s2⟩
          go_simp
          with_reducible rfl
        rotate_left
        · simp only [Act.put, List.setIfInBounds_toArray, List.set_cons_zero, List.set_cons_succ]
          rfl
        refine pure_ (i := 3) (N := some 98) (v := ?_) (a' := ?_) #[true, true, true, true, false, false, false, false, false, false, false, false, false, false] rfl rfl (by kernel_rfl) (fun _ _ _ h => h) (Or.inl ⟨by rfl, ?_⟩) ?_ ?_
        rotate_left
        · intro w'
          go_simp
          with_reducible rfl
        rotate_left
        · simp only [Act.put, List.setIfInBounds_toArray, List.set_cons_zero, List.set_cons_succ]
          rfl
        refine pure_ (i := 4) (N := some 99) (v := ?_) (a' := ?_) #[true, true, true, true, true, false, false, false, false, false, false, false, false, false] rfl rfl (by kernel_rfl) (fun _ _ _ h => h) (Or.inl ⟨by rfl, ?_⟩) ?_ ?_
        rotate_left
        · intro w'
          go_simp
          with_reducible rfl
        rotate_left
        · simp only [Act.put, List.setIfInBounds_toArray, List.set_cons_zero, List.set_cons_succ]
          rfl
        refine pure_ (i := 5) (N := some 100) (v := ?_) (a' := ?_) #[true, true, true, true, true, true, false, false, false, false, false, false, false, false] rfl rfl (by kernel_rfl) (fun _ _ _ h => h) (Or.inl ⟨by rfl, ?_⟩) ?_ ?_
        rotate_left
        · intro w'
          go_simp
          with_reducible rfl
        rotate_left
        · simp only [Act.put, List.setIfInBounds_toArray, List.set_cons_zero, List.set_cons_succ]
          rfl
        refine take_ (i := 6) (N := some 101) (v := ?_) (a' := ?_) #[true, true, true, true, true, true, true, false, false, false, false, false, false, false] rfl rfl (by kernel_rfl) (fun _ _ _ h => h) (Or.inl ⟨by rfl, ?_⟩) hHeld ?_ ?_
        rotate_left
        · rintro w' ⟨s0, s1, s2⟩
          go_simp
          with_reducible rfl
        rotate_left
        · simp only [Act.put, List.setIfInBounds_toArray, List.set_cons_zero, List.set_cons_succ]
          rfl
        refine pure_ (i := 7) (N := some 102) (v := ?_) (a' := ?_) #[true, true, true, true, true, true, true, true, false, false, false, false, false, false] rfl rfl (by kernel_rfl) (fun _ _ _ h => h) (Or.inl ⟨by rfl, ?_⟩) ?_ ?_
        rotate_left
        · intro w'
          go_simp
          with_reducible rfl
        rotate_left
        · simp only [Act.put, List.setIfInBounds_toArray, List.set_cons_zero, List.set_cons_succ]
          rfl
        refine take_ (i := 8) (N := some 103) (v := ?_) (a' := ?_) #[true, true, true, true, true, true, true, true, true, false, false, false, false, false] rfl rfl (by kernel_rfl) (fun _ _ _ h => h) (Or.inl ⟨by rfl, ?_⟩) hHeld ?_ ?_
        rotate_left
        · rintro w' ⟨s0, s1, s2⟩
          go_simp
          with_reducible rfl
        rotate_left
        · simp only [Act.put, List.setIfInBounds_toArray, List.set_cons_zero, List.set_cons_succ]
          rfl
        refine pure_ (i := 9) (N := some 104) (v := ?_) (a' := ?_) #[true, true, true, true, true, true, true, true, true, true, false, false, false, false] rfl rfl (by kernel_rfl) (fun _ _ _ h => h) (Or.inl ⟨by rfl, ?_⟩) ?_ ?_
        rotate_left
        · intro w'
          go_simp
          with_reducible rfl
        rotate_left
        · simp only [Act.put, List.setIfInBounds_toArray, List.set_cons_zero, List.set_cons_succ]
          rfl
        refine pure_ (i := 10) (N := some 105) (v := ?_) (a' := ?_) #[true, true, true, true, true, true, true, true, true, true, true, false, false, false] rfl rfl (by kernel_rfl) (fun _ _ _ h => h) (Or.inl ⟨by rfl, ?_⟩) ?_ ?_
        rotate_left
        · intro w'
          go_simp
          with_reducible rfl
        rotate_left
        · simp only [Act.put, List.setIfInBounds_toArray, List.set_cons_zero, List.set_cons_succ]
          rfl
        refine pure_ (i := 11) (N := some 106) (v := ?_) (a' := ?_) #[true, true, true, true, true, true, true, true, true, true, true, true, false, false] rfl rfl (by kernel_rfl) (fun _ _ _ h => h) (Or.inl ⟨by rfl, ?_⟩) ?_ ?_
        rotate_left
        · intro w'
          go_simp
          with_reducible rfl
        rotate_left
        · simp only [Act.put, List.setIfInBounds_toArray, List.set_cons_zero, List.set_cons_succ]
          rfl
        refine pure_ (i := 12) (N := some 107) (v := ?_) (a' := ?_) #[true, true, true, true, true, true, true, true, true, true, true, true, true, false] rfl rfl (by kernel_rfl) (fun _ _ _ h => h) (Or.inl ⟨by rfl, ?_⟩) ?_ ?_
        rotate_left
        · intro w'
          go_simp
          with_reducible rfl
        rotate_left
        · simp only [Act.put, List.setIfInBounds_toArray, List.set_cons_zero, List.set_cons_succ]
          rfl
        refine last_ (i := 13) (N := none) #[true, true, true, true, true, true, true, true, true, true, true, true, true, true] rfl rfl (by kernel_rfl) (by decide) (fun K hK => ?_)
        refine skip_ (w1 := ?_) (by rfl) rfl ?_ ?_
        rotate_left
        · go_simp
          rfl
        refine hK.out _ _ ?_
        clear hK K
        refine done_ (by kernel_rfl) ?_
        have WZ := Hd.mk (show IntKind.i64.wrap (sget md N + Am) = sget md N + Am from (i64_w _).trans wz)
        have GE := Hd.mk ((G3.out.store (i := 2 + N.toNat) (v := .int .i64 (sget md N + Am)) GM.out.2.1 G3.out.l G3.out.h (by rw [List.length_set]; exact GG.out.ml) GG.out.tl).below (Below.drew (Below.refl _ _)))
        go_wp2_with fail
        go_meet
        exact ⟨_, _, _, ⟨⟨⟨_, by rw [WZ.out]; exact GE.out⟩, G1.out.2.2.2, .other _ (by decide) rfl (add_tags (GG.out.rt HI.out) (addOk_make (GG.out.o8 HI.out) N))⟩⟩⟩
      · have hz : ¬ (addE (S i) i ⟨N, i, i⟩ Am true false = 0) := he
        go_wp2_with fail
        with_reducible refine C.out.mono ?_
        rintro e w3 ⟨rfl, hl⟩
        have G3 := Hd.mk (GA.out.after HI.out hl)
        clear hl C
        go_wp2_with fail
        go_meet
        exact ⟨_, md, tk, ⟨⟨⟨_, G3.out⟩, GG.out.make0 HI.out N Am he, .other _ (by decide) rfl (add_tags (GG.out.rt HI.out) (addOk_make (GG.out.o8 HI.out) N))⟩⟩⟩
    · have hk10 : (kd : Int) % 10 = 5 := K10.out
      have C := Hd.mk ((GA.out.many.rep i HI.out).give N To Am)
      go_wp2_with fail
      with_reducible refine C.out.mono ?_
      rintro e w3 ⟨rfl, hl⟩
      have G3 := Hd.mk (GA.out.after HI.out hl)
      clear hl C
      go_wp2_with fail
      go_meet
      exact ⟨_, md, tk, ⟨⟨⟨_, G3.out⟩, GG.out.give HI.out N To Am, .other _ (by decide) rfl (add_tags (GG.out.rt HI.out) (addOk_give (GG.out.o8 HI.out) N To))⟩⟩⟩
    · have hk10 : (kd : Int) % 10 = 6 := K10.out
      have C := Hd.mk ((GA.out.many.rep i HI.out).take N Am)
      by_cases he : addE (S i) i ⟨N, i, -1⟩ Am true true = 0
      · have G1 := Hd.mk (GG.out.take1 HI.out N Am he)
        rw [he] at C
        clear he
        have hN0 := G1.out.1.1
        have hN7 := G1.out.1.2
        go_wp2_with fail
        with_reducible refine C.out.mono ?_
        rintro e w3 ⟨rfl, hl⟩
        have G3 := Hd.mk (GA.out.after HI.out hl)
        have X3 := Hd.mk ((hl.chg.block _ (Array.getElem?_eq_some_iff.1 XA.out).1 (fun hF => by have h1 := LO.out _ hF; have h2 := WW.out; omega)).trans XA.out)
        clear hl C
        have p1 := cell_of X3.out 1 rfl
        have p4 := cell_of X3.out 4 rfl
        have hn0 : ¬ (N < 0) := by omega
        have hn8 : N < 8 := by omega
        have hn7 : ¬ (7 < N) := by omega
        go_wp2_with fail
        have GD := Hd.mk (G3.out.below (Below.drew (Below.refl _ _)))
        have XD := Hd.mk (((Below.drew (Below.refl _ w3)).block _ (Array.getElem?_eq_some_iff.1 X3.out).1).trans X3.out)
        have GM := Hd.mk (gC_md (lv := (.slice (some ad) L.length cl)) (hv := (.slice Ah H.length ch)) GG.out.ml GG.out.tl hN0 hN7 (sget tk N + Am))
        have wz : wrap64 (sget tk N + Am) = sget tk N + Am := by have h1 := G1.out.2.1; have h2 := G1.out.2.2.1; have h3 := HK.out; unfold wrap64; unfold MC at h1; omega
        have z0 := frozen_of G3.out.blk (10 + N.toNat) none
        refine start_ (n := 14) (S := fun w' => w'.cell? ⟨W.heap.size, 1, none⟩ = some (.int .i64 N) ∧ w'.cell? ⟨W.heap.size, 4, none⟩ = some (.int .i64 Am) ∧ w'.cell? ⟨g, 10 + N.toNat, none⟩ = some (.int .i64 (sget tk N))) (ds := [13]) #[false, false, false, false, false, false, false, false, false, false, false, false, false, false] (by kernel_rfl) rfl rfl ⟨cell_of XD.out 1 rfl, cell_of XD.out 4 rfl, cell_of GD.out.blk _ GM.out.2.2.1⟩ (fun hHeld => ?_)
        refine pure_ (i := 0) (N := some 136) (v := ?_) (a' := ?_) #[true, false, false, false, false, false, false, false, false, false, false, false, false, false] rfl rfl (by kernel_rfl) (fun _ _ _ h => h) (Or.inl ⟨by rfl, ?_⟩) ?_ ?_
        rotate_left
        · intro w'
          go_simp
          with_reducible rfl
        rotate_left
        · simp only [Act.put, List.setIfInBounds_toArray, List.set_cons_zero, List.set_cons_succ]
          rfl
        refine pure_ (i := 1) (N := some 137) (v := ?_) (a' := ?_) #[true, true, false, false, false, false, false, false, false, false, false, false, false, false] rfl rfl (by kernel_rfl) (fun _ _ _ h => h) (Or.inl ⟨by rfl, ?_⟩) ?_ ?_
        rotate_left
        · intro w'
          go_simp
          with_reducible rfl
        rotate_left
        · simp only [Act.put, List.setIfInBounds_toArray, List.set_cons_zero, List.set_cons_succ]
          rfl
        refine take_ (i := 2) (N := some 138) (v := ?_) (a' := ?_) #[true, true, true, false, false, false, false, false, false, false, false, false, false, false] rfl rfl (by kernel_rfl) (fun _ _ _ h => h) (Or.inl ⟨by rfl, ?_⟩) hHeld ?_ ?_
        rotate_left
        · rintro w' ⟨s0, s1, s2⟩
          go_simp
          with_reducible rfl
        rotate_left
        · simp only [Act.put, List.setIfInBounds_toArray, List.set_cons_zero, List.set_cons_succ]
          rfl
        refine pure_ (i := 3) (N := some 139) (v := ?_) (a' := ?_) #[true, true, true, true, false, false, false, false, false, false, false, false, false, false] rfl rfl (by kernel_rfl) (fun _ _ _ h => h) (Or.inl ⟨by rfl, ?_⟩) ?_ ?_
        rotate_left
        · intro w'
          go_simp
          with_reducible rfl
        rotate_left
        · simp only [Act.put, List.setIfInBounds_toArray, List.set_cons_zero, List.set_cons_succ]
          rfl
        refine pure_ (i := 4) (N := some 140) (v := ?_) (a' := ?_) #[true, true, true, true, true, false, false, false, false, false, false, false, false, false] rfl rfl (by kernel_rfl) (fun _ _ _ h => h) (Or.inl ⟨by rfl, ?_⟩) ?_ ?_
        rotate_left
        · intro w'
          go_simp
          with_reducible rfl
        rotate_left
        · simp only [Act.put, List.setIfInBounds_toArray, List.set_cons_zero, List.set_cons_succ]
          rfl
        refine pure_ (i := 5) (N := some 141) (v := ?_) (a' := ?_) #[true, true, true, true, true, true, false, false, false, false, false, false, false, false] rfl rfl (by kernel_rfl) (fun _ _ _ h => h) (Or.inl ⟨by rfl, ?_⟩) ?_ ?_
        rotate_left
        · intro w'
          go_simp
          with_reducible rfl
        rotate_left
        · simp only [Act.put, List.setIfInBounds_toArray, List.set_cons_zero, List.set_cons_succ]
          rfl
        refine take_ (i := 6) (N := some 142) (v := ?_) (a' := ?_) #[true, true, true, true, true, true, true, false, false, false, false, false, false, false] rfl rfl (by kernel_rfl) (fun _ _ _ h => h) (Or.inl ⟨by rfl, ?_⟩) hHeld ?_ ?_
        rotate_left
        · rintro w' ⟨s0, s1, s2⟩
          go_simp
          with_reducible rfl
        rotate_left
        · simp only [Act.put, List.setIfInBounds_toArray, List.set_cons_zero, List.set_cons_succ]
          rfl
        refine pure_ (i := 7) (N := some 143) (v := ?_) (a' := ?_) #[true, true, true, true, true, true, true, true, false, false, false, false, false, false] rfl rfl (by kernel_rfl) (fun _ _ _ h => h) (Or.inl ⟨by rfl, ?_⟩) ?_ ?_
        rotate_left
        · intro w'
          go_simp
          with_reducible rfl
        rotate_left
        · simp only [Act.put, List.setIfInBounds_toArray, List.set_cons_zero, List.set_cons_succ]
          rfl
        refine take_ (i := 8) (N := some 144) (v := ?_) (a' := ?_) #[true, true, true, true, true, true, true, true, true, false, false, false, false, false] rfl rfl (by kernel_rfl) (fun _ _ _ h => h) (Or.inl ⟨by rfl, ?_⟩) hHeld ?_ ?_
        rotate_left
        · rintro w' ⟨s0, s1, s2⟩
          go_simp
          with_reducible rfl
        rotate_left
        · simp only [Act.put, List.setIfInBounds_toArray, List.set_cons_zero, List.set_cons_succ]
          rfl
        refine pure_ (i := 9) (N := some 145) (v := ?_) (a' := ?_) #[true, true, true, true, true, true, true, true, true, true, false, false, false, false] rfl rfl (by kernel_rfl) (fun _ _ _ h => h) (Or.inl ⟨by rfl, ?_⟩) ?_ ?_
        rotate_left
        · intro w'
          go_simp
          with_reducible rfl
        rotate_left
        · simp only [Act.put, List.setIfInBounds_toArray, List.set_cons_zero, List.set_cons_succ]
          rfl
        refine pure_ (i := 10) (N := some 146) (v := ?_) (a' := ?_) #[true, true, true, true, true, true, true, true, true, true, true, false, false, false] rfl rfl (by kernel_rfl) (fun _ _ _ h => h) (Or.inl ⟨by rfl, ?_⟩) ?_ ?_
        rotate_left
        · intro w'
          go_simp
          with_reducible rfl
        rotate_left
        · simp only [Act.put, List.setIfInBounds_toArray, List.set_cons_zero, List.set_cons_succ]
          rfl
        refine pure_ (i := 11) (N := some 147) (v := ?_) (a' := ?_) #[true, true, true, true, true, true, true, true, true, true, true, true, false, false] rfl rfl (by kernel_rfl) (fun _ _ _ h => h) (Or.inl ⟨by rfl, ?_⟩) ?_ ?_
        rotate_left
        · intro w'
          go_simp
          with_reducible rfl
        rotate_left
        · simp only [Act.put, List.setIfInBounds_toArray, List.set_cons_zero, List.set_cons_succ]
          rfl
        refine pure_ (i := 12) (N := some 148) (v := ?_) (a' := ?_) #[true, true, true, true, true, true, true, true, true, true, true, true, true, false] rfl rfl (by kernel_rfl) (fun _ _ _ h => h) (Or.inl ⟨by rfl, ?_⟩) ?_ ?_
        rotate_left
        · intro w'
          go_simp
          with_reducible rfl
        rotate_left
        · simp only [Act.put, List.setIfInBounds_toArray, List.set_cons_zero, List.set_cons_succ]
          rfl
        refine last_ (i := 13) (N := none) #[true, true, true, true, true, true, true, true, true, true, true, true, true, true] rfl rfl (by kernel_rfl) (by decide) (fun K hK => ?_)
        refine skip_ (w1 := ?_) (by rfl) rfl ?_ ?_
        rotate_left
        · go_simp
          rfl
        refine hK.out _ _ ?_
        clear hK K
        refine done_ (by kernel_rfl) ?_
        have WZ := Hd.mk (show IntKind.i64.wrap (sget tk N + Am) = sget tk N + Am from (i64_w _).trans wz)
        have GE := Hd.mk ((G3.out.store (i := 10 + N.toNat) (v := .int .i64 (sget tk N + Am)) GM.out.2.2.2 G3.out.l G3.out.h GG.out.ml (by rw [List.length_set]; exact GG.out.tl)).below (Below.drew (Below.refl _ _)))
        go_wp2_with fail
        go_meet
        exact ⟨_, _, _, ⟨⟨⟨_, by rw [WZ.out]; exact GE.out⟩, G1.out.2.2.2, .other _ (by decide) rfl (add_tags (GG.out.rt HI.out) (addOk_take (GG.out.o8 HI.out) N))⟩⟩⟩
      · have hz : ¬ (addE (S i) i ⟨N, i, -1⟩ Am true true = 0) := he
        go_wp2_with fail
        with_reducible refine C.out.mono ?_
        rintro e w3 ⟨rfl, hl⟩
        have G3 := Hd.mk (GA.out.after HI.out hl)
        clear hl C
        go_wp2_with fail
        go_meet
        exact ⟨_, md, tk, ⟨⟨⟨_, G3.out⟩, GG.out.take0 HI.out N Am he, .other _ (by decide) rfl (add_tags (GG.out.rt HI.out) (addOk_take (GG.out.o8 HI.out) N))⟩⟩⟩
    · have hk10 : (kd : Int) % 10 = 7 := K10.out
      have HL := Hd.mk (show 0 < H.length by have h1 := GG.out.len; have h2 := HN.out; omega)
      have GD := Hd.mk (GA.out.below (Below.drew (Below.refl _ _)))
      have hne : ¬ H = [] := by intro e; have h1 := HL.out; rw [e] at h1; simp at h1
      have JJ := Hd.mk (show st % H.length < H.length from Nat.mod_lt _ HL.out)
      have TM2 := Hd.mk (show (st : Int).tmod (H.length : Int) = ((st % H.length : Nat) : Int) from rfl)
      generalize st % H.length = j at *
      have hjl : (j : Int) < (H.length : Int) := by have := JJ.out; omega
      have tm2 := TM2.out
      have wz : IntKind.i64.wrap (st : Int) = (st : Int) := (i64_w _).trans (by unfold wrap64; have := HB.out; omega)
      have q0 : wA.drew.cell? ⟨g, 1, none⟩ = some (.slice Ah H.length ch) := cell_of GD.out.blk 1 rfl
      have q1 : wA.drew.cell? ⟨w.heap.size, 1, none⟩ = some (.int .u16 st) := cell_of (((Below.drew (Below.refl _ wA)).block _ (Array.getElem?_eq_some_iff.1 XS.out).1).trans XS.out) 1 rfl
      obtain ⟨adh, B0, e0, B1, e1, B2, e2, B3, e3, B4, e4, hAh, y0, y1, y2, y3, y4, l0, g0, l1, g1, l2, g2, l3, g3, l4, g4⟩ := at_T28 (Kd.R_reads' GD.out.h).2.2 (j : Int) (by omega) hjl
      subst hAh
      have YH := Hd.mk (show rd_T28 H (j : Int) ∈ H by
        show H.getD (j : Int).toNat z28 ∈ H
        rw [Int.toNat_natCast, List.getD_eq_getElem?_getD, List.getElem?_eq_getElem JJ.out]
        exact List.getElem_mem _)
      simp only [Int.toNat_natCast] at y0 y1 y2 y3 y4
      generalize rd_T28 H (j : Int) = Y at *
      have RY := GG.out.sys.rt Y YH.out
      have RS := Hd.mk ((GD.out.many.rep i HI.out).sync B0 B1 B2 B3 B4 e0 e1 e2 e3 e4 Y ⟨g0, g1, g2, g3, g4, l0, l1, l2, l3, l4, RY.fit.n0, RY.fit.n1, RY.fit.n2, RY.fit.n34⟩ RY.ok)
      have SE := GG.out.sys.syncE (GG.out.sys.own i HI.out) YH.out
      unfold stV at RS
      clear l0 l1 l2 l3 l4 g0 g1 g2 g3 g4 RY
      go_wp2_with fail
      rcases SE with he | he
      · have C := Hd.mk (RS.out.mono fun e w3 hh => (show e = Ending.returned (.int .i64 0) ∧ Left wA.drew w3 (r i) (i : Int) (aSync (S i) Y) (F i) from ⟨by rw [hh.1, he], hh.2⟩))
        clear he RS
        refine wp_region_still_tail 16 (by kernel_rfl) (by kernel_rfl) ?_
        change wpStill _ _ (World.drew _) _ _ _
        simp only [List.take_succ_cons, List.take_zero, List.drop_succ_cons, List.drop_zero]
        repeat still_step
        refine wpStill_nil ?_
        change wpList _ _ _ _ _ (World.drew _)
        go_wp2_with fail
        with_reducible refine C.out.mono ?_
        rintro e w3 ⟨rfl, hl⟩
        have G3 := Hd.mk (GD.out.after HI.out hl)
        clear hl C
        go_wp2_with fail
        go_meet
        exact ⟨_, md, tk, ⟨⟨⟨_, G3.out⟩, GG.out.sync HI.out YH.out, .sync _ (by decide) YH.out⟩⟩⟩
      · have C := Hd.mk (RS.out.mono fun e w3 hh => (show e = Ending.returned (.int .i64 8) ∧ Left wA.drew w3 (r i) (i : Int) (aSync (S i) Y) (F i) from ⟨by rw [hh.1, he], hh.2⟩))
        clear he RS
        refine wp_region_still_tail 16 (by kernel_rfl) (by kernel_rfl) ?_
        change wpStill _ _ (World.drew _) _ _ _
        simp only [List.take_succ_cons, List.take_zero, List.drop_succ_cons, List.drop_zero]
        repeat still_step
        refine wpStill_nil ?_
        change wpList _ _ _ _ _ (World.drew _)
        go_wp2_with fail
        with_reducible refine C.out.mono ?_
        rintro e w3 ⟨rfl, hl⟩
        have G3 := Hd.mk (GD.out.after HI.out hl)
        clear hl C
        go_wp2_with fail
        go_meet
        exact ⟨_, md, tk, ⟨⟨⟨_, G3.out⟩, GG.out.sync HI.out YH.out, .sync _ (by decide) YH.out⟩⟩⟩
    · have hk10 : (kd : Int) % 10 = 8 := K10.out
      have HL := Hd.mk (show 0 < H.length by have h1 := GG.out.len; have h2 := HN.out; omega)
      have GD := Hd.mk (GA.out.below (Below.drew (Below.refl _ _)))
      have hne : ¬ H = [] := by intro e; have h1 := HL.out; rw [e] at h1; simp at h1
      have JJ := Hd.mk (show st % H.length < H.length from Nat.mod_lt _ HL.out)
      have TM2 := Hd.mk (show (st : Int).tmod (H.length : Int) = ((st % H.length : Nat) : Int) from rfl)
      generalize st % H.length = j at *
      have hjl : (j : Int) < (H.length : Int) := by have := JJ.out; omega
      have tm2 := TM2.out
      have wz : IntKind.i64.wrap (st : Int) = (st : Int) := (i64_w _).trans (by unfold wrap64; have := HB.out; omega)
      have q0 : wA.drew.cell? ⟨g, 1, none⟩ = some (.slice Ah H.length ch) := cell_of GD.out.blk 1 rfl
      have q1 : wA.drew.cell? ⟨w.heap.size, 1, none⟩ = some (.int .u16 st) := cell_of (((Below.drew (Below.refl _ wA)).block _ (Array.getElem?_eq_some_iff.1 XS.out).1).trans XS.out) 1 rfl
      obtain ⟨adh, B0, e0, B1, e1, B2, e2, B3, e3, B4, e4, hAh, y0, y1, y2, y3, y4, l0, g0, l1, g1, l2, g2, l3, g3, l4, g4⟩ := at_T28 (Kd.R_reads' GD.out.h).2.2 (j : Int) (by omega) hjl
      subst hAh
      have YH := Hd.mk (show rd_T28 H (j : Int) ∈ H by
        show H.getD (j : Int).toNat z28 ∈ H
        rw [Int.toNat_natCast, List.getD_eq_getElem?_getD, List.getElem?_eq_getElem JJ.out]
        exact List.getElem_mem _)
      simp only [Int.toNat_natCast] at y0 y1 y2 y3 y4
      generalize rd_T28 H (j : Int) = Y at *
      have RY := GG.out.sys.rt Y YH.out
      have RS := Hd.mk ((GD.out.many.rep i HI.out).sync B0 B1 B2 B3 B4 e0 e1 e2 e3 e4 Y ⟨g0, g1, g2, g3, g4, l0, l1, l2, l3, l4, RY.fit.n0, RY.fit.n1, RY.fit.n2, RY.fit.n34⟩ RY.ok)
      have SE := GG.out.sys.syncE (GG.out.sys.own i HI.out) YH.out
      unfold stV at RS
      clear l0 l1 l2 l3 l4 g0 g1 g2 g3 g4 RY
      go_wp2_with fail
      rcases SE with he | he
      · have C := Hd.mk (RS.out.mono fun e w3 hh => (show e = Ending.returned (.int .i64 0) ∧ Left wA.drew w3 (r i) (i : Int) (aSync (S i) Y) (F i) from ⟨by rw [hh.1, he], hh.2⟩))
        clear he RS
        refine wp_region_still_tail 16 (by kernel_rfl) (by kernel_rfl) ?_
        change wpStill _ _ (World.drew _) _ _ _
        simp only [List.take_succ_cons, List.take_zero, List.drop_succ_cons, List.drop_zero]
        repeat still_step
        refine wpStill_nil ?_
        change wpList _ _ _ _ _ (World.drew _)
        go_wp2_with fail
        with_reducible refine C.out.mono ?_
        rintro e w3 ⟨rfl, hl⟩
        have G3 := Hd.mk (GD.out.after HI.out hl)
        clear hl C
        go_wp2_with fail
        go_meet
        exact ⟨_, md, tk, ⟨⟨⟨_, G3.out⟩, GG.out.sync HI.out YH.out, .sync _ (by decide) YH.out⟩⟩⟩
      · have C := Hd.mk (RS.out.mono fun e w3 hh => (show e = Ending.returned (.int .i64 8) ∧ Left wA.drew w3 (r i) (i : Int) (aSync (S i) Y) (F i) from ⟨by rw [hh.1, he], hh.2⟩))
        clear he RS
        refine wp_region_still_tail 16 (by kernel_rfl) (by kernel_rfl) ?_
        change wpStill _ _ (World.drew _) _ _ _
        simp only [List.take_succ_cons, List.take_zero, List.drop_succ_cons, List.drop_zero]
        repeat still_step
        refine wpStill_nil ?_
        change wpList _ _ _ _ _ (World.drew _)
        go_wp2_with fail
        with_reducible refine C.out.mono ?_
        rintro e w3 ⟨rfl, hl⟩
        have G3 := Hd.mk (GD.out.after HI.out hl)
        clear hl C
        go_wp2_with fail
        go_meet
        exact ⟨_, md, tk, ⟨⟨⟨_, G3.out⟩, GG.out.sync HI.out YH.out, .sync _ (by decide) YH.out⟩⟩⟩
    · have hk10 : (kd : Int) % 10 = 9 := K10.out
      have HL := Hd.mk (show 0 < H.length by have h1 := GG.out.len; have h2 := HN.out; omega)
      have GD := Hd.mk (GA.out.below (Below.drew (Below.refl _ _)))
      have hne : ¬ H = [] := by intro e; have h1 := HL.out; rw [e] at h1; simp at h1
      have JJ := Hd.mk (show st % H.length < H.length from Nat.mod_lt _ HL.out)
      have TM2 := Hd.mk (show (st : Int).tmod (H.length : Int) = ((st % H.length : Nat) : Int) from rfl)
      generalize st % H.length = j at *
      have hjl : (j : Int) < (H.length : Int) := by have := JJ.out; omega
      have tm2 := TM2.out
      have wz : IntKind.i64.wrap (st : Int) = (st : Int) := (i64_w _).trans (by unfold wrap64; have := HB.out; omega)
      have q0 : wA.drew.cell? ⟨g, 1, none⟩ = some (.slice Ah H.length ch) := cell_of GD.out.blk 1 rfl
      have q1 : wA.drew.cell? ⟨w.heap.size, 1, none⟩ = some (.int .u16 st) := cell_of (((Below.drew (Below.refl _ wA)).block _ (Array.getElem?_eq_some_iff.1 XS.out).1).trans XS.out) 1 rfl
      obtain ⟨adh, B0, e0, B1, e1, B2, e2, B3, e3, B4, e4, hAh, y0, y1, y2, y3, y4, l0, g0, l1, g1, l2, g2, l3, g3, l4, g4⟩ := at_T28 (Kd.R_reads' GD.out.h).2.2 (j : Int) (by omega) hjl
      subst hAh
      have YH := Hd.mk (show rd_T28 H (j : Int) ∈ H by
        show H.getD (j : Int).toNat z28 ∈ H
        rw [Int.toNat_natCast, List.getD_eq_getElem?_getD, List.getElem?_eq_getElem JJ.out]
        exact List.getElem_mem _)
      simp only [Int.toNat_natCast] at y0 y1 y2 y3 y4
      generalize rd_T28 H (j : Int) = Y at *
      have RY := GG.out.sys.rt Y YH.out
      have RS := Hd.mk ((GD.out.many.rep i HI.out).sync B0 B1 B2 B3 B4 e0 e1 e2 e3 e4 Y ⟨g0, g1, g2, g3, g4, l0, l1, l2, l3, l4, RY.fit.n0, RY.fit.n1, RY.fit.n2, RY.fit.n34⟩ RY.ok)
      have SE := GG.out.sys.syncE (GG.out.sys.own i HI.out) YH.out
      unfold stV at RS
      clear l0 l1 l2 l3 l4 g0 g1 g2 g3 g4 RY
      go_wp2_with fail
      rcases SE with he | he
      · have C := Hd.mk (RS.out.mono fun e w3 hh => (show e = Ending.returned (.int .i64 0) ∧ Left wA.drew w3 (r i) (i : Int) (aSync (S i) Y) (F i) from ⟨by rw [hh.1, he], hh.2⟩))
        clear he RS
        refine wp_region_still_tail 16 (by kernel_rfl) (by kernel_rfl) ?_
        change wpStill _ _ (World.drew _) _ _ _
        simp only [List.take_succ_cons, List.take_zero, List.drop_succ_cons, List.drop_zero]
        repeat still_step
        refine wpStill_nil ?_
        change wpList _ _ _ _ _ (World.drew _)
        go_wp2_with fail
        with_reducible refine C.out.mono ?_
        rintro e w3 ⟨rfl, hl⟩
        have G3 := Hd.mk (GD.out.after HI.out hl)
        clear hl C
        go_wp2_with fail
        go_meet
        exact ⟨_, md, tk, ⟨⟨⟨_, G3.out⟩, GG.out.sync HI.out YH.out, .sync _ (by decide) YH.out⟩⟩⟩
      · have C := Hd.mk (RS.out.mono fun e w3 hh => (show e = Ending.returned (.int .i64 8) ∧ Left wA.drew w3 (r i) (i : Int) (aSync (S i) Y) (F i) from ⟨by rw [hh.1, he], hh.2⟩))
        clear he RS
        refine wp_region_still_tail 16 (by kernel_rfl) (by kernel_rfl) ?_
        change wpStill _ _ (World.drew _) _ _ _
        simp only [List.take_succ_cons, List.take_zero, List.drop_succ_cons, List.drop_zero]
        repeat still_step
        refine wpStill_nil ?_
        change wpList _ _ _ _ _ (World.drew _)
        go_wp2_with fail
        with_reducible refine C.out.mono ?_
        rintro e w3 ⟨rfl, hl⟩
        have G3 := Hd.mk (GD.out.after HI.out hl)
        clear hl C
        go_wp2_with fail
        go_meet
        exact ⟨_, md, tk, ⟨⟨⟨_, G3.out⟩, GG.out.sync HI.out YH.out, .sync _ (by decide) YH.out⟩⟩⟩
  case rest =>
  clear q0 q1 q2 q3 q4 q5 q6 q7 q8 q9 hk10
  obtain ⟨S1, md1, tk1, M⟩ := hcut
  obtain ⟨F1, gx1⟩ := M.out.ex
  have GC := Hd.mk gx1
  have ST := (gx1.many.rep i HI.out).state
  simp only [updN, if_true] at ST
  have ST := Hd.mk ST
  clear gx1 GW XW
  have hz := Tryz.zeroValue28
  go_wp2_with fail
  with_reducible refine ST.out.mono ?_
  rintro e w5 ⟨v0, v1, v2, v3, v4, rfl, hs, hb⟩
  have G5 := Hd.mk (GC.out.below hb)
  have R5 := Hd.mk hs
  have B5 := Hd.mk hb
  obtain ⟨C0, d0, C1, d1, C2, d2, C3, d3, C4, d4, rfl, rfl, rfl, rfl, rfl, _⟩ := StR.sk hs
  have OK := Hd.mk (And.intro GC.out.okp GC.out.okl)
  have GC0 := Hd.mk GC.out.base.size
  clear hs hb ST GC
  go_wp2_with fail
  obtain ⟨wN, hwN⟩ : ∃ wN, wN = w5.alloc (.cells #[.slice C0 S1.f0.length d0, .slice C1 S1.f1.length d1, .slice C2 S1.f2.length d2, .slice C3 S1.f3.length d3, .slice C4 S1.f4.length d4] 28) := ⟨_, rfl⟩
  have GN := Hd.mk (show GrpK w0 wN g n r (updN S i S1) F1 L H md1 tk1 (.slice (some ad) L.length cl) (.slice Ah H.length ch) by rw [hwN]; exact G5.out.below (below_alloc (Below.refl _ _) _))
  have RN := Hd.mk (show StR wc.heap.size wN (.slice C0 S1.f0.length d0) (.slice C1 S1.f1.length d1) (.slice C2 S1.f2.length d2) (.slice C3 S1.f3.length d3) (.slice C4 S1.f4.length d4) S1 by rw [hwN]; exact R5.out.below (below_alloc (Below.refl _ _) _))
  have BN := Hd.mk (show wN.heap[w5.heap.size]? = some (Obj.cells #[.slice C0 S1.f0.length d0, .slice C1 S1.f1.length d1, .slice C2 S1.f2.length d2, .slice C3 S1.f3.length d3, .slice C4 S1.f4.length d4] 28 (0, 0)) by rw [hwN]; exact alloc_at _ _ _ rfl)
  have SN := Hd.mk (show wc.heap.size ≤ w5.heap.size ∧ wc.heap.size ≤ wN.heap.size from ⟨B5.out.size, by rw [hwN]; exact Nat.le_trans B5.out.size (by simp)⟩)
  rw [← hwN]
  clear hwN G5 R5 B5
  have GD := Hd.mk (GN.out.below (Below.drew (Below.refl _ _)))
  have BD := Hd.mk (((Below.drew (Below.refl _ wN)).block _ (Array.getElem?_eq_some_iff.1 BN.out).1).trans BN.out)
  have RD := Hd.mk (RN.out.below (Below.drew (Below.refl _ _)))
  clear GN RN
  refine start_ (n := 11) (S := fun w' => w'.cell? ⟨g, 1, none⟩ = some (.slice Ah H.length ch) ∧ w'.cell? ⟨w5.heap.size, 0, none⟩ = some (.slice C0 S1.f0.length d0) ∧ w'.cell? ⟨w5.heap.size, 1, none⟩ = some (.slice C1 S1.f1.length d1) ∧ w'.cell? ⟨w5.heap.size, 2, none⟩ = some (.slice C2 S1.f2.length d2) ∧ w'.cell? ⟨w5.heap.size, 3, none⟩ = some (.slice C3 S1.f3.length d3) ∧ w'.cell? ⟨w5.heap.size, 4, none⟩ = some (.slice C4 S1.f4.length d4)) (ds := [10]) #[false, false, false, false, false, false, false, false, false, false, false] (by kernel_rfl) rfl rfl ⟨cell_of GD.out.blk 1 rfl, cell_of BD.out 0 rfl, cell_of BD.out 1 rfl, cell_of BD.out 2 rfl, cell_of BD.out 3 rfl, cell_of BD.out 4 rfl⟩ (fun hHeld => ?_)
  refine pure_ (i := 0) (N := some 151) (v := ?_) (a' := ?_) #[true, false, false, false, false, false, false, false, false, false, false] rfl rfl (by kernel_rfl) (fun _ _ _ h => h) (Or.inl ⟨by rfl, ?_⟩) ?_ ?_
  rotate_left
  · intro w'
    go_simp
    with_reducible rfl
  rotate_left
  · simp only [Act.put, List.setIfInBounds_toArray, List.set_cons_zero, List.set_cons_succ]
    rfl
  refine pure_ (i := 1) (N := some 152) (v := ?_) (a' := ?_) #[true, true, false, false, false, false, false, false, false, false, false] rfl rfl (by kernel_rfl) (fun _ _ _ h => h) (Or.inl ⟨by rfl, ?_⟩) ?_ ?_
  rotate_left
  · intro w'
    go_simp
    with_reducible rfl
  rotate_left
  · simp only [Act.put, List.setIfInBounds_toArray, List.set_cons_zero, List.set_cons_succ]
    rfl
  refine pure_ (i := 2) (N := some 153) (v := ?_) (a' := ?_) #[true, true, true, false, false, false, false, false, false, false, false] rfl rfl (by kernel_rfl) (fun _ _ _ h => h) (Or.inl ⟨by rfl, ?_⟩) ?_ ?_
  rotate_left
  · intro w'
    go_simp
    with_reducible rfl
  rotate_left
  · simp only [Act.put, List.setIfInBounds_toArray, List.set_cons_zero, List.set_cons_succ]
    rfl
  refine pure_ (i := 3) (N := some 154) (v := ?_) (a' := ?_) #[true, true, true, true, false, false, false, false, false, false, false] rfl rfl (by kernel_rfl) (fun _ _ _ h => h) (Or.inl ⟨by rfl, ?_⟩) ?_ ?_
  rotate_left
  · intro w'
    go_simp
    with_reducible rfl
  rotate_left
  · simp only [Act.put, List.setIfInBounds_toArray, List.set_cons_zero, List.set_cons_succ]
    rfl
  refine take_ (i := 4) (N := some 155) (v := ?_) (a' := ?_) #[true, true, true, true, true, false, false, false, false, false, false] rfl rfl (by kernel_rfl) (fun _ _ _ h => h) (Or.inl ⟨by rfl, ?_⟩) hHeld ?_ ?_
  rotate_left
  · rintro w' ⟨s0, s1, s2, s3, s4, s5⟩
    go_simp
    with_reducible rfl
  rotate_left
  · simp only [Act.put, List.setIfInBounds_toArray, List.set_cons_zero, List.set_cons_succ]
    rfl
  refine take_ (i := 5) (N := some 156) (v := ?_) (a' := ?_) #[true, true, true, true, true, true, false, false, false, false, false] rfl rfl (by kernel_rfl) (fun _ _ _ h => h) (Or.inl ⟨by rfl, ?_⟩) hHeld ?_ ?_
  rotate_left
  · rintro w' ⟨s0, s1, s2, s3, s4, s5⟩
    go_simp
    with_reducible rfl
  rotate_left
  · simp only [Act.put, List.setIfInBounds_toArray, List.set_cons_zero, List.set_cons_succ]
    rfl
  refine one_ (i := 6) (N := some 157) #[true, true, true, true, true, true, true, false, false, false, false] rfl rfl (by kernel_rfl) (by decide) (fun K hK => ?_)
  go_simp
  have GA := Hd.mk (GD.out.below (below_alloc (Below.refl _ _) (.cells #[.slice C0 S1.f0.length d0, .slice C1 S1.f1.length d1, .slice C2 S1.f2.length d2, .slice C3 S1.f3.length d3, .slice C4 S1.f4.length d4] 28)))
  have BA := Hd.mk (((below_alloc (Below.refl _ wN.drew) (.cells #[.slice C0 S1.f0.length d0, .slice C1 S1.f1.length d1, .slice C2 S1.f2.length d2, .slice C3 S1.f3.length d3, .slice C4 S1.f4.length d4] 28)).block _ (Array.getElem?_eq_some_iff.1 BD.out).1).trans BD.out)
  have RA := Hd.mk (RD.out.below (below_alloc (Below.refl _ _) (.cells #[.slice C0 S1.f0.length d0, .slice C1 S1.f1.length d1, .slice C2 S1.f2.length d2, .slice C3 S1.f3.length d3, .slice C4 S1.f4.length d4] 28)))
  refine hK.out _ _ ⟨cell_of GA.out.blk 1 rfl, cell_of BA.out 0 rfl, cell_of BA.out 1 rfl, cell_of BA.out 2 rfl, cell_of BA.out 3 rfl, cell_of BA.out 4 rfl⟩ (fun hHeld => ?_)
  clear hK K
  refine one_ (i := 7) (N := some 158) #[true, true, true, true, true, true, true, true, false, false, false] rfl rfl (by kernel_rfl) (by decide) (fun K hK => ?_)
  have S73 := Hd.mk (show wc.heap.size ≤ (wN.drew.alloc (.cells #[.slice C0 S1.f0.length d0, .slice C1 S1.f1.length d1, .slice C2 S1.f2.length d2, .slice C3 S1.f3.length d3, .slice C4 S1.f4.length d4] 28)).heap.size from Nat.le_trans (show wc.heap.size ≤ wN.drew.heap.size from SN.out.2) (by simp))
  refine step_R_append k28 (W := wN.drew.alloc (.cells #[.slice C0 S1.f0.length d0, .slice C1 S1.f1.length d1, .slice C2 S1.f2.length d2, .slice C3 S1.f3.length d3, .slice C4 S1.f4.length d4] 28)) w0.w.heap.size rfl (.tmp 155) (.tmp 157) 63 28 (.agg #[.slice none 0 0, .slice none 0 0, .slice none 0 0, .slice none 0 0, .slice none 0 0]) 120 rfl Tryz.underlying63 info28 rfl (by decide) (by omega) (.slice Ah H.length ch) H S1 [.slice C0 S1.f0.length d0, .slice C1 S1.f1.length d1, .slice C2 S1.f2.length d2, .slice C3 S1.f3.length d3, .slice C4 S1.f4.length d4] wN.heap.size (fun x => ((∀ j, j < n → ¬ F1 j x) ∧ ¬ w0.K x) ∧ some x ≠ (Value.slice (some ad) L.length cl).ownBlock) (fun k => wc.heap.size ≤ k) rfl (by first | rfl | (simp; rfl)) (alloc_at _ _ _ rfl) ?aP ?aO ?aF ?aR ?aS ?aL ?_
  case aP => exact RA.out.m (Nat.le_trans GC0.out (Nat.le_refl _))
  case aO => exact fun k hk => ⟨⟨(OK.out.1 k hk).1, OK.out.2 k hk⟩, (OK.out.1 k hk).2⟩
  case aF => exact fun k hk => ⟨(OK.out.1 k (Nat.le_trans S73.out hk)).1, OK.out.2 k (Nat.le_trans S73.out hk)⟩
  case aR => exact GA.out.lh
  case aS => exact GA.out.base.size
  case aL => have h1 := GG.out.len; have h2 := HK.out; have h3 := GG.out.n5; omega
  intro g8 cap8 w8 hR8 hg8 hat8 hlt8
  have RH := Hd.mk hR8
  have GH := Hd.mk hg8
  have b8 := (hg8.block _ GA.out.lt GA.out.gh).trans GA.out.blk
  have z8 := frozen_of b8 1 none
  have B8 := Hd.mk ((hg8.block _ (Array.getElem?_eq_some_iff.1 BA.out).1 (fun e => (OK.out.1 _ SN.out.1).2 e)).trans BA.out)
  have R8 := Hd.mk (RA.out.keep (W' := w8) fun q hq k cells hc => hg8.block k (Array.getElem?_eq_some_iff.1 hc).1 (Kd.R_ne GA.out.h hc (by rcases hq with rfl | rfl | rfl | rfl | rfl <;> decide)))
  clear hR8 hg8 hat8 hlt8
  refine hK.out _ _ ⟨cell_of b8 1 rfl, cell_of B8.out 0 rfl, cell_of B8.out 1 rfl, cell_of B8.out 2 rfl, cell_of B8.out 3 rfl, cell_of B8.out 4 rfl⟩ (fun hHeld => ?_)
  have G8 := Hd.mk b8
  clear b8
  clear hK K
  refine norm_ (a' := ?_) ?_ ?_
  rotate_left
  · show Act.put _ (some 158) _ = _
    simp only [Act.put, List.setIfInBounds_toArray, List.set_cons_zero, List.set_cons_succ]
    rfl
  refine pure_ (i := 8) (N := some 159) (v := ?_) (a' := ?_) #[true, true, true, true, true, true, true, true, true, false, false] rfl rfl (by kernel_rfl) (fun _ _ _ h => h) (Or.inl ⟨by rfl, ?_⟩) ?_ ?_
  rotate_left
  · intro w'
    go_simp
    with_reducible rfl
  rotate_left
  · simp only [Act.put, List.setIfInBounds_toArray, List.set_cons_zero, List.set_cons_succ]
    rfl
  refine pure_ (i := 9) (N := some 160) (v := ?_) (a' := ?_) #[true, true, true, true, true, true, true, true, true, true, false] rfl rfl (by kernel_rfl) (fun _ _ _ h => h) (Or.inl ⟨by rfl, ?_⟩) ?_ ?_
  rotate_left
  · intro w'
    go_simp
    with_reducible rfl
  rotate_left
  · simp only [Act.put, List.setIfInBounds_toArray, List.set_cons_zero, List.set_cons_succ]
    rfl
  refine last_ (i := 10) (N := none) #[true, true, true, true, true, true, true, true, true, true, true] rfl rfl (by kernel_rfl) (by decide) (fun K hK => ?_)
  refine skip_ (w1 := ?_) (by rfl) rfl ?_ ?_
  rotate_left
  · go_simp
    rfl
  refine hK.out _ _ ?_
  clear hK K
  refine done_ (by kernel_rfl) ?_
  have GE := Hd.mk (GA.out.setH GH.out (Kd.R_mono RH.out fun k hk => hk.1))
  generalize hwE0 : w8.setCell ⟨g, 1, none⟩ (.slice (some ⟨g8, 0, none⟩) (H.length + 1) cap8) = wE at GE ⊢
  have hwE := hwE0.symm
  clear hwE0
  have BE := Hd.mk (show wE.heap[w5.heap.size]? = some (Obj.cells #[.slice C0 S1.f0.length d0, .slice C1 S1.f1.length d1, .slice C2 S1.f2.length d2, .slice C3 S1.f3.length d3, .slice C4 S1.f4.length d4] 28 (0, 0)) by rw [hwE, Below.heap_setCell w8 _ _ _ (ty_ne B8.out G8.out (by decide))]; exact B8.out)
  have RE := Hd.mk (R8.out.keep (W' := wE) fun q hq k cells hc => by
    rw [hwE]
    refine Below.heap_setCell w8 _ _ _ (ty_ne hc G8.out (by rcases hq with rfl | rfl | rfl | rfl | rfl <;> decide)))
  have RV := Hd.mk (right_v (RE.out.sv (M.out.gi.sys.rt _ (by simp))))
  rw [rtB_iff.2 (M.out.gi.sys.rt S1 (by simp))] at RV
  clear hwE
  have p0 := cell_of BE.out 0 rfl
  have p1 := cell_of BE.out 1 rfl
  have p2 := cell_of BE.out 2 rfl
  have p3 := cell_of BE.out 3 rfl
  have p4 := cell_of BE.out 4 rfl
  go_wp2_with fail
  with_reducible refine RV.out.mono ?_
  rintro e w9 ⟨rfl, hb⟩
  have GF := Hd.mk (GE.out.below hb)
  clear hb
  go_wp2_with fail
  go_ret
  exact ⟨S1, md1, tk1, rfl, ⟨_, _, _, by rw [← LL.out]; exact GF.out⟩, M.out.gi, M.out.act⟩
end Go.Proofs.YtmeaeapopfcmbaaGreat
