/- ReplicaStays's walk. No conditions. -/
import Derived.Test.YtmeaeapopfcmbaaGreatK50
import Derived.Test.YtmeaeapopfcmbaaGreatP13
import Derived.Deep.CutBlock
namespace Go.Proofs.YtmeaeapopfcmbaaGreat
open Go.RowKit Go.Proofs.YtmeaeapopfcmbaaGreatW.PrintWords Go.Proofs.YtmeaeapopfcmbaaGreatW.PrintLast Go.Proofs.YtmeaeapopfcmbaaGreatW.PrintMore PP
set_option linter.unusedVariables false
set_option linter.unusedSimpArgs false
set_option maxHeartbeats 4000000
set_option maxRecDepth 100000
/-- Five lists of a state, all in blocks that are ok. -/
structure StO (ok : Nat → Prop) (base : Nat) (W : World) (v0 v1 v2 v3 v4 : Value) (S : S28) : Prop where
  r0 : Kd.R (Kd.int .i64) 3 W base ok v0 S.f0
  r1 : Kd.R k99 99 W base ok v1 S.f1
  r2 : Kd.R k102 102 W base ok v2 S.f2
  r3 : Kd.R k108 108 W base ok v3 S.f3
  r4 : Kd.R k111 111 W base ok v4 S.f4
section
variable {ok ok' : Nat → Prop} {base : Nat} {W W' : World} {v0 v1 v2 v3 v4 : Value} {S : S28}
theorem StO.r (h : StO ok base W v0 v1 v2 v3 v4 S) : StR base W v0 v1 v2 v3 v4 S := ⟨Kd.R_mono h.r0 fun _ _ => trivial, Kd.R_mono h.r1 fun _ _ => trivial, Kd.R_mono h.r2 fun _ _ => trivial, Kd.R_mono h.r3 fun _ _ => trivial, Kd.R_mono h.r4 fun _ _ => trivial⟩
theorem StO.step (h : StO ok base W v0 v1 v2 v3 v4 S) (hm : ∀ k, ok k → W'.heap[k]? = W.heap[k]?) : StO ok base W' v0 v1 v2 v3 v4 S :=
  ⟨Kd.R_move h.r0 hm, Kd.R_move h.r1 hm, Kd.R_move h.r2 hm, Kd.R_move h.r3 hm, Kd.R_move h.r4 hm⟩
theorem StO.mono (h : StO ok base W v0 v1 v2 v3 v4 S) (hm : ∀ k, ok k → ok' k) : StO ok' base W v0 v1 v2 v3 v4 S :=
  ⟨Kd.R_mono h.r0 hm, Kd.R_mono h.r1 hm, Kd.R_mono h.r2 hm, Kd.R_mono h.r3 hm, Kd.R_mono h.r4 hm⟩
theorem StR.o (h : StR base W v0 v1 v2 v3 v4 S) : StO (fun k => base ≤ k ∧ k < W.heap.size) base W v0 v1 v2 v3 v4 S :=
  ⟨Kd.R_mono (Kd.R_bound h.r0) fun k hk => ⟨hk.2.1, hk.2.2.1⟩, Kd.R_mono (Kd.R_bound h.r1) fun k hk => ⟨hk.2.1, hk.2.2.1⟩, Kd.R_mono (Kd.R_bound h.r2) fun k hk => ⟨hk.2.1, hk.2.2.1⟩, Kd.R_mono (Kd.R_bound h.r3) fun k hk => ⟨hk.2.1, hk.2.2.1⟩, Kd.R_mono (Kd.R_bound h.r4) fun k hk => ⟨hk.2.1, hk.2.2.1⟩⟩
theorem StO.lower {b : Nat} (h : StO ok base W v0 v1 v2 v3 v4 S) (hb : b ≤ base) : StO ok b W v0 v1 v2 v3 v4 S :=
  ⟨Kd.R_lower h.r0 hb, Kd.R_lower h.r1 hb, Kd.R_lower h.r2 hb, Kd.R_lower h.r3 hb, Kd.R_lower h.r4 hb⟩
end
/-- The cells of a tag. -/
def tagC (t : S99) : Array Value := #[.int .i64 t.f0, .string t.f1, .int .i64 t.f2.f0, .int .i64 t.f2.f1]
theorem Stay.iff {n : Nat} {S : Nat → S28} {P Q : S28 → Prop} {t : S99} {M : S28} (h : Stay n S P t M) (hP : ∀ X, P X ↔ Q X) : Stay n S Q t M := ⟨fun X hX => h.kept X ((hP X).2 hX), h.w, (hP M).1 h.mine, h.seen⟩
theorem mem_snoc (H : List S28) (S1 X : S28) : (X ∈ H ∨ X = S1) ↔ X ∈ H ++ [S1] := by simp
/-- A step, where the tag is not dropped and not put anew by one that has it. -/
theorem Stay.act {n k : Nat} {S : Nat → S28} {H : List S28} {md tk : List Int} {t : S99} {M S1 : S28} (h : Stay n S (fun X => X ∈ H) t M) (gi : GI n k S H md tk) {i : Nat} (hi : i < n) {c N : Int} {tx : ByteArray} (ha : Act1 i (S i) H c N tx S1) (hn : ¬ (c ≤ 2 ∧ N = t.f0 ∧ tx = t.f1 ∧ t ∈ (S i).f1)) : Stay n (updN S i S1) (fun X => X ∈ H ++ [S1]) t M := by
  have rS := gi.rt hi
  cases ha with
  | put hc =>
    refine (h.put gi.sys hi fun e => hn ⟨by omega, e.1.symm, e.2.1.symm, (holds_iff rS).2 e.2.2⟩).iff (mem_snoc H _)
  | drop hc =>
    refine (h.drop gi.sys hi fun e => hn ⟨by omega, e.1.symm, e.2.1.symm, (holds_iff rS).2 e.2.2⟩).iff (mem_snoc H _)
  | other _ hc h0 h1 => exact (h.same gi.sys hi h0 h1).iff (mem_snoc H _)
  | sync Y hc hY => exact (h.sync gi.sys hi hY).iff (mem_snoc H _)
/-- A put that has changed something begins a tag's stay. -/
theorem act_put {n k : Nat} {S : Nat → S28} {H : List S28} {md tk : List Int} {S1 : S28} (gi : GI n k S H md tk) {i : Nat} (hi : i < n) {c N : Int} {tx : ByteArray} (ha : Act1 i (S i) H c N tx S1) (hc : c ≤ 1) (hne : S i ≠ S1) : Stay n (updN S i S1) (fun X => X ∈ H ++ [S1]) ⟨N, tx, ⟨i, sget S1.f0 i⟩⟩ S1 ∧ (⟨N, tx, ⟨i, sget S1.f0 i⟩⟩ : S99) ∈ S1.f1 := by
  have rS := gi.rt hi
  have ho := gi.o8 hi
  cases ha with
  | put hc =>
    have h0 : putE (S i) i N tx = 0 := by
      cases Classical.em (putE (S i) i N tx = 0) with
      | inl h => exact h
      | inr h => exact absurd (aPut_err rS h).symm hne
    have r1 := aPut_rt rS ho N tx
    rw [put_seen rS ho h0]
    refine ⟨(stays_put gi.sys hi h0).iff (mem_snoc H _), (holds_iff r1).2 ?_⟩
    rw [put_get rS ho h0, if_pos rfl]
  | drop hc2 => omega
  | other _ hc2 _ _ => omega
  | sync Y hc2 _ => omega
/-- How the loop stands. -/
structure StInv (w1 wq : World) (g N : Nat) (r : Nat → Nat) (b9 b10 i : Nat) (put : Bool) (f : Frm) (S : Nat → S28) (H : List S28) (md tk : List Int) : Prop where
  fw : f.w = w1
  grp : GrK f wq g N r S H md tk
  gi : GI N i S H md tk
  k9 : f.K b9
  k10 : f.K b10
  ne : b9 ≠ b10
  lo : w1.heap.size ≤ b9 ∧ w1.heap.size ≤ b10
  no : put = false → wq.heap[b9]? = some (.cells zeroSt 28 (0, 0)) ∧ wq.heap[b10]? = some (.cells #[.int .i64 0, .string ⟨#[]⟩, .int .i64 0, .int .i64 0] 99 (0, 0))
  yes : put = true → ∃ M t m0 m1 m2 m3 m4, Stay N S (fun X => X ∈ H) t M ∧ StO f.K w1.heap.size wq m0 m1 m2 m3 m4 M ∧ wq.heap[b9]? = some (.cells #[m0, m1, m2, m3, m4] 28 (0, 0)) ∧ wq.heap[b10]? = some (.cells (tagC t) 99 (0, 0))
theorem five_chg {W : World} {rb : Nat} {a0 a1 a2 a3 a4 v0 v1 v2 v3 v4 : Value} (hres : W.heap[rb]? = some (Obj.cells #[a0, a1, a2, a3, a4] 28 (0, 0))) :
    (((((W.setCell ⟨rb, 0, none⟩ v0).setCell ⟨rb, 1, none⟩ v1).setCell ⟨rb, 2, none⟩ v2).setCell ⟨rb, 3, none⟩ v3).setCell ⟨rb, 4, none⟩ v4).heap[rb]? = some (Obj.cells #[v0, v1, v2, v3, v4] 28 (0, 0)) ∧
    Chg W.heap.size (· = rb) W (((((W.setCell ⟨rb, 0, none⟩ v0).setCell ⟨rb, 1, none⟩ v1).setCell ⟨rb, 2, none⟩ v2).setCell ⟨rb, 3, none⟩ v3).setCell ⟨rb, 4, none⟩ v4) := by
  have e1 := heap_setCell_same W rb 0 _ 28 v0 hres
  have e2 := heap_setCell_same _ rb 1 _ 28 v1 e1
  have e3 := heap_setCell_same _ rb 2 _ 28 v2 e2
  have e4 := heap_setCell_same _ rb 3 _ 28 v3 e3
  have e5 := heap_setCell_same _ rb 4 _ 28 v4 e4
  exact ⟨e5, ⟨rfl, rfl, rfl, by simp [World.setCell], fun k hk hn => by rw [Below.heap_setCell _ _ _ k hn, Below.heap_setCell _ _ _ k hn, Below.heap_setCell _ _ _ k hn, Below.heap_setCell _ _ _ k hn, Below.heap_setCell _ _ _ k hn]⟩⟩
theorem four_chg {W : World} {rb : Nat} {a0 a1 a2 a3 v0 v1 v2 v3 : Value} (hres : W.heap[rb]? = some (Obj.cells #[a0, a1, a2, a3] 99 (0, 0))) :
    ((((W.setCell ⟨rb, 0, none⟩ v0).setCell ⟨rb, 1, none⟩ v1).setCell ⟨rb, 2, none⟩ v2).setCell ⟨rb, 3, none⟩ v3).heap[rb]? = some (Obj.cells #[v0, v1, v2, v3] 99 (0, 0)) ∧
    Chg W.heap.size (· = rb) W ((((W.setCell ⟨rb, 0, none⟩ v0).setCell ⟨rb, 1, none⟩ v1).setCell ⟨rb, 2, none⟩ v2).setCell ⟨rb, 3, none⟩ v3) := by
  have e1 := heap_setCell_same W rb 0 _ 99 v0 hres
  have e2 := heap_setCell_same _ rb 1 _ 99 v1 e1
  have e3 := heap_setCell_same _ rb 2 _ 99 v2 e2
  have e4 := heap_setCell_same _ rb 3 _ 99 v3 e3
  exact ⟨e4, ⟨rfl, rfl, rfl, by simp [World.setCell], fun k hk hn => by rw [Below.heap_setCell _ _ _ k hn, Below.heap_setCell _ _ _ k hn, Below.heap_setCell _ _ _ k hn, Below.heap_setCell _ _ _ k hn]⟩⟩
theorem stays_run (w : World) (n : Nat) (hn : n < 256) (A : Option Addr) (c : Nat) (l : List S61) (hL : Kd.C k61 w A l.length l) (hc : l.length ≤ c) (oL : ∀ x ∈ l, StepOk x) (at_ : Nat) (ha : at_ < 256) :
    Calls Tryz.prog 14 #[.int .u8 n, .slice A l.length c, .int .u8 at_] w fun e w' => e = .returned (.bool true) ∧ Below w.heap.size w w' := by
  have BR := Hd.mk (brief_v hL hc)
  have BG := Hd.mk (fun W => begun_run W n hn)
  have B6 := Hd.mk (fun h : briefB l = true => briefB_60 h)
  have AL := Hd.mk alive_run
  have HL := Hd.mk hL
  have OL := Hd.mk oL
  have HA := Hd.mk ha
  have I1 := Hd.mk (gi_zero (n := 2 + n % 4) (by omega) (by omega))
  clear hL hc oL hn ha
  generalize 2 + n % 4 = N at *
  generalize briefB l = b at *
  have hz28 := Tryz.zeroValue28
  have hz99 := Tryz.zeroValue99
  go_enter Tryz.func14, Tryz.ntmps14
  go_wp2_with fail
  with_reducible refine BR.out.mono ?_
  rintro e w1 ⟨rfl, hb⟩
  have B1 := Hd.mk hb
  clear hb BR
  cases b with
  | false =>
    go_wp2_with fail
    with_reducible refine (AL.out _).mono ?_
    rintro e w2 ⟨rfl, hb⟩
    have B2 := Hd.mk (B1.out.trans (hb.mono B1.out.size))
    clear hb
    go_wp2_with fail
    go_ret
    exact ⟨rfl, B2.out⟩
  | true =>
    have H6 := Hd.mk (B6.out rfl)
    clear B6
    go_wp2_with fail
    with_reducible refine (BG.out _).mono ?_
    rintro e w2 ⟨g, r, rfl, hg⟩
    obtain ⟨F0, lv0, hv0, gx0⟩ := hg
    obtain ⟨wZ, hwZ⟩ : ∃ wZ, wZ = (w2.alloc (.cells zeroSt 28)).alloc (.cells #[.int .i64 0, .string ⟨#[]⟩, .int .i64 0, .int .i64 0] 99) := ⟨_, rfl⟩
    have BW := (show Below w2.heap.size w2 wZ by rw [hwZ]; exact below_alloc (below_alloc (Below.refl _ _) _) _)
    have SZ : wZ.heap.size = w2.heap.size + 2 := by rw [hwZ]; simp
    have INV := Hd.mk (show StInv w1 wZ g N r w2.heap.size (w2.heap.size + 1) 0 false _ _ _ _ _ from ⟨rfl, ⟨_, _, _, gx0.k.grow BW⟩, I1.out, .inr ⟨Nat.le_refl _, by omega⟩, .inr ⟨by omega, by omega⟩, by omega, ⟨gx0.base.size, by have := gx0.base.size; omega⟩, fun _ => ⟨by rw [hwZ]; exact ((below_alloc (Below.refl (w2.alloc (.cells zeroSt 28)).heap.size _) _).block _ (by simp)).trans (alloc_at _ _ _ rfl), by rw [hwZ]; exact alloc_at _ _ _ (by simp)⟩, fun h => absurd h (by simp)⟩)
    clear BG gx0 I1 SZ BW
    have HZ := Hd.mk (show wZ = (w2.alloc (.cells #[.slice none 0 0, .slice none 0 0, .slice none 0 0, .slice none 0 0, .slice none 0 0] 28)).alloc (.cells #[.int .i64 0, .string ⟨#[]⟩, .int .i64 0, .int .i64 0] 99) from hwZ)
    clear hwZ
    go_wp2_with fail
    rw [← HZ.out]
    clear HZ
    generalize w2.heap.size + 1 = b10 at *
    generalize w2.heap.size = b9 at *
    go_loopg [8, 11, 12, 13, 14, 15, 16, 17, 18] l.length (fun gg v8 v11 v12 v13 v14 v15 v16 v17 v18 wq => ∃ (i : Nat) (put : Bool) (f : Frm) (S : Nat → S28) (H : List S28) (md tk : List Int), v8 = .bool true ∧ v11 = .bool put ∧ v12 = .int .i64 i ∧ i + gg = l.length ∧ Hd (StInv w1 wq g N r b9 b10 i put f S H md tk))
    case atStart => exact ⟨0, false, _, _, _, _, _, rfl, rfl, rfl, by omega, INV⟩
    case round =>
      clear INV
      obtain ⟨i, put, ⟨fw, K, C⟩, S, H, md, tk, rfl, rfl, rfl, hi, IQ⟩ := hrel
      obtain rfl : fw = w1 := IQ.out.fw
      by_cases hlt : i < l.length
      rotate_left
      · have hz : ¬ ((i : Int) < (l.length : Int)) := by omega
        have B2 := Hd.mk (show Below w.heap.size w wr from by
          obtain ⟨F, lv, hv, gx⟩ := IQ.out.grp
          exact B1.out.trans (gx.base.mono B1.out.size))
        go_wp2_with fail
        with_reducible refine (AL.out _).mono ?_
        rintro e w4 ⟨rfl, hb⟩
        have B3 := Hd.mk (B2.out.trans (hb.mono B2.out.size))
        clear hb
        go_wp2_with fail
        go_ret
        exact ⟨rfl, B3.out⟩
      have hz : ((i : Int) < (l.length : Int)) := by omega
      obtain ⟨F, lv, hv, gx⟩ := IQ.out.grp
      obtain ⟨L, hL⟩ : ∃ L, L = (List.range N).map r := ⟨_, rfl⟩
      rw [← hL] at gx
      have LL := Hd.mk hL
      have NL := Hd.mk (show L.length = N by rw [hL, List.length_map, List.length_range])
      have GL := Hd.mk (fun j (hj : j < N) => show L.getD j 0 = r j by rw [hL, List.getD_eq_getElem?_getD, List.getElem?_map, List.getElem?_range hj]; rfl)
      obtain ⟨Al, cl, rfl⟩ := Kd.R_slice gx.l
      obtain ⟨adl, hAl, _⟩ := ptr_at (Kd.R_reads' gx.l).2.2 0 (by have := NL.out; have := IQ.out.gi.n2; omega)
      subst hAl
      have GX := Hd.mk gx
      have BX := Hd.mk (show Below w.heap.size w wr from B1.out.trans (gx.base.mono B1.out.size))
      obtain ⟨ad, A7, c7, A8, c8, A9, c9, A10, c10, A11, c11, hA, y0, y1, y2, y3, y4, y5, y6, y7, y8, y9, y10, y11, _⟩ := at_T61 (Kd.C_below HL.out BX.out) (i : Int) (by omega) hz
      subst hA
      simp only [Int.toNat_natCast] at y0 y1 y2 y3 y4 y5 y6 y7 y8 y9 y10 y11
      have OX := Hd.mk (OL.out (rd_T61 l (i : Int)) (by
        show l.getD (i : Int).toNat z61 ∈ l
        rw [Int.toNat_natCast, List.getD_eq_getElem?_getD, List.getElem?_eq_getElem hlt]
        exact List.getElem_mem _))
      generalize rd_T61 l (i : Int) = x at *
      have LT := Hd.mk hlt
      have YC := Hd.mk (And.intro y0 (And.intro y1 (And.intro y2 (And.intro y3 (And.intro y4 (And.intro y5 (And.intro y6 (And.intro y7 (And.intro y8 (And.intro y9 (And.intro y10 y11)))))))))))
      have IW := Hd.mk (show x.f0.toNat % N < N from Nat.mod_lt _ (by have := IQ.out.gi.n2; omega))
      have tm : x.f0.tmod (L.length : Int) = ((x.f0.toNat % N : Nat) : Int) := by
        have h0 := OX.out.w0
        rw [NL.out]
        rw [show x.f0 = ((x.f0.toNat : Nat) : Int) by omega]
        rfl
      have wz : IntKind.i64.wrap x.f0 = x.f0 := (i64_w _).trans (by have := OX.out.w0; have := OX.out.w1; unfold wrap64; omega)
      have hne : ¬ L = [] := by intro e; have h1 := NL.out; have h2 := IW.out; rw [e] at h1; simp at h1; omega
      obtain ⟨iw, hiw⟩ : ∃ iw, iw = x.f0.toNat % N := ⟨_, rfl⟩
      rw [← hiw] at IW tm
      have EW := Hd.mk hiw
      have z0 : wr.cell? ⟨g, 0, none⟩ = some (.slice (some adl) L.length cl) := cell_of gx.blk 0 rfl
      clear gx hL hlt hiw y1 y2 y3 y4 y5 y6 y7 y8 y9 y10 y11
      go_wp2_with fail
      go_region
      clear tm wz hne z0 y0
      have HD := Hd.mk (show Below wr.heap.size wr wr.drew from Below.drew (Below.refl _ _))
      have GD := Hd.mk (GX.out.below HD.out)
      have ID := IQ
      generalize wr.drew = wd at *
      obtain ⟨y0, y1, y2, y3, y4, y5, y6, y7, y8, y9, y10, y11⟩ := YC.out
      have cw : ∀ (a : Addr) (v : Value), wr.cell? a = some v → wd.cell? a = some v := fun a v h => (HD.out.cell (World.block_lt_of_cell? wr _ h)).trans h
      have u0 := cw _ _ y0
      have u1 := cw _ _ y1
      have u2 := cw _ _ y2
      have u3 := cw _ _ y3
      have u4 := cw _ _ y4
      have u5 := cw _ _ y5
      have u6 := cw _ _ y6
      have u7 := cw _ _ y7
      have u8 := cw _ _ y8
      have u9 := cw _ _ y9
      have u10 := cw _ _ y10
      have u11 := cw _ _ y11
      have UC := Hd.mk (And.intro u0 (And.intro u1 (And.intro u2 (And.intro u3 (And.intro u4 (And.intro u5 (And.intro u6 (And.intro u7 (And.intro u8 (And.intro u9 (And.intro u10 u11)))))))))))
      clear y0 y1 y2 y3 y4 y5 y6 y7 y8 y9 y10 y11 cw YC
      obtain ⟨wA, hwA⟩ : ∃ wA, wA = wd.alloc (.cells #[.int .u8 x.f2.f0, .int .i64 x.f2.f1, .int .i64 x.f2.f2, .string x.f2.f3, .int .i64 x.f2.f4, .slice A7 x.f2.f5.f0.length c7, .slice A8 x.f2.f5.f1.length c8, .slice A9 x.f2.f5.f2.length c9, .slice A10 x.f2.f5.f3.length c10, .slice A11 x.f2.f5.f4.length c11] 59) := ⟨_, rfl⟩
      have GA := Hd.mk (show GrpK ⟨fw, K, C⟩ wA g N r S F L H md tk (.slice (some adl) L.length cl) hv by rw [hwA]; exact GD.out.below (below_alloc (Below.refl _ _) _))
      have XA := Hd.mk (show wA.heap[wd.heap.size]? = some (Obj.cells #[.int .u8 x.f2.f0, .int .i64 x.f2.f1, .int .i64 x.f2.f2, .string x.f2.f3, .int .i64 x.f2.f4, .slice A7 x.f2.f5.f0.length c7, .slice A8 x.f2.f5.f1.length c8, .slice A9 x.f2.f5.f2.length c9, .slice A10 x.f2.f5.f3.length c10, .slice A11 x.f2.f5.f4.length c11] 59 (0, 0)) by rw [hwA]; exact alloc_at _ _ _ rfl)
      have BA := Hd.mk (show Below wr.heap.size wr wA by rw [hwA]; exact below_alloc HD.out _)
      have HWA := Hd.mk hwA
      have DW := Hd.mk (show Below wd.heap.size wd wA by rw [hwA]; exact below_alloc (Below.refl _ _) _)
      clear hwA
      go_upto_region 12 with fail
      rw [← HWA.out]
      have DA := Hd.mk (show wr.heap.size ≤ wd.heap.size from HD.out.size)
      clear u0 u1 u2 u3 u4 u5 u6 u7 u8 u9 u10 u11
      have PT := Hd.mk (fun (W : World) (f : Frm) (F : Nat → Nat → Prop) (S : Nat → S28) (H : List S28) (md tk : List Int) (lv hv : Value) (h : GrpK f W g N r S F L H md tk lv hv) (j : Nat) (hj : j < N) => show ∃ ad cl, lv = .slice (some ad) L.length cl ∧ W.cell? ⟨g, 0, none⟩ = some (.slice (some ad) L.length cl) ∧ W.cell? (ad.add j) = some (.pointer (some ⟨r j, 0, none⟩)) by
        obtain ⟨Al, cl, rfl⟩ := Kd.R_slice h.l
        obtain ⟨ad2, hA2, z2⟩ := ptr_at (Kd.R_reads' h.l).2.2 j (by have := NL.out; omega)
        subst hA2
        rw [GL.out j hj] at z2
        exact ⟨ad2, cl, rfl, cell_of h.blk 0 rfl, z2⟩)
      have hwl : (iw : Int) < (L.length : Int) := by have := IW.out; have := NL.out; omega
      have ST := Hd.mk (GA.out.many.rep iw IW.out).state
      have z0 : wA.cell? ⟨g, 0, none⟩ = some (.slice (some adl) L.length cl) := cell_of GA.out.blk 0 rfl
      obtain ⟨ad2, cl2, e2, _, z1⟩ := PT.out _ _ _ _ _ _ _ _ _ GA.out iw IW.out
      injection e2 with e2 _ _
      injection e2 with e2
      subst e2
      go_wp2_with fail
      refine ST.out.mono ?_
      rintro e w3 ⟨v0, v1, v2, v3, v4, rfl, hs, hb⟩
      obtain ⟨D0, f0, D1, f1, D2, f2, D3, f3, D4, f4, rfl, rfl, rfl, rfl, rfl, _⟩ := StR.sk hs
      have R3 := Hd.mk hs
      have B3 := Hd.mk (BA.out.trans (hb.mono BA.out.size))
      have S3 := Hd.mk hb.size
      clear z0 z1 hs ST
      obtain ⟨w4, hw4⟩ : ∃ w4, w4 = w3.alloc (.cells #[.slice D0 (S iw).f0.length f0, .slice D1 (S iw).f1.length f1, .slice D2 (S iw).f2.length f2, .slice D3 (S iw).f3.length f3, .slice D4 (S iw).f4.length f4] 28) := ⟨_, rfl⟩
      have B4 := Hd.mk (show Below wr.heap.size wr w4 by rw [hw4]; exact below_alloc B3.out _)
      have X4 := Hd.mk (show w4.heap[wd.heap.size]? = some (Obj.cells #[.int .u8 x.f2.f0, .int .i64 x.f2.f1, .int .i64 x.f2.f2, .string x.f2.f3, .int .i64 x.f2.f4, .slice A7 x.f2.f5.f0.length c7, .slice A8 x.f2.f5.f1.length c8, .slice A9 x.f2.f5.f2.length c9, .slice A10 x.f2.f5.f3.length c10, .slice A11 x.f2.f5.f4.length c11] 59 (0, 0)) by rw [hw4]; exact ((below_alloc hb _).block _ (Array.getElem?_eq_some_iff.1 XA.out).1).trans XA.out)
      have DB4 := Hd.mk (show Below wd.heap.size wd w4 by rw [hw4]; exact below_alloc (DW.out.trans (hb.mono DW.out.size)) _)
      have Z4 := Hd.mk (show w4.heap[w3.heap.size]? = some (Obj.cells #[.slice D0 (S iw).f0.length f0, .slice D1 (S iw).f1.length f1, .slice D2 (S iw).f2.length f2, .slice D3 (S iw).f3.length f3, .slice D4 (S iw).f4.length f4] 28 (0, 0)) by rw [hw4]; exact alloc_at _ _ _ rfl)
      have R4 := Hd.mk (show StR wA.heap.size w4 (.slice D0 (S iw).f0.length f0) (.slice D1 (S iw).f1.length f1) (.slice D2 (S iw).f2.length f2) (.slice D3 (S iw).f3.length f3) (.slice D4 (S iw).f4.length f4) (S iw) by rw [hw4]; exact R3.out.below (below_alloc (Below.refl _ _) _))
      have L4 := Hd.mk (show wr.heap.size ≤ wA.heap.size ∧ wd.heap.size < w4.heap.size ∧ w3.heap.size < w4.heap.size ∧ wr.heap.size ≤ w3.heap.size from ⟨BA.out.size, (Array.getElem?_eq_some_iff.1 X4.out).1, (Array.getElem?_eq_some_iff.1 Z4.out).1, B3.out.size⟩)
      have HW4 := Hd.mk hw4
      clear hw4 hb
      go_upto_region 13 with fail
      rw [← HW4.out]
      have GK := Hd.mk (GX.out.grow B4.out)
      have C := Hd.mk (step_of ⟨_, _, _, by rw [← LL.out]; exact GK.out⟩ IQ.out.gi (by have := H6.out; have := LT.out; omega) OX.out A7 A8 A9 A10 A11 x.f2.f5.f0.length x.f2.f5.f1.length x.f2.f5.f2.length x.f2.f5.f3.length x.f2.f5.f4.length c7 c8 c9 c10 c11)
      rw [← EW.out] at C
      obtain ⟨u0, u1, u2, u3, u4, u5, u6, u7, u8, u9, u10, u11⟩ := UC.out
      have cw : ∀ (a : Addr) (v : Value), wd.cell? a = some v → w4.cell? a = some v := fun a v h => (DB4.out.cell (World.block_lt_of_cell? wd _ h)).trans h
      have t0 := cw _ _ u0
      have t1 := cw _ _ u1
      have t2 := cw _ _ u2
      have t3 := cw _ _ u3
      have t4 := cw _ _ u4
      have t5 := cw _ _ u5
      have t6 := cw _ _ u6
      have t7 := cw _ _ u7
      have t8 := cw _ _ u8
      have t9 := cw _ _ u9
      have t10 := cw _ _ u10
      have t11 := cw _ _ u11
      clear u0 u1 u2 u3 u4 u5 u6 u7 u8 u9 u10 u11 cw UC
      go_wp2_with fail
      refine C.out.mono ?_
      rintro e w5 ⟨S1, md1, tk1, rfl, hg5, hi5, ha5⟩
      have I5 := Hd.mk hi5
      have A5 := Hd.mk ha5
      obtain ⟨F5, lv5, hv5, gx5⟩ := hg5
      rw [← LL.out] at gx5
      have G5 := Hd.mk gx5
      have KP := Hd.mk (fun y (hy : K y ∨ (wr.heap.size ≤ y ∧ y < w4.heap.size)) => show w5.heap[y]? = w4.heap[y]? from gx5.kp y hy)
      clear t0 t1 t2 t3 t4 t5 t6 t7 t8 t9 t10 t11 C hi5 ha5 hz
      obtain ⟨ad5, cl5, e5, z0, z1⟩ := PT.out _ _ _ _ _ _ _ _ _ gx5 iw IW.out
      have ST := (gx5.many.rep iw IW.out).state
      simp only [updN, if_true] at ST
      have ST := Hd.mk ST
      clear gx5
      go_wp2_with fail
      refine ST.out.mono ?_
      rintro e w6 ⟨v0, v1, v2, v3, v4, rfl, hs, hb⟩
      obtain ⟨E0, h0, E1, h1, E2, h2, E3, h3, E4, h4, rfl, rfl, rfl, rfl, rfl, _⟩ := StR.sk hs
      obtain ⟨w7, hw7⟩ : ∃ w7, w7 = w6.alloc (.cells #[.slice E0 S1.f0.length h0, .slice E1 S1.f1.length h1, .slice E2 S1.f2.length h2, .slice E3 S1.f3.length h3, .slice E4 S1.f4.length h4] 28) := ⟨_, rfl⟩
      have B7 := Hd.mk (show Below w5.heap.size w5 w7 by rw [hw7]; exact below_alloc hb _)
      have G7 := Hd.mk (G5.out.below B7.out)
      have R7 := Hd.mk (show StR w5.heap.size w7 (.slice E0 S1.f0.length h0) (.slice E1 S1.f1.length h1) (.slice E2 S1.f2.length h2) (.slice E3 S1.f3.length h3) (.slice E4 S1.f4.length h4) S1 by rw [hw7]; exact hs.below (below_alloc (Below.refl _ _) _))
      have N7 := Hd.mk (show w7.heap[w6.heap.size]? = some (Obj.cells #[.slice E0 S1.f0.length h0, .slice E1 S1.f1.length h1, .slice E2 S1.f2.length h2, .slice E3 S1.f3.length h3, .slice E4 S1.f4.length h4] 28 (0, 0)) by rw [hw7]; exact alloc_at _ _ _ rfl)
      have KQ := Hd.mk (fun y (hy : K y ∨ (wr.heap.size ≤ y ∧ y < w4.heap.size)) => show w7.heap[y]? = w4.heap[y]? by
        have hl : y < w5.heap.size := G5.out.kl y hy
        exact (B7.out.block y hl).trans (KP.out y hy))
      have KR := Hd.mk (fun y (hy : K y) => show w7.heap[y]? = wr.heap[y]? from (KQ.out y (.inl hy)).trans (B4.out.block y (GX.out.kl y hy)))
      have X7 := Hd.mk ((KQ.out _ (.inr ⟨DA.out, L4.out.2.1⟩)).trans X4.out)
      have Z7 := Hd.mk ((KQ.out _ (.inr ⟨L4.out.2.2.2, L4.out.2.2.1⟩)).trans Z4.out)
      have W7 := Hd.mk (StO.step (W' := w7) R4.out.o fun y hy => KQ.out y (.inr ⟨Nat.le_trans L4.out.1 hy.1, hy.2⟩))
      have HW7 := Hd.mk hw7
      have L7 := Hd.mk (show w5.heap.size ≤ w6.heap.size from hb.size)
      clear hs hb ST z0 z1 hw7
      go_upto_region 15 with fail
      rw [← HW7.out]
      have G7K := Hd.mk (G5.out.grow B7.out)
      have RT := Hd.mk (And.intro (IQ.out.gi.rt IW.out) (I5.out.sys.rt S1 (by simp)))
      have tmk : x.f2.f0.tmod 10 = x.f2.f0 % 10 := by rw [Int.tmod_eq_emod_of_nonneg OX.out.act.k0]
      have p0 := cell_of X7.out 0 rfl
      have p1 := cell_of X7.out 1 rfl
      have p3 := cell_of X7.out 3 rfl
      cases put with
      | true =>
        obtain ⟨M, t, m0, m1, m2, m3, m4, sty, smo, hb9, hb10⟩ := IQ.out.yes rfl
        obtain ⟨t0, t1, ⟨t2, t3⟩⟩ := t
        have ST := Hd.mk sty
        have SM := Hd.mk (StO.step (W' := w7) smo KR.out)
        have M9 := Hd.mk ((KR.out _ IQ.out.k9).trans hb9)
        have M10 := Hd.mk (show w7.heap[b10]? = some (.cells #[.int .i64 t0, .string t1, .int .i64 t2, .int .i64 t3] 99 (0, 0)) from (KR.out _ IQ.out.k10).trans hb10)
        clear sty smo hb9 hb10
        obtain ⟨q, hq⟩ : ∃ q : Bool, (q = true ↔ (x.f2.f0 % 10 ≤ 2 ∧ x.f2.f1 = t0 ∧ x.f2.f3 = t1 ∧ (⟨t0, t1, ⟨t2, t3⟩⟩ : S99) ∈ (S iw).f1)) := by
          classical exact ⟨decide _, decide_eq_true_iff⟩
        have HQ := Hd.mk hq
        have HV := Hd.mk (holds_v (t := (⟨t0, t1, ⟨t2, t3⟩⟩ : S99)) W7.out.r.sk RT.out.1.fit)
        clear hq
        have o0 := cell_of M10.out 0 rfl
        have o1 := cell_of M10.out 1 rfl
        have o2 := cell_of M10.out 2 rfl
        have o3 := cell_of M10.out 3 rfl
        have r0 := cell_of Z7.out 0 rfl
        have r1 := cell_of Z7.out 1 rfl
        have r2 := cell_of Z7.out 2 rfl
        have r3 := cell_of Z7.out 3 rfl
        have r4 := cell_of Z7.out 4 rfl
        go_upto_region 16 with fail
        go_cut [103] from 78 to 103 (fun v103 wc => v103 = .bool q ∧ Hd (Below w7.heap.size w7 wc))
        case first =>
          have B0 := Hd.mk (Below.refl w7.heap.size w7)
          by_cases k2 : x.f2.f0 % 10 ≤ 2
          · by_cases k3' : x.f2.f1 = t0
            · have K3 := Hd.mk k3'
              have k3 : (x.f2.f1 == t0) = true := by simp [k3']
              clear k3'
              by_cases k4 : x.f2.f3.toList = t1.toList
              · have k5 : (x.f2.f3.toList == t1.toList) = true := by rw [k4]; simp
                have hv : memB (⟨t0, t1, ⟨t2, t3⟩⟩ : S99) (S iw).f1 = q := by
                  rw [Bool.eq_iff_iff, memB_iff, HQ.out]
                  exact ⟨fun h => ⟨k2, K3.out, same_iff.1 k4, h⟩, fun h => h.2.2.2⟩
                rw [hv] at HV
                clear hv k4
                go_wp2_with fail
                refine HV.out.mono ?_
                rintro e w8 ⟨rfl, hb⟩
                have B8 := Hd.mk hb
                clear hb
                go_wp2_with fail
                go_meet
                exact ⟨rfl, B8⟩
              · have k5 : (x.f2.f3.toList == t1.toList) = false := by simpa using k4
                have hf : q = false := by
                  cases q with
                  | false => rfl
                  | true => exact absurd (same_iff.2 (HQ.out.1 rfl).2.2.1) k4
                subst hf
                clear k4
                go_wp2_with fail
                go_meet
                exact ⟨rfl, B0⟩
            · have hf : q = false := by
                cases q with
                | false => rfl
                | true => exact absurd (HQ.out.1 rfl).2.1 k3'
              subst hf
              have k3 : (x.f2.f1 == t0) = false := by simpa using k3'
              clear k3'
              go_wp2_with fail
              go_meet
              exact ⟨rfl, B0⟩
          · have hf : q = false := by
              cases q with
              | false => rfl
              | true => exact absurd (HQ.out.1 rfl).1 k2
            subst hf
            go_wp2_with fail
            go_meet
            exact ⟨rfl, B0⟩
        case rest =>
        obtain ⟨rfl, BC⟩ := hcut
        clear p0 p1 p3 o0 o1 o2 o3 r0 r1 r2 r3 r4 HV tmk
        cases q with
        | true =>
          have BE := Hd.mk (B1.out.trans ((G7.out.below BC.out).base.mono B1.out.size))
          go_wp2_with fail
          with_reducible refine (AL.out _).mono ?_
          rintro e wz ⟨rfl, hb⟩
          have BZ := Hd.mk (BE.out.trans (hb.mono BE.out.size))
          clear hb
          go_wp2_with fail
          go_ret
          exact ⟨rfl, BZ.out⟩
        | false =>
          have ST5 := Hd.mk (ST.out.act IQ.out.gi IW.out A5.out (fun e => by have := HQ.out.2 e; exact absurd this (by simp)))
          have KL7 := Hd.mk (fun y (hy : K y) => show y < w7.heap.size from G7.out.kl y (.inl hy))
          have CV := Hd.mk (covers_v ((R7.out.below BC.out).sv RT.out.2) ((StO.r (StO.step (W' := wc) SM.out fun y hy => BC.out.block y (KL7.out y hy))).sv (IQ.out.gi.sys.rt M ST.out.mine)))
          have HV := Hd.mk (fun W (hW : Below w7.heap.size w7 W) => holds_v (t := (⟨t0, t1, ⟨t2, t3⟩⟩ : S99)) (R7.out.below hW).sk RT.out.2.fit)
          have SC := Hd.mk (fun (h0 : bothE S1 M = 0) (h1 : covB S1 M = true) => show memB (⟨t0, t1, ⟨t2, t3⟩⟩ : S99) S1.f1 = true from memB_iff.2 ((holds_iff RT.out.2).2 (ST5.out.covers I5.out.sys (by simp) h0 h1)))
          have N8 := Hd.mk ((BC.out.block _ (Array.getElem?_eq_some_iff.1 N7.out).1).trans N7.out)
          have M8 := Hd.mk ((BC.out.block _ (Array.getElem?_eq_some_iff.1 M9.out).1).trans M9.out)
          have p0 := cell_of N8.out 0 rfl
          have p1 := cell_of N8.out 1 rfl
          have p2 := cell_of N8.out 2 rfl
          have p3 := cell_of N8.out 3 rfl
          have p4 := cell_of N8.out 4 rfl
          have o0 := cell_of M8.out 0 rfl
          have o1 := cell_of M8.out 1 rfl
          have o2 := cell_of M8.out 2 rfl
          have o3 := cell_of M8.out 3 rfl
          have o4 := cell_of M8.out 4 rfl
          generalize memB (⟨t0, t1, ⟨t2, t3⟩⟩ : S99) S1.f1 = mb at *
          obtain ⟨P0, j0, P1, j1, P2, j2, P3, j3, P4, j4, rfl, rfl, rfl, rfl, rfl, _⟩ := StR.sk SM.out.r
          go_wp2_with fail
          refine CV.out.mono ?_
          rintro e w8 ⟨rfl, hb⟩
          have B8 := Hd.mk (BC.out.trans (hb.mono BC.out.size))
          clear hb CV p0 p1 p2 p3 p4 o0 o1 o2 o3 o4
          have EE := Hd.mk (SC.out)
          generalize bothE S1 M = be at *
          generalize covB S1 M = cb at *
          by_cases he : be = 0
          · subst he
            cases cb with
            | true =>
              have hmb := EE.out rfl rfl
              subst hmb
              have N9 := Hd.mk ((B8.out.block _ (Array.getElem?_eq_some_iff.1 N7.out).1).trans N7.out)
              have M9' := Hd.mk ((B8.out.block _ (Array.getElem?_eq_some_iff.1 M10.out).1).trans M10.out)
              have p0 := cell_of N9.out 0 rfl
              have p1 := cell_of N9.out 1 rfl
              have p2 := cell_of N9.out 2 rfl
              have p3 := cell_of N9.out 3 rfl
              have p4 := cell_of N9.out 4 rfl
              have o0 := cell_of M9'.out 0 rfl
              have o1 := cell_of M9'.out 1 rfl
              have o2 := cell_of M9'.out 2 rfl
              have o3 := cell_of M9'.out 3 rfl
              have HV8 := Hd.mk (HV.out w8 B8.out)
              go_wp2_with fail
              refine HV8.out.mono ?_
              rintro e w9 ⟨rfl, hb⟩
              have BE := Hd.mk (B8.out.trans (hb.mono B8.out.size))
              clear hb HV8 p0 p1 p2 p3 p4 o0 o1 o2 o3
              go_wp2_with fail
              go_roundg (l.length - (i + 1))
              case measure => have := LT.out; omega
              case rel =>
                refine ⟨i + 1, true, ⟨fw, fun y => ((K y ∨ (wr.heap.size ≤ y ∧ y < w4.heap.size)) ∨ (w5.heap.size ≤ y ∧ y < w7.heap.size)) ∨ (w7.heap.size ≤ y ∧ y < w9.heap.size), fun y => w9.heap[y]?⟩, _, _, _, _, rfl, rfl, nx LT.out (by have := H6.out; omega), by have := LT.out; omega, ⟨⟨rfl, ⟨_, _, _, by rw [← LL.out]; exact G7K.out.grow BE.out⟩, I5.out, .inl (.inl (.inl IQ.out.k9)), .inl (.inl (.inl IQ.out.k10)), IQ.out.ne, IQ.out.lo, fun h => absurd h (by simp), fun _ => ⟨M, ⟨t0, t1, ⟨t2, t3⟩⟩, _, _, _, _, _, ST5.out, ?_, (BE.out.block _ (Array.getElem?_eq_some_iff.1 M9.out).1).trans M9.out, (BE.out.block _ (Array.getElem?_eq_some_iff.1 M10.out).1).trans M10.out⟩⟩⟩⟩
                exact StO.mono (StO.step SM.out fun y hy => BE.out.block y (KL7.out y hy)) fun y hy => .inl (.inl (.inl hy))
            | false =>
              have BE := Hd.mk B8.out
              go_wp2_with fail
              go_roundg (l.length - (i + 1))
              case measure => have := LT.out; omega
              case rel =>
                refine ⟨i + 1, true, ⟨fw, fun y => ((K y ∨ (wr.heap.size ≤ y ∧ y < w4.heap.size)) ∨ (w5.heap.size ≤ y ∧ y < w7.heap.size)) ∨ (w7.heap.size ≤ y ∧ y < w8.heap.size), fun y => w8.heap[y]?⟩, _, _, _, _, rfl, rfl, nx LT.out (by have := H6.out; omega), by have := LT.out; omega, ⟨⟨rfl, ⟨_, _, _, by rw [← LL.out]; exact G7K.out.grow BE.out⟩, I5.out, .inl (.inl (.inl IQ.out.k9)), .inl (.inl (.inl IQ.out.k10)), IQ.out.ne, IQ.out.lo, fun h => absurd h (by simp), fun _ => ⟨M, ⟨t0, t1, ⟨t2, t3⟩⟩, _, _, _, _, _, ST5.out, ?_, (BE.out.block _ (Array.getElem?_eq_some_iff.1 M9.out).1).trans M9.out, (BE.out.block _ (Array.getElem?_eq_some_iff.1 M10.out).1).trans M10.out⟩⟩⟩⟩
                exact StO.mono (StO.step SM.out fun y hy => BE.out.block y (KL7.out y hy)) fun y hy => .inl (.inl (.inl hy))
          · have hz : ¬ (be = 0) := he
            have BE := Hd.mk B8.out
            go_wp2_with fail
            go_roundg (l.length - (i + 1))
            case measure => have := LT.out; omega
            case rel =>
              refine ⟨i + 1, true, ⟨fw, fun y => ((K y ∨ (wr.heap.size ≤ y ∧ y < w4.heap.size)) ∨ (w5.heap.size ≤ y ∧ y < w7.heap.size)) ∨ (w7.heap.size ≤ y ∧ y < w8.heap.size), fun y => w8.heap[y]?⟩, _, _, _, _, rfl, rfl, nx LT.out (by have := H6.out; omega), by have := LT.out; omega, ⟨⟨rfl, ⟨_, _, _, by rw [← LL.out]; exact G7K.out.grow BE.out⟩, I5.out, .inl (.inl (.inl IQ.out.k9)), .inl (.inl (.inl IQ.out.k10)), IQ.out.ne, IQ.out.lo, fun h => absurd h (by simp), fun _ => ⟨M, ⟨t0, t1, ⟨t2, t3⟩⟩, _, _, _, _, _, ST5.out, ?_, (BE.out.block _ (Array.getElem?_eq_some_iff.1 M9.out).1).trans M9.out, (BE.out.block _ (Array.getElem?_eq_some_iff.1 M10.out).1).trans M10.out⟩⟩⟩⟩
              exact StO.mono (StO.step SM.out fun y hy => BE.out.block y (KL7.out y hy)) fun y hy => .inl (.inl (.inl hy))
      | false =>
        have Z9 := Hd.mk ((KR.out _ IQ.out.k9).trans (IQ.out.no rfl).1)
        have Z10 := Hd.mk ((KR.out _ IQ.out.k10).trans (IQ.out.no rfl).2)
        obtain ⟨q, hq⟩ : ∃ q : Bool, (q = true ↔ (x.f2.f0 % 10 ≤ 1 ∧ ((at_ : Int) % 60 ≤ (i : Int)) ∧ S iw ≠ S1)) := by
          classical exact ⟨decide _, decide_eq_true_iff⟩
        have HQ := Hd.mk hq
        have HV := Hd.mk (same_v W7.out.r.sk RT.out.1.fit R7.out.sk)
        clear hq
        have r0 := cell_of Z7.out 0 rfl
        have r1 := cell_of Z7.out 1 rfl
        have r2 := cell_of Z7.out 2 rfl
        have r3 := cell_of Z7.out 3 rfl
        have r4 := cell_of Z7.out 4 rfl
        have o0 := cell_of N7.out 0 rfl
        have o1 := cell_of N7.out 1 rfl
        have o2 := cell_of N7.out 2 rfl
        have o3 := cell_of N7.out 3 rfl
        have o4 := cell_of N7.out 4 rfl
        have wza : IntKind.i64.wrap (at_ : Int) = (at_ : Int) := (i64_w _).trans (by have := HA.out; unfold wrap64; omega)
        have tma : (at_ : Int).tmod 60 = (at_ : Int) % 60 := by rw [Int.tmod_eq_emod_of_nonneg (by omega)]
        go_upto_region 18 with fail
        go_cut [125] from 105 to 125 (fun v125 wc => v125 = .bool q ∧ Hd (Below w7.heap.size w7 wc))
        case first =>
          have B0 := Hd.mk (Below.refl w7.heap.size w7)
          by_cases k2 : x.f2.f0 % 10 ≤ 1
          · by_cases k3 : (at_ : Int) % 60 ≤ (i : Int)
            · have hv : eqL (S iw) S1 = !q := by
                cases q with
                | true => 
                  have := (HQ.out.1 rfl).2.2
                  cases h : eqL (S iw) S1 with
                  | false => rfl
                  | true => exact absurd (eqL_iff.1 h) this
                | false =>
                  cases h : eqL (S iw) S1 with
                  | true => rfl
                  | false => exact absurd (HQ.out.2 ⟨k2, k3, fun e => by rw [eqL_iff.2 e] at h; exact absurd h (by simp)⟩) (by simp)
              rw [hv] at HV
              clear hv
              go_wp2_with fail
              refine HV.out.mono ?_
              rintro e w8 ⟨rfl, hb⟩
              have B8 := Hd.mk hb
              clear hb
              go_wp2_with fail
              go_meet
              exact ⟨by simp, B8⟩
            · have hf : q = false := by
                cases q with
                | false => rfl
                | true => exact absurd (HQ.out.1 rfl).2.1 k3
              subst hf
              go_wp2_with fail
              go_meet
              exact ⟨rfl, B0⟩
          · have hf : q = false := by
              cases q with
              | false => rfl
              | true => exact absurd (HQ.out.1 rfl).1 k2
            subst hf
            go_wp2_with fail
            go_meet
            exact ⟨rfl, B0⟩
        case rest =>
        obtain ⟨rfl, BC⟩ := hcut
        clear p0 p1 p3 o0 o1 o2 o3 o4 r0 r1 r2 r3 r4 HV tmk wza tma
        cases q with
        | false =>
          go_wp2_with fail
          go_roundg (l.length - (i + 1))
          case measure => have := LT.out; omega
          case rel =>
            exact ⟨i + 1, false, ⟨fw, fun y => ((K y ∨ (wr.heap.size ≤ y ∧ y < w4.heap.size)) ∨ (w5.heap.size ≤ y ∧ y < w7.heap.size)) ∨ (w7.heap.size ≤ y ∧ y < wc.heap.size), fun y => wc.heap[y]?⟩, _, _, _, _, rfl, rfl, nx LT.out (by have := H6.out; omega), by have := LT.out; omega, ⟨⟨rfl, ⟨_, _, _, by rw [← LL.out]; exact G7K.out.grow BC.out⟩, I5.out, .inl (.inl (.inl IQ.out.k9)), .inl (.inl (.inl IQ.out.k10)), IQ.out.ne, IQ.out.lo, fun _ => ⟨(BC.out.block _ (Array.getElem?_eq_some_iff.1 Z9.out).1).trans Z9.out, (BC.out.block _ (Array.getElem?_eq_some_iff.1 Z10.out).1).trans Z10.out⟩, fun h => absurd h (by simp)⟩⟩⟩
        | true =>
          obtain ⟨hq1, _, hq3⟩ := HQ.out.1 rfl
          have SP := Hd.mk (act_put IQ.out.gi IW.out A5.out hq1 hq3)
          clear HQ hq1 hq3
          have s8 := Hd.mk (show S1.f0.length = 8 from RT.out.2.sl)
          have hs8 : ¬ ((S1.f0.length : Int) ≤ (iw : Int)) := by have := IW.out; have := IQ.out.gi.n5; have := s8.out; omega
          have N8 := Hd.mk ((BC.out.block _ (Array.getElem?_eq_some_iff.1 N7.out).1).trans N7.out)
          have X8 := Hd.mk ((BC.out.block _ (Array.getElem?_eq_some_iff.1 X7.out).1).trans X7.out)
          have Y9 := Hd.mk ((BC.out.block _ (Array.getElem?_eq_some_iff.1 Z9.out).1).trans Z9.out)
          have Y10 := Hd.mk ((BC.out.block _ (Array.getElem?_eq_some_iff.1 Z10.out).1).trans Z10.out)
          have R8 := Hd.mk (R7.out.below BC.out)
          have p0 := cell_of N8.out 0 rfl
          have p1 := cell_of N8.out 1 rfl
          have p2 := cell_of N8.out 2 rfl
          have p3 := cell_of N8.out 3 rfl
          have p4 := cell_of N8.out 4 rfl
          have o0 : wc.cell? ⟨b9, 0, none⟩ = some (.slice none 0 0) := cell_of Y9.out 0 rfl
          have o1 : wc.cell? ⟨b9, 1, none⟩ = some (.slice none 0 0) := cell_of Y9.out 1 rfl
          have o2 : wc.cell? ⟨b9, 2, none⟩ = some (.slice none 0 0) := cell_of Y9.out 2 rfl
          have o3 : wc.cell? ⟨b9, 3, none⟩ = some (.slice none 0 0) := cell_of Y9.out 3 rfl
          have o4 : wc.cell? ⟨b9, 4, none⟩ = some (.slice none 0 0) := cell_of Y9.out 4 rfl
          have z0 := frozen_of Y9.out 0 none
          have z1 := frozen_of Y9.out 1 none
          have z2 := frozen_of Y9.out 2 none
          have z3 := frozen_of Y9.out 3 none
          have z4 := frozen_of Y9.out 4 none
          go_wp2_with fail
          obtain ⟨wS, hwS⟩ : ∃ wS, wS = (((((wc.setCell ⟨b9, 0, none⟩ (.slice E0 S1.f0.length h0)).setCell ⟨b9, 1, none⟩ (.slice E1 S1.f1.length h1)).setCell ⟨b9, 2, none⟩ (.slice E2 S1.f2.length h2)).setCell ⟨b9, 3, none⟩ (.slice E3 S1.f3.length h3)).setCell ⟨b9, 4, none⟩ (.slice E4 S1.f4.length h4)) := ⟨_, rfl⟩
          have FC := Hd.mk (show wS.heap[b9]? = some (Obj.cells #[.slice E0 S1.f0.length h0, .slice E1 S1.f1.length h1, .slice E2 S1.f2.length h2, .slice E3 S1.f3.length h3, .slice E4 S1.f4.length h4] 28 (0, 0)) ∧ Chg wc.heap.size (· = b9) wc wS by rw [hwS]; exact five_chg Y9.out)
          rw [← hwS]
          clear hwS p0 p1 p2 p3 p4 o0 o1 o2 o3 o4 z0 z1 z2 z3 z4 hs8
          have KB := Hd.mk (show b9 < wr.heap.size ∧ b10 < wr.heap.size from ⟨GX.out.kl _ IQ.out.k9, GX.out.kl _ IQ.out.k10⟩)
          have SZ := Hd.mk (show wr.heap.size ≤ wd.heap.size ∧ wr.heap.size ≤ w5.heap.size ∧ w5.heap.size ≤ w7.heap.size ∧ w7.heap.size ≤ wc.heap.size ∧ wd.heap.size < wc.heap.size from ⟨DA.out, by
            have h9 := G5.out.kl _ (.inr ⟨L4.out.2.2.2, L4.out.2.2.1⟩)
            have := L4.out.2.2.2
            have h8 : w3.heap.size < w5.heap.size := h9
            omega, B7.out.size, BC.out.size, (Array.getElem?_eq_some_iff.1 X8.out).1⟩)
          have NS9 := Hd.mk ((FC.out.2.block _ (Array.getElem?_eq_some_iff.1 N8.out).1 (by have h1 := KB.out; have h2 := SZ.out; have h3 := L7.out; omega)).trans N8.out)
          have XS9 := Hd.mk ((FC.out.2.block _ (Array.getElem?_eq_some_iff.1 X8.out).1 (by have h1 := KB.out; have h2 := SZ.out; omega)).trans X8.out)
          have TS9 := Hd.mk ((FC.out.2.block _ (Array.getElem?_eq_some_iff.1 Y10.out).1 (fun e => IQ.out.ne e.symm)).trans Y10.out)
          have RS9 := Hd.mk (StO.step (W' := wS) R8.out.o fun y hy => FC.out.2.block y hy.2 (by have h1 := KB.out; have h2 := SZ.out; have h3 := hy.1; omega))
          have DS := Hd.mk (Below.drew (Below.refl wS.heap.size wS))
          have ND := Hd.mk ((DS.out.block _ (Array.getElem?_eq_some_iff.1 NS9.out).1).trans NS9.out)
          have XD := Hd.mk ((DS.out.block _ (Array.getElem?_eq_some_iff.1 XS9.out).1).trans XS9.out)
          have TD := Hd.mk ((DS.out.block _ (Array.getElem?_eq_some_iff.1 TS9.out).1).trans TS9.out)
          have MD := Hd.mk ((DS.out.block _ (Array.getElem?_eq_some_iff.1 FC.out.1).1).trans FC.out.1)
          have hi8 : (iw : Int) < (S1.f0.length : Int) := by have := IW.out; have := IQ.out.gi.n5; have := s8.out; omega
          obtain ⟨ade, ce, hE0, hcl, hKe, hce⟩ := Kd.C_get (Kd.C_below (Kd.R_reads' RS9.out.r0).2.2 DS.out) 0 (iw : Int) (by omega) hi8
          have hce2 : ce = [.int .i64 (sget S1.f0 (iw : Int))] := hKe
          subst hce2
          have EL := Hd.mk (show wS.drew.cell? (ade.add iw) = some (.int .i64 (sget S1.f0 (iw : Int))) by have := hce 0 _ rfl; simpa [Kd.int, Kd.scalar] using this)
          clear hKe hce hcl
          subst hE0
          have o0 : wS.drew.cell? ⟨b10, 0, none⟩ = some (.int .i64 0) := cell_of TD.out 0 rfl
          have o1 : wS.drew.cell? ⟨b10, 1, none⟩ = some (.string ⟨#[]⟩) := cell_of TD.out 1 rfl
          have o2 : wS.drew.cell? ⟨b10, 2, none⟩ = some (.int .i64 0) := cell_of TD.out 2 rfl
          have o3 : wS.drew.cell? ⟨b10, 3, none⟩ = some (.int .i64 0) := cell_of TD.out 3 rfl
          have z0 := frozen_of TD.out 0 none
          have z1 := frozen_of TD.out 1 none
          have z2 := frozen_of TD.out 2 none
          have z3 := frozen_of TD.out 3 none
          refine start_ (n := 13) (S := fun w' => w'.cell? ⟨wd.heap.size, 1, none⟩ = some (.int .i64 x.f2.f1) ∧ w'.cell? ⟨wd.heap.size, 3, none⟩ = some (.string x.f2.f3) ∧ w'.cell? ⟨w6.heap.size, 0, none⟩ = some (.slice (some ade) S1.f0.length h0) ∧ w'.cell? (ade.add iw) = some (.int .i64 (sget S1.f0 (iw : Int)))) (ds := [12]) #[false, false, false, false, false, false, false, false, false, false, false, false, false] (by kernel_rfl) rfl rfl ⟨cell_of XD.out 1 rfl, cell_of XD.out 3 rfl, cell_of ND.out 0 rfl, EL.out⟩ (fun hHeld => ?_)
          generalize wS.drew = wU at *
          refine pure_ (i := 0) (N := some 132) (v := ?_) (a' := ?_) #[true, false, false, false, false, false, false, false, false, false, false, false, false] rfl rfl (by kernel_rfl) (fun _ _ _ h => h) (Or.inl ⟨by rfl, ?_⟩) ?_ ?_
          rotate_left
          · intro w'
            go_simp
            with_reducible rfl
          rotate_left
          · simp only [Act.put, List.setIfInBounds_toArray, List.set_cons_zero, List.set_cons_succ]
            rfl
          refine take_ (i := 1) (N := some 133) (v := ?_) (a' := ?_) #[true, true, false, false, false, false, false, false, false, false, false, false, false] rfl rfl (by kernel_rfl) (fun _ _ _ h => h) (Or.inl ⟨by rfl, ?_⟩) hHeld ?_ ?_
          rotate_left
          · rintro w' ⟨s0, s1, s2, s3⟩
            go_simp
            with_reducible rfl
          rotate_left
          · simp only [Act.put, List.setIfInBounds_toArray, List.set_cons_zero, List.set_cons_succ]
            rfl
          refine pure_ (i := 2) (N := some 134) (v := ?_) (a' := ?_) #[true, true, true, false, false, false, false, false, false, false, false, false, false] rfl rfl (by kernel_rfl) (fun _ _ _ h => h) (Or.inl ⟨by rfl, ?_⟩) ?_ ?_
          rotate_left
          · intro w'
            go_simp
            with_reducible rfl
          rotate_left
          · simp only [Act.put, List.setIfInBounds_toArray, List.set_cons_zero, List.set_cons_succ]
            rfl
          refine take_ (i := 3) (N := some 135) (v := ?_) (a' := ?_) #[true, true, true, true, false, false, false, false, false, false, false, false, false] rfl rfl (by kernel_rfl) (fun _ _ _ h => h) (Or.inl ⟨by rfl, ?_⟩) hHeld ?_ ?_
          rotate_left
          · rintro w' ⟨s0, s1, s2, s3⟩
            go_simp
            with_reducible rfl
          rotate_left
          · simp only [Act.put, List.setIfInBounds_toArray, List.set_cons_zero, List.set_cons_succ]
            rfl
          refine pure_ (i := 4) (N := some 136) (v := ?_) (a' := ?_) #[true, true, true, true, true, false, false, false, false, false, false, false, false] rfl rfl (by kernel_rfl) (fun _ _ _ h => h) (Or.inl ⟨by rfl, ?_⟩) ?_ ?_
          rotate_left
          · intro w'
            go_simp
            with_reducible rfl
          rotate_left
          · simp only [Act.put, List.setIfInBounds_toArray, List.set_cons_zero, List.set_cons_succ]
            rfl
          refine pure_ (i := 5) (N := some 137) (v := ?_) (a' := ?_) #[true, true, true, true, true, true, false, false, false, false, false, false, false] rfl rfl (by kernel_rfl) (fun _ _ _ h => h) (Or.inl ⟨by rfl, ?_⟩) ?_ ?_
          rotate_left
          · intro w'
            go_simp
            with_reducible rfl
          rotate_left
          · simp only [Act.put, List.setIfInBounds_toArray, List.set_cons_zero, List.set_cons_succ]
            rfl
          refine take_ (i := 6) (N := some 138) (v := ?_) (a' := ?_) #[true, true, true, true, true, true, true, false, false, false, false, false, false] rfl rfl (by kernel_rfl) (fun _ _ _ h => h) (Or.inl ⟨by rfl, ?_⟩) hHeld ?_ ?_
          rotate_left
          · rintro w' ⟨s0, s1, s2, s3⟩
            go_simp
            with_reducible rfl
          rotate_left
          · simp only [Act.put, List.setIfInBounds_toArray, List.set_cons_zero, List.set_cons_succ]
            rfl
          refine pure_ (i := 7) (N := some 139) (v := ?_) (a' := ?_) #[true, true, true, true, true, true, true, true, false, false, false, false, false] rfl rfl (by kernel_rfl) (fun _ _ _ h => h) (Or.inl ⟨by rfl, ?_⟩) ?_ ?_
          rotate_left
          · intro w'
            go_simp
            with_reducible rfl
          rotate_left
          · simp only [Act.put, List.setIfInBounds_toArray, List.set_cons_zero, List.set_cons_succ]
            rfl
          refine pure_ (i := 8) (N := some 140) (v := ?_) (a' := ?_) #[true, true, true, true, true, true, true, true, true, false, false, false, false] rfl rfl (by kernel_rfl) (fun _ _ _ h => h) (Or.inl ⟨by rfl, ?_⟩) ?_ ?_
          rotate_left
          · intro w'
            go_simp
            with_reducible rfl
          rotate_left
          · simp only [Act.put, List.setIfInBounds_toArray, List.set_cons_zero, List.set_cons_succ]
            rfl
          refine take_ (i := 9) (N := some 141) (v := ?_) (a' := ?_) #[true, true, true, true, true, true, true, true, true, true, false, false, false] rfl rfl (by kernel_rfl) (fun _ _ _ h => h) (Or.inl ⟨by rfl, ?_⟩) hHeld ?_ ?_
          rotate_left
          · rintro w' ⟨s0, s1, s2, s3⟩
            go_simp
            with_reducible rfl
          rotate_left
          · simp only [Act.put, List.setIfInBounds_toArray, List.set_cons_zero, List.set_cons_succ]
            rfl
          refine pure_ (i := 10) (N := some 142) (v := ?_) (a' := ?_) #[true, true, true, true, true, true, true, true, true, true, true, false, false] rfl rfl (by kernel_rfl) (fun _ _ _ h => h) (Or.inl ⟨by rfl, ?_⟩) ?_ ?_
          rotate_left
          · intro w'
            go_simp
            with_reducible rfl
          rotate_left
          · simp only [Act.put, List.setIfInBounds_toArray, List.set_cons_zero, List.set_cons_succ]
            rfl
          refine pure_ (i := 11) (N := some 143) (v := ?_) (a' := ?_) #[true, true, true, true, true, true, true, true, true, true, true, true, false] rfl rfl (by kernel_rfl) (fun _ _ _ h => h) (Or.inl ⟨by rfl, ?_⟩) ?_ ?_
          rotate_left
          · intro w'
            go_simp
            with_reducible rfl
          rotate_left
          · simp only [Act.put, List.setIfInBounds_toArray, List.set_cons_zero, List.set_cons_succ]
            rfl
          refine last_ (i := 12) (N := none) #[true, true, true, true, true, true, true, true, true, true, true, true, true] rfl rfl (by kernel_rfl) (by decide) (fun K hK => ?_)
          refine skip_ (w1 := ?_) (by rfl) rfl ?_ ?_
          rotate_left
          · go_simp
            rfl
          refine hK.out _ _ ?_
          clear hK K
          refine done_ (by kernel_rfl) ?_
          obtain ⟨wT, hwT⟩ : ∃ wT, wT = ((((wU.setCell ⟨b10, 0, none⟩ (.int .i64 x.f2.f1)).setCell ⟨b10, 1, none⟩ (.string x.f2.f3)).setCell ⟨b10, 2, none⟩ (.int .i64 (iw : Int))).setCell ⟨b10, 3, none⟩ (.int .i64 (sget S1.f0 (iw : Int)))) := ⟨_, rfl⟩
          have FT := Hd.mk (show wT.heap[b10]? = some (.cells #[.int .i64 x.f2.f1, .string x.f2.f3, .int .i64 (iw : Int), .int .i64 (sget S1.f0 (iw : Int))] 99 (0, 0)) ∧ Chg wU.heap.size (· = b10) wU wT by rw [hwT]; exact four_chg TD.out)
          rw [← hwT]
          clear hwT o0 o1 o2 o3 z0 z1 z2 z3 hHeld hi8
          have GC := Hd.mk (G7K.out.grow BC.out)
          have CT := Hd.mk (show Chg wc.heap.size (fun y => ((K y ∨ (wr.heap.size ≤ y ∧ y < w4.heap.size)) ∨ (w5.heap.size ≤ y ∧ y < w7.heap.size)) ∨ (w7.heap.size ≤ y ∧ y < wc.heap.size)) wc wT from
            Chg.step (Chg.below_step (FC.out.2.mono (Nat.le_refl _) fun k _ (e : k = b9) => .inl (.inl (.inl (e ▸ IQ.out.k9)))) DS.out (Nat.le_refl _)) (FT.out.2.mono (Nat.le_refl _) fun k _ (e : k = b10) => .inl (.inl (.inl (e ▸ IQ.out.k10)))) (Nat.le_refl _))
          have BF := Hd.mk (show Below fw.heap.size fw wT by
            have h0 := GC.out.base
            have h1 := FC.out.2.fresh (B' := fw.heap.size) h0.size (fun k (e : k = b9) => by rw [e]; exact IQ.out.lo.1)
            have h2 := DS.out.mono (show fw.heap.size ≤ wS.heap.size from Nat.le_trans h0.size h1.size)
            have h3 := FT.out.2.fresh (B' := fw.heap.size) (Nat.le_trans h0.size (Nat.le_trans h1.size h2.size)) (fun k (e : k = b10) => by rw [e]; exact IQ.out.lo.2)
            exact ((h0.trans h1).trans h2).trans h3)
          have GT := Hd.mk (GC.out.chg CT.out BF.out)
          have NT := Hd.mk ((FT.out.2.block _ (Array.getElem?_eq_some_iff.1 ND.out).1 (by have h1 := KB.out; have h2 := SZ.out; have h3 := L7.out; omega)).trans ND.out)
          have MT := Hd.mk ((FT.out.2.block _ (Array.getElem?_eq_some_iff.1 MD.out).1 IQ.out.ne).trans MD.out)
          have RT9 := Hd.mk (StO.step (W' := wT) (StO.step (W' := wU) RS9.out fun y hy => DS.out.block y (Nat.lt_of_lt_of_le hy.2 FC.out.2.size)) fun y hy => FT.out.2.block y (Nat.lt_of_lt_of_le hy.2 (Nat.le_trans FC.out.2.size DS.out.size)) (by have h1 := KB.out; have h2 := SZ.out; have h3 := hy.1; omega))
          have HV := Hd.mk (fun W (hW : Below wT.heap.size wT W) => holds_v (t := (⟨x.f2.f1, x.f2.f3, ⟨(iw : Int), sget S1.f0 (iw : Int)⟩⟩ : S99)) (RT9.out.r.below hW).sk RT.out.2.fit)
          rw [memB_iff.2 SP.out.2] at HV
          have CV := Hd.mk (fun W (hW : Below wT.heap.size wT W) => covers_v ((RT9.out.r.below hW).sv RT.out.2) ((RT9.out.r.below hW).sv RT.out.2))
          have B0 := Hd.mk (Below.refl wT.heap.size wT)
          have p0 := cell_of NT.out 0 rfl
          have p1 := cell_of NT.out 1 rfl
          have p2 := cell_of NT.out 2 rfl
          have p3 := cell_of NT.out 3 rfl
          have p4 := cell_of NT.out 4 rfl
          have o0 := cell_of FT.out.1 0 rfl
          have o1 := cell_of FT.out.1 1 rfl
          have o2 := cell_of FT.out.1 2 rfl
          have o3 := cell_of FT.out.1 3 rfl
          go_wp2_with fail
          refine (HV.out _ B0.out).mono ?_
          rintro e w8 ⟨rfl, hb⟩
          have B8 := Hd.mk hb
          clear hb p0 p1 p2 p3 p4 o0 o1 o2 o3
          have N8' := Hd.mk ((B8.out.block _ (Array.getElem?_eq_some_iff.1 NT.out).1).trans NT.out)
          have M8' := Hd.mk ((B8.out.block _ (Array.getElem?_eq_some_iff.1 MT.out).1).trans MT.out)
          have p0 := cell_of N8'.out 0 rfl
          have p1 := cell_of N8'.out 1 rfl
          have p2 := cell_of N8'.out 2 rfl
          have p3 := cell_of N8'.out 3 rfl
          have p4 := cell_of N8'.out 4 rfl
          have o0 := cell_of M8'.out 0 rfl
          have o1 := cell_of M8'.out 1 rfl
          have o2 := cell_of M8'.out 2 rfl
          have o3 := cell_of M8'.out 3 rfl
          have o4 := cell_of M8'.out 4 rfl
          have CV8 := Hd.mk (CV.out _ B8.out)
          clear CV
          go_wp2_with fail
          refine CV8.out.mono ?_
          rintro e w9 ⟨rfl, hb⟩
          have B9 := Hd.mk (B8.out.trans (hb.mono B8.out.size))
          clear hb CV8 p0 p1 p2 p3 p4 o0 o1 o2 o3 o4
          generalize bothE S1 S1 = be at *
          generalize covB S1 S1 = cb at *
          by_cases he : be = 0
          · subst he
            cases cb with
            | true =>
              have N9 := Hd.mk ((B9.out.block _ (Array.getElem?_eq_some_iff.1 NT.out).1).trans NT.out)
              have M9' := Hd.mk ((B9.out.block _ (Array.getElem?_eq_some_iff.1 FT.out.1).1).trans FT.out.1)
              have p0 := cell_of N9.out 0 rfl
              have p1 := cell_of N9.out 1 rfl
              have p2 := cell_of N9.out 2 rfl
              have p3 := cell_of N9.out 3 rfl
              have p4 := cell_of N9.out 4 rfl
              have o0 := cell_of M9'.out 0 rfl
              have o1 := cell_of M9'.out 1 rfl
              have o2 := cell_of M9'.out 2 rfl
              have o3 := cell_of M9'.out 3 rfl
              have HV8 := Hd.mk (HV.out w9 B9.out)
              go_wp2_with fail
              refine HV8.out.mono ?_
              rintro e wz ⟨rfl, hb⟩
              have BE := Hd.mk (B9.out.trans (hb.mono B9.out.size))
              clear hb HV8 p0 p1 p2 p3 p4 o0 o1 o2 o3
              go_wp2_with fail
              go_roundg (l.length - (i + 1))
              case measure => have := LT.out; omega
              case rel =>
                refine ⟨i + 1, true, ⟨fw, fun y => (((K y ∨ (wr.heap.size ≤ y ∧ y < w4.heap.size)) ∨ (w5.heap.size ≤ y ∧ y < w7.heap.size)) ∨ (w7.heap.size ≤ y ∧ y < wc.heap.size)) ∨ (wT.heap.size ≤ y ∧ y < wz.heap.size), fun y => wz.heap[y]?⟩, _, _, _, _, rfl, rfl, nx LT.out (by have := H6.out; omega), by have := LT.out; omega, ⟨⟨rfl, ⟨_, _, _, by rw [← LL.out]; exact GT.out.grow BE.out⟩, I5.out, .inl (.inl (.inl (.inl IQ.out.k9))), .inl (.inl (.inl (.inl IQ.out.k10))), IQ.out.ne, IQ.out.lo, fun h => absurd h (by simp), fun _ => ⟨S1, ⟨x.f2.f1, x.f2.f3, ⟨(iw : Int), sget S1.f0 (iw : Int)⟩⟩, _, _, _, _, _, SP.out.1, ?_, (BE.out.block _ (Array.getElem?_eq_some_iff.1 MT.out).1).trans MT.out, (BE.out.block _ (Array.getElem?_eq_some_iff.1 FT.out.1).1).trans FT.out.1⟩⟩⟩⟩
                refine StO.mono (StO.lower (StO.step RT9.out fun y hy => BE.out.block y (Nat.lt_of_lt_of_le hy.2 CT.out.size)) G5.out.base.size) fun y hy => .inl ?_
                by_cases h : y < w7.heap.size
                · exact .inl (.inr ⟨hy.1, h⟩)
                · exact .inr ⟨by omega, hy.2⟩
            | false =>
              have BE := Hd.mk B9.out
              go_wp2_with fail
              go_roundg (l.length - (i + 1))
              case measure => have := LT.out; omega
              case rel =>
                refine ⟨i + 1, true, ⟨fw, fun y => (((K y ∨ (wr.heap.size ≤ y ∧ y < w4.heap.size)) ∨ (w5.heap.size ≤ y ∧ y < w7.heap.size)) ∨ (w7.heap.size ≤ y ∧ y < wc.heap.size)) ∨ (wT.heap.size ≤ y ∧ y < w9.heap.size), fun y => w9.heap[y]?⟩, _, _, _, _, rfl, rfl, nx LT.out (by have := H6.out; omega), by have := LT.out; omega, ⟨⟨rfl, ⟨_, _, _, by rw [← LL.out]; exact GT.out.grow BE.out⟩, I5.out, .inl (.inl (.inl (.inl IQ.out.k9))), .inl (.inl (.inl (.inl IQ.out.k10))), IQ.out.ne, IQ.out.lo, fun h => absurd h (by simp), fun _ => ⟨S1, ⟨x.f2.f1, x.f2.f3, ⟨(iw : Int), sget S1.f0 (iw : Int)⟩⟩, _, _, _, _, _, SP.out.1, ?_, (BE.out.block _ (Array.getElem?_eq_some_iff.1 MT.out).1).trans MT.out, (BE.out.block _ (Array.getElem?_eq_some_iff.1 FT.out.1).1).trans FT.out.1⟩⟩⟩⟩
                refine StO.mono (StO.lower (StO.step RT9.out fun y hy => BE.out.block y (Nat.lt_of_lt_of_le hy.2 CT.out.size)) G5.out.base.size) fun y hy => .inl ?_
                by_cases h : y < w7.heap.size
                · exact .inl (.inr ⟨hy.1, h⟩)
                · exact .inr ⟨by omega, hy.2⟩
          · have hz : ¬ (be = 0) := he
            have BE := Hd.mk B9.out
            go_wp2_with fail
            go_roundg (l.length - (i + 1))
            case measure => have := LT.out; omega
            case rel =>
              refine ⟨i + 1, true, ⟨fw, fun y => (((K y ∨ (wr.heap.size ≤ y ∧ y < w4.heap.size)) ∨ (w5.heap.size ≤ y ∧ y < w7.heap.size)) ∨ (w7.heap.size ≤ y ∧ y < wc.heap.size)) ∨ (wT.heap.size ≤ y ∧ y < w9.heap.size), fun y => w9.heap[y]?⟩, _, _, _, _, rfl, rfl, nx LT.out (by have := H6.out; omega), by have := LT.out; omega, ⟨⟨rfl, ⟨_, _, _, by rw [← LL.out]; exact GT.out.grow BE.out⟩, I5.out, .inl (.inl (.inl (.inl IQ.out.k9))), .inl (.inl (.inl (.inl IQ.out.k10))), IQ.out.ne, IQ.out.lo, fun h => absurd h (by simp), fun _ => ⟨S1, ⟨x.f2.f1, x.f2.f3, ⟨(iw : Int), sget S1.f0 (iw : Int)⟩⟩, _, _, _, _, _, SP.out.1, ?_, (BE.out.block _ (Array.getElem?_eq_some_iff.1 MT.out).1).trans MT.out, (BE.out.block _ (Array.getElem?_eq_some_iff.1 FT.out.1).1).trans FT.out.1⟩⟩⟩⟩
              refine StO.mono (StO.lower (StO.step RT9.out fun y hy => BE.out.block y (Nat.lt_of_lt_of_le hy.2 CT.out.size)) G5.out.base.size) fun y hy => .inl ?_
              by_cases h : y < w7.heap.size
              · exact .inl (.inr ⟨hy.1, h⟩)
              · exact .inr ⟨by omega, hy.2⟩
end Go.Proofs.YtmeaeapopfcmbaaGreat
