/- No conditions. -/
import Derived.Test.YtnbdfmdjedakcaaHD
import Derived.Test.YtnbdfmdjedakcaaQ18
import Derived.Test.YtnbdfmdjedakcaaQ33
import Derived.Test.YtnbdfmdjedakcaaQ51
import Derived.Test.YtnbdfmdjedakcaaQ56
import Derived.Test.YtnbdfmdjedakcaaQ57
import Derived.Test.YtnbdfmdjedakcaaQ58
import Derived.Test.YtnbdfmdjedakcaaQ59
import Derived.Test.YtnbdfmdjedakcaaQ60
namespace Go.Proofs.Ytnbdfmdjedakcaa
open Go.RowKit Go.Proofs.YtnbdfmdjedakcaaW.PrintWords Go.Proofs.YtnbdfmdjedakcaaW.PrintLast Go.Proofs.YtnbdfmdjedakcaaW.PrintMore PP
theorem few_any (w : World) (A : Option Addr) (c : Nat) (l : List S36) (hC : Kd.C k36 w A l.length l) (hc : l.length ≤ c) (r : Bool) (hr : decide ((l.length : Int) ≤ 260) = r) : Calls Try.prog 33 #[.slice A l.length c] w fun e w' => e = .returned (.bool r) ∧ Below w.heap.size w w' :=
 (kimberlitelaw02_few.calls A c l r w hC hc (by unfold kimberlitelaw02_few.f; rw [hr])).mono fun e w' ⟨h1, n, h2⟩ => ⟨h1, by rw [h2]; exact bel_drewN' w n⟩
theorem alike_any (w : World) (A B : Option Addr) (c d : Nat) (l : List S36) (hA : Kd.C k36 w A l.length l) (hB : Kd.C k36 w B l.length l) (hc : l.length ≤ c) (hd : l.length ≤ d) (k : Nat) (hk : kimberlitelaw02_alike.f k l l = some true) : Calls Try.prog 37 #[.slice A l.length c, .slice B l.length d] w fun e w' => e = .returned (.bool true) ∧ Below w.heap.size w w' :=
 (kimberlitelaw02_alike.calls k A c l B d l true w hA hc hB hd hk).mono fun e w' ⟨h1, n, h2⟩ => ⟨h1, by rw [h2]; exact bel_drewN' w n⟩
set_option maxRecDepth 100000 in
set_option maxHeartbeats 4000000 in
theorem classes_many (w : World) (A B : Option Addr) (ca cb : Nat) (a b : List S36) (x : S36) (hA : Kd.C k36 w A a.length a) (hB : Kd.C k36 w B b.length b) (hca : a.length ≤ ca) (hcb : b.length ≤ cb) (hab : ¬ (a.length ≤ 260 ∧ b.length ≤ 260)) (k : Nat) (g7 : kimberlitelaw02_alive.f k = some true) :
  Calls Try.prog 13 #[.slice A a.length ca, .slice B b.length cb, .agg #[.int .i64 x.f0, .int .i64 x.f1, .int .i64 x.f2]] w fun e w' => e = .returned (.bool true) ∧ Below w.heap.size w w' := by
 have hu36 := Try.underlying36
 have BW := Hd.mk ((Below.refl _ w).alloc (Nat.le_refl _) (.cells #[.int .i64 x.f0, .int .i64 x.f1, .int .i64 x.f2] 36))
 have HA := Hd.mk (fun W (h : Below w.heap.size w W) => Kd.C_below hA h)
 have HB := Hd.mk (fun W (h : Below w.heap.size w W) => Kd.C_below hB h)
 have KA := Hd.mk hca
 have KB := Hd.mk hcb
 have G7 := Hd.mk g7
 by_cases ha : a.length ≤ 260
 ·have hb : ¬ b.length ≤ 260 := fun h => hab ⟨ha, h⟩
  have M0 := Hd.mk ha
  have M1 := Hd.mk hb
  clear hA hB hca hcb hab g7 ha hb
  go_enter Try.func13, Try.ntmps13
  go_wp2_with fail
  refine (few_any _ A ca a (HA.out _ BW.out) KA.out true (decide_eq_true (by have := M0.out; omega))).mono ?_
  rintro e w1 ⟨rfl, hb⟩
  have B1 := Hd.mk (BW.out.trans (hb.mono BW.out.size))
  clear hb
  go_wp2_with fail
  refine (few_any _ B cb b (HB.out _ B1.out) KB.out false (decide_eq_false (by have := M1.out; omega))).mono ?_
  rintro e w2 ⟨rfl, hb⟩
  have B2 := Hd.mk (B1.out.trans (hb.mono B1.out.size))
  clear hb
  go_wp2_with fail
  refine (kimberlitelaw02_alive.calls k true _ G7.out).mono ?_
  rintro e w3 ⟨rfl, hb⟩
  have B3 := Hd.mk (B2.out.trans (hb.mono B2.out.size))
  clear hb
  go_wp2_with fail
  go_ret
  exact ⟨rfl, B3.out⟩
 ·have M0 := Hd.mk ha
  clear hA hB hca hcb hab g7 ha
  go_enter Try.func13, Try.ntmps13
  go_wp2_with fail
  refine (few_any _ A ca a (HA.out _ BW.out) KA.out false (decide_eq_false (by have := M0.out; omega))).mono ?_
  rintro e w1 ⟨rfl, hb⟩
  have B1 := Hd.mk (BW.out.trans (hb.mono BW.out.size))
  clear hb
  go_wp2_with fail
  refine (kimberlitelaw02_alive.calls k true _ G7.out).mono ?_
  rintro e w3 ⟨rfl, hb⟩
  have B3 := Hd.mk (B1.out.trans (hb.mono B1.out.size))
  clear hb
  go_wp2_with fail
  go_ret
  exact ⟨rfl, B3.out⟩
set_option maxRecDepth 100000 in
set_option maxHeartbeats 16000000 in
theorem classes_main (w : World) (A B : Option Addr) (ca cb : Nat) (a b : List S36) (x : S36) (hA : Kd.C k36 w A a.length a) (hB : Kd.C k36 w B b.length b) (hca : a.length ≤ ca) (hcb : b.length ≤ cb) (ha : a.length ≤ 260) (hb : b.length ≤ 260) (k : Nat)
  (E T O Y : List S36 × Int) (hE : E = eitF a b) (hT : T = botF a b) (hO : O = outF a) (hY : Y = beyF a) (n z z2 : Int) (r : Bool)
  (f1 : kimberliteref02_Two.f k a b false = some (E.1, E.2)) (f2 : kimberliteref02_Two.f k a b true = some (T.1, T.2)) (f3 : kimberliteref02_Outside.f k a = some (O.1, O.2)) (f4 : kimberliteref02_Beyond.f k a = some (Y.1, Y.2))
  (f5 : grade_Count.f k a = some (n, z)) (f6 : kimberliteref02_Count.f k a = some (n, z)) (f7 : grade_In.f k a x.f0 x.f1 x.f2 = some (r, z2)) (f8 : kimberliteref02_In.f k a x.f0 x.f1 x.f2 = some (r, z2))
  (g1 : kimberlitelaw02_alike.f k E.1 E.1 = some true) (g2 : kimberlitelaw02_alike.f k T.1 T.1 = some true) (g3 : kimberlitelaw02_alike.f k O.1 O.1 = some true) (g4 : kimberlitelaw02_alike.f k Y.1 Y.1 = some true)
  (g5 : kimberlitelaw02_alike.f k a a = some true) (g6 : kimberlitelaw02_alike.f k b b = some true) (g7 : kimberlitelaw02_alive.f k = some true) :
  Calls Try.prog 13 #[.slice A a.length ca, .slice B b.length cb, .agg #[.int .i64 x.f0, .int .i64 x.f1, .int .i64 x.f2]] w fun e w' => e = .returned (.bool true) ∧ Below w.heap.size w w' := by
 have hu36 := Try.underlying36
 obtain ⟨E1, E2⟩ := E
 obtain ⟨T1, T2⟩ := T
 obtain ⟨O1, O2⟩ := O
 obtain ⟨Y1, Y2⟩ := Y
 simp only at f1 f2 f3 f4 g1 g2 g3 g4
 have q1 : (E2 != E2) = false := bne_self_eq_false _
 have q2 : (T2 != T2) = false := bne_self_eq_false _
 have q3 : (O2 != O2) = false := bne_self_eq_false _
 have q4 : (Y2 != Y2) = false := bne_self_eq_false _
 have q5 : (n == n) = true := beq_self_eq_true _
 have q6 : (z == z) = true := beq_self_eq_true _
 have q7 : (z2 == z2) = true := beq_self_eq_true _
 have q8 : (r == r) = true := beq_self_eq_true _
 have BW := Hd.mk ((Below.refl _ w).alloc (Nat.le_refl _) (.cells #[.int .i64 x.f0, .int .i64 x.f1, .int .i64 x.f2] 36))
 have hgb := blk_new w (.cells #[.int .i64 x.f0, .int .i64 x.f1, .int .i64 x.f2] 36)
 have hAa := Kd.C_below hA BW.out
 have hBa := Kd.C_below hB BW.out
 clear hA hB
 go_enter Try.func13, Try.ntmps13
 go_wp2_with fail
 generalize w.alloc (.cells #[.int .i64 x.f0, .int .i64 x.f1, .int .i64 x.f2] 36) = w0 at *
 have GB := Hd.mk hgb
 have HA := Hd.mk (fun W (h : Below w0.heap.size w0 W) => Kd.C_below hAa h)
 have HB := Hd.mk (fun W (h : Below w0.heap.size w0 W) => Kd.C_below hBa h)
 have LA := Hd.mk (show a.length ≤ 1000000 by omega)
 have LB := Hd.mk (show b.length ≤ 1000000 by omega)
 have KA := Hd.mk hca
 have KB := Hd.mk hcb
 have M0 := Hd.mk ha
 have M1 := Hd.mk hb
 have F1h := Hd.mk f1
 have F2h := Hd.mk f2
 have F3h := Hd.mk f3
 have F4h := Hd.mk f4
 have F5h := Hd.mk f5
 have F6h := Hd.mk f6
 have F7h := Hd.mk f7
 have F8h := Hd.mk f8
 have G1h := Hd.mk g1
 have G2h := Hd.mk g2
 have G3h := Hd.mk g3
 have G4h := Hd.mk g4
 have G5h := Hd.mk g5
 have G6h := Hd.mk g6
 have G7h := Hd.mk g7
 have HEh := Hd.mk hE
 have HTh := Hd.mk hT
 have HOh := Hd.mk hO
 have HYh := Hd.mk hY
 clear f1 f2 f3 f4 f5 f6 f7 f8 g1 g2 g3 g4 g5 g6 g7 hE hT hO hY hgb hAa hBa hca hcb ha hb
 have B0 := Hd.mk (Below.refl w0.heap.size w0)
 refine (few_any _ A ca a (HA.out _ B0.out) KA.out true (decide_eq_true (by have := M0.out; omega))).mono ?_
 rintro e w1 ⟨rfl, hb⟩
 have B1 := Hd.mk (B0.out.trans (hb.mono B0.out.size))
 clear hb
 go_wp2_with fail
 refine (few_any _ B cb b (HB.out _ B1.out) KB.out true (decide_eq_true (by have := M1.out; omega))).mono ?_
 rintro e w2 ⟨rfl, hb⟩
 have B2 := Hd.mk (B1.out.trans (hb.mono B1.out.size))
 clear hb
 go_wp2_with fail
 refine (own_any _ A ca a (HA.out _ B2.out) (by have := M0.out; omega)).mono ?_
 rintro e w3 ⟨rfl, ho, hb⟩
 have B3 := Hd.mk (B2.out.trans (hb.mono B2.out.size))
 have OA3 := Hd.mk ho
 clear ho
 clear hb
 go_wp2_with fail
 refine (own_any _ B cb b (HB.out _ B3.out) (by have := M1.out; omega)).mono ?_
 rintro e w4 ⟨rfl, ho, hb⟩
 have B4 := Hd.mk (B3.out.trans (hb.mono B3.out.size))
 have OB := Hd.mk ho
 have OA := Hd.mk (OA3.out.below hb)
 clear ho OA3
 clear hb
 go_wp2_with fail
 have hcall := either_any _ (some ⟨w2.heap.size, 0, none⟩) (some ⟨w3.heap.size, 0, none⟩) (a.length + 1) (b.length + 1) a b (OA.out.C LA.out) (OB.out.C LB.out) (by omega) (by omega) LA.out LB.out
 rw [← HEh.out] at hcall
 refine hcall.mono ?_
 clear hcall
 rintro e w5 ⟨v, rfl, hR, hb⟩
 obtain ⟨Ap5, cp5, rfl, hl, hC⟩ := Kd.R_reads hR
 have B5 := Hd.mk (B4.out.trans (hb.mono B4.out.size))
 have LP5 := Hd.mk hl
 have CP5 := Hd.mk hC
 have OAn := Hd.mk (OA.out.below hb)
 have OBn := Hd.mk (OB.out.below hb)
 clear OA OB
 have OA := Hd.mk OAn.out
 have OB := Hd.mk OBn.out
 clear OAn OBn
 clear hb hR hl hC
 go_wp2_with fail
 refine (kimberliteref02_Two.calls k A ca a B cb b false E1 E2 _ (HA.out _ B5.out) KA.out (HB.out _ B5.out) KB.out F1h.out).mono ?_
 rintro e w6 ⟨v, rfl, hR, hb⟩
 obtain ⟨Ar6, cr6, rfl, hl, hC⟩ := Kd.R_reads hR
 have B6 := Hd.mk (B5.out.trans (hb.mono B5.out.size))
 have LR6 := Hd.mk hl
 have CR6 := Hd.mk hC
 have CQ6 := Hd.mk (Kd.C_below CP5.out hb)
 have OAn := Hd.mk (OA.out.below hb)
 have OBn := Hd.mk (OB.out.below hb)
 clear OA OB
 have OA := Hd.mk OAn.out
 have OB := Hd.mk OBn.out
 clear OAn OBn
 clear hb hR hl hC
 go_wp2_with fail
 refine (alike_any _ Ap5 Ar6 cp5 cr6 E1 CQ6.out CR6.out LP5.out LR6.out k G1h.out).mono ?_
 rintro e w7 ⟨rfl, hb⟩
 have B7 := Hd.mk (B6.out.trans (hb.mono B6.out.size))
 have OAn := Hd.mk (OA.out.below hb)
 have OBn := Hd.mk (OB.out.below hb)
 clear OA OB
 have OA := Hd.mk OAn.out
 have OB := Hd.mk OBn.out
 clear OAn OBn
 clear hb
 go_wp2_with fail
 have hcall := both_any _ (some ⟨w2.heap.size, 0, none⟩) (some ⟨w3.heap.size, 0, none⟩) (a.length + 1) (b.length + 1) a b (OA.out.C LA.out) (OB.out.C LB.out) (by omega) (by omega) LA.out LB.out
 rw [← HTh.out] at hcall
 refine hcall.mono ?_
 clear hcall
 rintro e w8 ⟨v, rfl, hR, hb⟩
 obtain ⟨Ap8, cp8, rfl, hl, hC⟩ := Kd.R_reads hR
 have B8 := Hd.mk (B7.out.trans (hb.mono B7.out.size))
 have LP8 := Hd.mk hl
 have CP8 := Hd.mk hC
 have OAn := Hd.mk (OA.out.below hb)
 have OBn := Hd.mk (OB.out.below hb)
 clear OA OB
 have OA := Hd.mk OAn.out
 have OB := Hd.mk OBn.out
 clear OAn OBn
 clear hb hR hl hC
 go_wp2_with fail
 refine (kimberliteref02_Two.calls k A ca a B cb b true T1 T2 _ (HA.out _ B8.out) KA.out (HB.out _ B8.out) KB.out F2h.out).mono ?_
 rintro e w9 ⟨v, rfl, hR, hb⟩
 obtain ⟨Ar9, cr9, rfl, hl, hC⟩ := Kd.R_reads hR
 have B9 := Hd.mk (B8.out.trans (hb.mono B8.out.size))
 have LR9 := Hd.mk hl
 have CR9 := Hd.mk hC
 have CQ9 := Hd.mk (Kd.C_below CP8.out hb)
 have OAn := Hd.mk (OA.out.below hb)
 have OBn := Hd.mk (OB.out.below hb)
 clear OA OB
 have OA := Hd.mk OAn.out
 have OB := Hd.mk OBn.out
 clear OAn OBn
 clear hb hR hl hC
 go_wp2_with fail
 refine (alike_any _ Ap8 Ar9 cp8 cr9 T1 CQ9.out CR9.out LP8.out LR9.out k G2h.out).mono ?_
 rintro e w10 ⟨rfl, hb⟩
 have B10 := Hd.mk (B9.out.trans (hb.mono B9.out.size))
 have OAn := Hd.mk (OA.out.below hb)
 have OBn := Hd.mk (OB.out.below hb)
 clear OA OB
 have OA := Hd.mk OAn.out
 have OB := Hd.mk OBn.out
 clear OAn OBn
 clear hb
 go_wp2_with fail
 have hcall := outside_any _ (some ⟨w2.heap.size, 0, none⟩) (a.length + 1) a (OA.out.C LA.out) (by omega) LA.out
 rw [← HOh.out] at hcall
 refine hcall.mono ?_
 clear hcall
 rintro e w11 ⟨v, rfl, hR, hb⟩
 obtain ⟨Ap11, cp11, rfl, hl, hC⟩ := Kd.R_reads hR
 have B11 := Hd.mk (B10.out.trans (hb.mono B10.out.size))
 have LP11 := Hd.mk hl
 have CP11 := Hd.mk hC
 have OAn := Hd.mk (OA.out.below hb)
 have OBn := Hd.mk (OB.out.below hb)
 clear OA OB
 have OA := Hd.mk OAn.out
 have OB := Hd.mk OBn.out
 clear OAn OBn
 clear hb hR hl hC
 go_wp2_with fail
 refine (kimberliteref02_Outside.calls k A ca a O1 O2 _ (HA.out _ B11.out) KA.out F3h.out).mono ?_
 rintro e w12 ⟨v, rfl, hR, hb⟩
 obtain ⟨Ar12, cr12, rfl, hl, hC⟩ := Kd.R_reads hR
 have B12 := Hd.mk (B11.out.trans (hb.mono B11.out.size))
 have LR12 := Hd.mk hl
 have CR12 := Hd.mk hC
 have CQ12 := Hd.mk (Kd.C_below CP11.out hb)
 have OAn := Hd.mk (OA.out.below hb)
 have OBn := Hd.mk (OB.out.below hb)
 clear OA OB
 have OA := Hd.mk OAn.out
 have OB := Hd.mk OBn.out
 clear OAn OBn
 clear hb hR hl hC
 go_wp2_with fail
 refine (alike_any _ Ap11 Ar12 cp11 cr12 O1 CQ12.out CR12.out LP11.out LR12.out k G3h.out).mono ?_
 rintro e w13 ⟨rfl, hb⟩
 have B13 := Hd.mk (B12.out.trans (hb.mono B12.out.size))
 have OAn := Hd.mk (OA.out.below hb)
 have OBn := Hd.mk (OB.out.below hb)
 clear OA OB
 have OA := Hd.mk OAn.out
 have OB := Hd.mk OBn.out
 clear OAn OBn
 clear hb
 go_wp2_with fail
 have hcall := beyond_any _ (some ⟨w2.heap.size, 0, none⟩) (a.length + 1) a (OA.out.C LA.out) (by omega) LA.out
 rw [← HYh.out] at hcall
 refine hcall.mono ?_
 clear hcall
 rintro e w14 ⟨v, rfl, hR, hb⟩
 obtain ⟨Ap14, cp14, rfl, hl, hC⟩ := Kd.R_reads hR
 have B14 := Hd.mk (B13.out.trans (hb.mono B13.out.size))
 have LP14 := Hd.mk hl
 have CP14 := Hd.mk hC
 have OAn := Hd.mk (OA.out.below hb)
 have OBn := Hd.mk (OB.out.below hb)
 clear OA OB
 have OA := Hd.mk OAn.out
 have OB := Hd.mk OBn.out
 clear OAn OBn
 clear hb hR hl hC
 go_wp2_with fail
 refine (kimberliteref02_Beyond.calls k A ca a Y1 Y2 _ (HA.out _ B14.out) KA.out F4h.out).mono ?_
 rintro e w15 ⟨v, rfl, hR, hb⟩
 obtain ⟨Ar15, cr15, rfl, hl, hC⟩ := Kd.R_reads hR
 have B15 := Hd.mk (B14.out.trans (hb.mono B14.out.size))
 have LR15 := Hd.mk hl
 have CR15 := Hd.mk hC
 have CQ15 := Hd.mk (Kd.C_below CP14.out hb)
 have OAn := Hd.mk (OA.out.below hb)
 have OBn := Hd.mk (OB.out.below hb)
 clear OA OB
 have OA := Hd.mk OAn.out
 have OB := Hd.mk OBn.out
 clear OAn OBn
 clear hb hR hl hC
 go_wp2_with fail
 refine (alike_any _ Ap14 Ar15 cp14 cr15 Y1 CQ15.out CR15.out LP14.out LR15.out k G4h.out).mono ?_
 rintro e w16 ⟨rfl, hb⟩
 have B16 := Hd.mk (B15.out.trans (hb.mono B15.out.size))
 have OAn := Hd.mk (OA.out.below hb)
 have OBn := Hd.mk (OB.out.below hb)
 clear OA OB
 have OA := Hd.mk OAn.out
 have OB := Hd.mk OBn.out
 clear OAn OBn
 clear hb
 go_wp2_with fail
 refine (grade_Count.calls k (some ⟨w2.heap.size, 0, none⟩) (a.length + 1) a n z _ (OA.out.C LA.out) (by omega) F5h.out).mono ?_
 rintro e w17 ⟨rfl, hb⟩
 have B17 := Hd.mk (B16.out.trans (hb.mono B16.out.size))
 have OAn := Hd.mk (OA.out.below hb)
 have OBn := Hd.mk (OB.out.below hb)
 clear OA OB
 have OA := Hd.mk OAn.out
 have OB := Hd.mk OBn.out
 clear OAn OBn
 clear hb
 go_wp2_with fail
 refine (kimberliteref02_Count.calls k A ca a n z _ (HA.out _ B17.out) KA.out F6h.out).mono ?_
 rintro e w18 ⟨rfl, hb⟩
 have B18 := Hd.mk (B17.out.trans (hb.mono B17.out.size))
 have OAn := Hd.mk (OA.out.below hb)
 have OBn := Hd.mk (OB.out.below hb)
 clear OA OB
 have OA := Hd.mk OAn.out
 have OB := Hd.mk OBn.out
 clear OAn OBn
 clear hb
 have gb18 := (B18.out.block w.heap.size (Array.getElem?_eq_some_iff.1 GB.out).1).trans GB.out
 have y0 : w18.cell? ⟨w.heap.size, 0, none⟩ = some (.int .i64 x.f0) := (blk_cell gb18 0).trans rfl
 have y1 : w18.cell? ⟨w.heap.size, 1, none⟩ = some (.int .i64 x.f1) := (blk_cell gb18 1).trans rfl
 have y2 : w18.cell? ⟨w.heap.size, 2, none⟩ = some (.int .i64 x.f2) := (blk_cell gb18 2).trans rfl
 clear gb18
 go_wp2_with fail
 refine (grade_In.calls k (some ⟨w2.heap.size, 0, none⟩) (a.length + 1) a x.f0 x.f1 x.f2 r z2 _ (OA.out.C LA.out) (by omega) F7h.out).mono ?_
 rintro e w19 ⟨rfl, hb⟩
 have B19 := Hd.mk (B18.out.trans (hb.mono B18.out.size))
 have OAn := Hd.mk (OA.out.below hb)
 have OBn := Hd.mk (OB.out.below hb)
 clear OA OB
 have OA := Hd.mk OAn.out
 have OB := Hd.mk OBn.out
 clear OAn OBn
 clear y0 y1 y2
 clear hb
 have gb19 := (B19.out.block w.heap.size (Array.getElem?_eq_some_iff.1 GB.out).1).trans GB.out
 have y0 : w19.cell? ⟨w.heap.size, 0, none⟩ = some (.int .i64 x.f0) := (blk_cell gb19 0).trans rfl
 have y1 : w19.cell? ⟨w.heap.size, 1, none⟩ = some (.int .i64 x.f1) := (blk_cell gb19 1).trans rfl
 have y2 : w19.cell? ⟨w.heap.size, 2, none⟩ = some (.int .i64 x.f2) := (blk_cell gb19 2).trans rfl
 clear gb19
 go_wp2_with fail
 refine (kimberliteref02_In.calls k A ca a x.f0 x.f1 x.f2 r z2 _ (HA.out _ B19.out) KA.out F8h.out).mono ?_
 rintro e w20 ⟨rfl, hb⟩
 have B20 := Hd.mk (B19.out.trans (hb.mono B19.out.size))
 have OAn := Hd.mk (OA.out.below hb)
 have OBn := Hd.mk (OB.out.below hb)
 clear OA OB
 have OA := Hd.mk OAn.out
 have OB := Hd.mk OBn.out
 clear OAn OBn
 clear y0 y1 y2
 clear hb
 go_wp2_with fail
 refine (kept_any _ w2.heap.size A ca a OA.out (HA.out _ B20.out) (by have := M0.out; omega) KA.out k G5h.out).mono ?_
 rintro e w21 ⟨rfl, hb⟩
 have B21 := Hd.mk (B20.out.trans (hb.mono B20.out.size))
 have OAn := Hd.mk (OA.out.below hb)
 have OBn := Hd.mk (OB.out.below hb)
 clear OA OB
 have OA := Hd.mk OAn.out
 have OB := Hd.mk OBn.out
 clear OAn OBn
 clear hb
 go_wp2_with fail
 refine (kept_any _ w3.heap.size B cb b OB.out (HB.out _ B21.out) (by have := M1.out; omega) KB.out k G6h.out).mono ?_
 rintro e w22 ⟨rfl, hb⟩
 have B22 := Hd.mk (B21.out.trans (hb.mono B21.out.size))
 have OAn := Hd.mk (OA.out.below hb)
 have OBn := Hd.mk (OB.out.below hb)
 clear OA OB
 have OA := Hd.mk OAn.out
 have OB := Hd.mk OBn.out
 clear OAn OBn
 clear hb
 go_wp2_with fail
 refine (kimberlitelaw02_alive.calls k true _ G7h.out).mono ?_
 rintro e w23 ⟨rfl, hb⟩
 have B23 := Hd.mk (B22.out.trans (hb.mono B22.out.size))
 clear hb
 go_wp2_with fail
 go_ret
 exact ⟨rfl, BW.out.trans (B23.out.mono BW.out.size)⟩
end Go.Proofs.Ytnbdfmdjedakcaa
