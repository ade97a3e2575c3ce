/- GradeChains: the walk of the law. No conditions. -/
import Derived.Test.YtnbdfmdjedakcaaH20
import Derived.Test.YtnbdfmdjedakcaaDC
import Derived.Test.YtnbdfmdjedakcaaQ18
import Derived.Test.YtnbdfmdjedakcaaQ23
import Derived.Test.YtnbdfmdjedakcaaQ42
import Derived.Test.YtnbdfmdjedakcaaQ44
namespace Go.Proofs.Ytnbdfmdjedakcaa
open Go.RowKit Go.Proofs.YtnbdfmdjedakcaaW.PrintWords Go.Proofs.YtnbdfmdjedakcaaW.PrintLast Go.Proofs.YtnbdfmdjedakcaaW.PrintMore PP
set_option linter.unusedVariables false
set_option linter.unusedSimpArgs false
theorem same_any (w : World) (A B : Option Addr) (c d : Nat) (l : List Int) (hA : Kd.C (Kd.int .i64) w A l.length l) (hB : Kd.C (Kd.int .i64) w B l.length l) (hc : l.length ≤ c) (hd : l.length ≤ d) (k : Nat) (hk : kimberlitelaw02_same.f k l l = some true) : Calls Try.prog 23 #[.slice A l.length c, .slice B l.length d] w fun e w' => e = .returned (.bool true) ∧ Below w.heap.size w w' :=
  (kimberlitelaw02_same.calls k A c l B d l true w hA hc hB hd hk).mono fun e w' ⟨h1, n, h2⟩ => ⟨h1, by rw [h2]; exact bel_drewN' w n⟩
set_option maxRecDepth 100000 in
set_option maxHeartbeats 4000000 in
theorem chains_many (w : World) (A : Option Addr) (ca : Nat) (a : List S36) (ha : ¬ a.length ≤ 40) (k : Nat) (g7 : kimberlitelaw02_alive.f k = some true) :
    Calls Try.prog 7 #[.slice A a.length ca] w fun e w' => e = .returned (.bool true) ∧ Below w.heap.size w w' := by
  have G7 := Hd.mk g7
  have hgt : (a.length : Int) > 40 := by omega
  have hd := decide_eq_true hgt
  clear g7 ha
  go_enter Try.func7, Try.ntmps7
  go_wp2_with fail
  refine (kimberlitelaw02_alive.calls k true _ G7.out).mono ?_
  rintro e w1 ⟨rfl, hb⟩
  go_wp2_with fail
  go_ret
  exact ⟨rfl, hb⟩
set_option maxRecDepth 100000 in
set_option maxHeartbeats 8000000 in
theorem chains_main (w : World) (A : Option Addr) (ca : Nat) (a : List S36) (hA : Kd.C k36 w A a.length a) (hca : a.length ≤ ca) (ha : a.length ≤ 40) (k : Nat) (n : Int) (xs at_ : List Int)
    (f1 : widthF a = some (n, xs, 0)) (f2 : kimberliteref02_Width.f k a = some (n, xs, 0)) (f3 : chainF a = some (at_, n, 0)) (f4 : kimberliteref02_Chained.f k a at_ n = some true) (f5 : kimberlitelaw02_same.f k xs xs = some true)
    (g5 : kimberlitelaw02_alike.f k a a = some true) (g7 : kimberlitelaw02_alive.f k = some true) :
    Calls Try.prog 7 #[.slice A a.length ca] w fun e w' => e = .returned (.bool true) ∧ Below w.heap.size w w' := by
  have q1 : (n != n) = false := bne_self_eq_false _
  have q2 : (n == n) = true := beq_self_eq_true _
  have hgt : ¬ (a.length : Int) > 40 := by omega
  have hd := decide_eq_false hgt
  have HA := Hd.mk (fun W (h : Below w.heap.size w W) => Kd.C_below hA h)
  have KA := Hd.mk hca
  have M0 := Hd.mk ha
  have F1 := Hd.mk f1
  have F2 := Hd.mk f2
  have F3 := Hd.mk f3
  have F4 := Hd.mk f4
  have F5 := Hd.mk f5
  have G5 := Hd.mk g5
  have G7 := Hd.mk g7
  have B0 := Hd.mk (Below.refl w.heap.size w)
  clear hA hca ha f1 f2 f3 f4 f5 g5 g7
  go_enter Try.func7, Try.ntmps7
  go_wp2_with fail
  refine (own_any _ A ca a (HA.out _ B0.out) (by have := M0.out; omega)).mono ?_
  rintro e w1 ⟨rfl, ho, hb⟩
  have B1 := Hd.mk hb
  have O1 := Hd.mk ho
  clear hb ho
  go_wp2_with fail
  refine (width_any _ (some ⟨w.heap.size, 0, none⟩) (a.length + 1) a (O1.out.C (by have := M0.out; omega)) n xs 0 F1.out).mono ?_
  rintro e w2 ⟨v, rfl, hR, hb⟩
  obtain ⟨Ap, cp, rfl, hl, hC⟩ := Kd.R_reads hR
  have LP := Hd.mk hl
  have CP := Hd.mk hC
  have B2 := Hd.mk (B1.out.trans (hb.mono B1.out.size))
  have O2 := Hd.mk (O1.out.below hb)
  clear hb hR hl hC O1
  go_wp2_with fail
  refine (kimberliteref02_Width.calls k A ca a n xs 0 _ (HA.out _ B2.out) KA.out F2.out).mono ?_
  rintro e w3 ⟨v, rfl, hR, hb⟩
  obtain ⟨Ar, cr, rfl, hl, hC⟩ := Kd.R_reads hR
  have LR := Hd.mk hl
  have CR := Hd.mk hC
  have CQ := Hd.mk (Kd.C_below CP.out hb)
  have B3 := Hd.mk (B2.out.trans (hb.mono B2.out.size))
  have O3 := Hd.mk (O2.out.below hb)
  clear hb hR hl hC O2 CP
  go_wp2_with fail
  refine (same_any _ Ap Ar cp cr xs CQ.out CR.out LP.out LR.out k F5.out).mono ?_
  rintro e w4 ⟨rfl, hb⟩
  have B4 := Hd.mk (B3.out.trans (hb.mono B3.out.size))
  have O4 := Hd.mk (O3.out.below hb)
  clear hb O3
  go_wp2_with fail
  refine (chains_any _ (some ⟨w.heap.size, 0, none⟩) (a.length + 1) a (O4.out.C (by have := M0.out; omega)) at_ n 0 F3.out).mono ?_
  rintro e w5 ⟨v, rfl, hR, hb⟩
  obtain ⟨Ac, cc, rfl, hl, hC⟩ := Kd.R_reads hR
  have LC := Hd.mk hl
  have CC := Hd.mk hC
  have B5 := Hd.mk (B4.out.trans (hb.mono B4.out.size))
  have O5 := Hd.mk (O4.out.below hb)
  clear hb hR hl hC O4
  go_wp2_with fail
  refine (kimberliteref02_Chained.calls k A ca a Ac cc at_ n true _ (HA.out _ B5.out) KA.out CC.out LC.out F4.out).mono ?_
  rintro e w6 ⟨rfl, hb⟩
  have B6 := Hd.mk (B5.out.trans (hb.mono B5.out.size))
  have O6 := Hd.mk (O5.out.below hb)
  clear hb O5
  go_wp2_with fail
  refine (kept_any _ w.heap.size A ca a O6.out (HA.out _ B6.out) (by have := M0.out; omega) KA.out k G5.out).mono ?_
  rintro e w7 ⟨rfl, hb⟩
  have B7 := Hd.mk (B6.out.trans (hb.mono B6.out.size))
  clear hb
  go_wp2_with fail
  refine (kimberlitelaw02_alive.calls k true _ G7.out).mono ?_
  rintro e w8 ⟨rfl, hb⟩
  have B8 := Hd.mk (B7.out.trans (hb.mono B7.out.size))
  clear hb
  go_wp2_with fail
  go_ret
  exact ⟨rfl, B8.out⟩
set_option maxRecDepth 100000 in
set_option maxHeartbeats 8000000 in
theorem chains_err (w : World) (A : Option Addr) (ca : Nat) (a : List S36) (hA : Kd.C k36 w A a.length a) (hca : a.length ≤ ca) (ha : a.length ≤ 40) (k : Nat) (z : Int) (hz : z ≠ 0)
    (f1 : widthF a = some (0, [], z)) (f2 : kimberliteref02_Width.f k a = some (0, [], z)) (f3 : chainF a = some ([], 0, z)) (f5 : kimberlitelaw02_same.f k [] [] = some true)
    (g5 : kimberlitelaw02_alike.f k a a = some true) (g7 : kimberlitelaw02_alive.f k = some true) :
    Calls Try.prog 7 #[.slice A a.length ca] w fun e w' => e = .returned (.bool true) ∧ Below w.heap.size w w' := by
  have q1 : (z != z) = false := bne_self_eq_false _
  have q2 : (z == z) = true := beq_self_eq_true _
  have q3 : (z != 0) = true := by simpa using hz
  have q4 : (z == 0) = false := by simpa using hz
  have hgt : ¬ (a.length : Int) > 40 := by omega
  have hd := decide_eq_false hgt
  have HA := Hd.mk (fun W (h : Below w.heap.size w W) => Kd.C_below hA h)
  have KA := Hd.mk hca
  have M0 := Hd.mk ha
  have F1 := Hd.mk f1
  have F2 := Hd.mk f2
  have F3 := Hd.mk f3
  have F5 := Hd.mk f5
  have G5 := Hd.mk g5
  have G7 := Hd.mk g7
  have B0 := Hd.mk (Below.refl w.heap.size w)
  clear hA hca ha f1 f2 f3 f5 g5 g7 hz
  go_enter Try.func7, Try.ntmps7
  go_wp2_with fail
  refine (own_any _ A ca a (HA.out _ B0.out) (by have := M0.out; omega)).mono ?_
  rintro e w1 ⟨rfl, ho, hb⟩
  have B1 := Hd.mk hb
  have O1 := Hd.mk ho
  clear hb ho
  go_wp2_with fail
  refine (width_any _ (some ⟨w.heap.size, 0, none⟩) (a.length + 1) a (O1.out.C (by have := M0.out; omega)) 0 [] z F1.out).mono ?_
  rintro e w2 ⟨v, rfl, hR, hb⟩
  obtain ⟨Ap, cp, rfl, hl, hC⟩ := Kd.R_reads hR
  have LP := Hd.mk hl
  have CP := Hd.mk hC
  have B2 := Hd.mk (B1.out.trans (hb.mono B1.out.size))
  have O2 := Hd.mk (O1.out.below hb)
  clear hb hR hl hC O1
  go_wp2_with fail
  refine (kimberliteref02_Width.calls k A ca a 0 [] z _ (HA.out _ B2.out) KA.out F2.out).mono ?_
  rintro e w3 ⟨v, rfl, hR, hb⟩
  obtain ⟨Ar, cr, rfl, hl, hC⟩ := Kd.R_reads hR
  have LR := Hd.mk hl
  have CR := Hd.mk hC
  have CQ := Hd.mk (Kd.C_below CP.out hb)
  have B3 := Hd.mk (B2.out.trans (hb.mono B2.out.size))
  have O3 := Hd.mk (O2.out.below hb)
  clear hb hR hl hC O2 CP
  go_wp2_with fail
  refine (same_any _ Ap Ar cp cr [] CQ.out CR.out LP.out LR.out k F5.out).mono ?_
  rintro e w4 ⟨rfl, hb⟩
  have B4 := Hd.mk (B3.out.trans (hb.mono B3.out.size))
  have O4 := Hd.mk (O3.out.below hb)
  clear hb O3
  go_wp2_with fail
  refine (chains_any _ (some ⟨w.heap.size, 0, none⟩) (a.length + 1) a (O4.out.C (by have := M0.out; omega)) [] 0 z F3.out).mono ?_
  rintro e w5 ⟨v, rfl, hR, hb⟩
  obtain ⟨Ac, cc, rfl, hl, hC⟩ := Kd.R_reads hR
  have B5 := Hd.mk (B4.out.trans (hb.mono B4.out.size))
  have O5 := Hd.mk (O4.out.below hb)
  clear hb hR hl hC O4
  go_wp2_with fail
  refine (kept_any _ w.heap.size A ca a O5.out (HA.out _ B5.out) (by have := M0.out; omega) KA.out k G5.out).mono ?_
  rintro e w7 ⟨rfl, hb⟩
  have B7 := Hd.mk (B5.out.trans (hb.mono B5.out.size))
  clear hb
  go_wp2_with fail
  refine (kimberlitelaw02_alive.calls k true _ G7.out).mono ?_
  rintro e w8 ⟨rfl, hb⟩
  have B8 := Hd.mk (B7.out.trans (hb.mono B7.out.size))
  clear hb
  go_wp2_with fail
  go_ret
  exact ⟨rfl, B8.out⟩
end Go.Proofs.Ytnbdfmdjedakcaa
