/- No conditions. -/
import Derived.Test.YtnbdfmdjedakcaaQ0
import Derived.Test.YtnbdfmdjedakcaaQ63
import Derived.Test.YtnbdfmdjedakcaaQ69
import Derived.Test.YtnbdfmdjedakcaaExtS
namespace Go.Proofs.Ytnbdfmdjedakcaa.PP
open Go.RowKit Go.Proofs.YtnbdfmdjedakcaaW.PrintWords Go.Proofs.YtnbdfmdjedakcaaW.PrintLast Go.Proofs.YtnbdfmdjedakcaaW.PrintMore
attribute [local go_sem] max2_int min2_int max_two min_two max_three min_three max_four min_four
set_option linter.unusedVariables false
set_option linter.unusedSimpArgs false
noncomputable section
def z62_0 : Array Bool := #[false, false, false, false, false, false, false, false, false, false, false, false, false, false]
def z62_1 : Array Bool := #[true, false, false, false, false, false, false, false, false, false, false, false, false, false]
def z62_2 : Array Bool := #[true, true, false, false, false, false, false, false, false, false, false, false, false, false]
def z62_3 : Array Bool := #[true, true, true, false, false, false, false, false, false, false, false, false, false, false]
def z62_4 : Array Bool := #[true, true, true, true, false, false, false, false, false, false, false, false, false, false]
def z62_5 : Array Bool := #[true, true, true, true, true, false, false, false, false, false, false, false, false, false]
def z62_6 : Array Bool := #[true, true, true, true, true, false, true, false, false, false, false, false, false, false]
def z62_7 : Array Bool := #[true, true, true, true, true, false, true, true, false, false, false, false, false, false]
def z62_8 : Array Bool := #[true, true, true, true, true, false, true, true, true, false, false, false, false, false]
def z62_9 : Array Bool := #[true, true, true, true, true, false, true, true, true, true, false, false, false, false]
def z62_10 : Array Bool := #[true, true, true, true, true, true, true, true, true, true, false, false, false, false]
def z62_11 : Array Bool := #[true, true, true, true, true, true, true, true, true, true, true, false, false, false]
def z62_12 : Array Bool := #[true, true, true, true, true, true, true, true, true, true, true, true, false, false]
def z62_13 : Array Bool := #[true, true, true, true, true, true, true, true, true, true, true, true, true, false]
def z62_14 : Array Bool := #[true, true, true, true, true, true, true, true, true, true, true, true, true, true]
mutual
def kimberliteref02_Settle.l0 : Nat → List (S38) → List Int → Int → Option (List Int × Int × Int)
 | 0, _, _, _ => none
 | k + 1, x0, x6, x7 => if x7 < (x0.length : Int) then (if 0 ≤ x7 then (if x7 < (x6.length : Int) then (kimberliteref02_Settle.l1 k x0 (x6.set (x7 : Int).toNat 1073741824) x7 0) else (none)) else (none)) else (kimberliteref02_Settle.l2 k x0 x6 0)
def kimberliteref02_Settle.l1 : Nat → List (S38) → List Int → Int → Int → Option (List Int × Int × Int)
 | 0, _, _, _, _ => none
 | k + 1, x0, x6, x7, x8 => if x8 < (x0.length : Int) then (if 0 ≤ x7 then (if x7 < (x6.length : Int) then (if 0 ≤ x8 then (kimberliteref02_Settle.l1 k x0 (x6.set (x7 : Int).toNat (mn (rd x6 x7) ((rd_T38 x0 x8).f1))) x7 (wrap64 (x8 + 1))) else (none)) else (none)) else (none)) else (kimberliteref02_Settle.l0 k x0 x6 (wrap64 (x7 + 1)))
def kimberliteref02_Settle.l2 : Nat → List (S38) → List Int → Int → Option (List Int × Int × Int)
 | 0, _, _, _ => none
 | k + 1, x0, x6, x9 => if x9 < (x0.length : Int) then (if 0 ≤ x9 then ((kimberliteref02_atLeast.f x0 ((rd_T38 x0 x9).f1)).bind fun t1049 => (kimberliteref02_Settle.l3 k x0 x6 x9 t1049 0)) else (none)) else ((kimberliteref02_Loss.f k x0 x6).bind fun t1047 => (some (x6, t1047, 0)))
def kimberliteref02_Settle.l3 : Nat → List (S38) → List Int → Int → List Bool → Int → Option (List Int × Int × Int)
 | 0, _, _, _, _, _ => none
 | k + 1, x0, x6, x9, x10, x11 => if x11 < (x0.length : Int) then (if 0 ≤ x11 then (if x11 < (x10.length : Int) then (if rdOf false x10 x11 = true then (if x11 < (x6.length : Int) then (if 0 ≤ x9 then (if x9 < (x0.length : Int) then (kimberliteref02_Settle.l3 k x0 (x6.set (x11 : Int).toNat (mx (rd x6 x11) ((rd_T38 x0 x9).f1))) x9 x10 (wrap64 (x11 + 1))) else (none)) else (none)) else (none)) else (kimberliteref02_Settle.l3 k x0 x6 x9 x10 (wrap64 (x11 + 1)))) else (none)) else (none)) else (kimberliteref02_Settle.l2 k x0 x6 (wrap64 (x9 + 1)))
end
def kimberliteref02_Settle.f (k : Nat) (l0 : List (S38)) : Option (List Int × Int × Int) := (kimberliteref02_Quotes.f k l0).bind fun t1039 => (if t1039 = 0 then (if 0 ≤ (l0.length : Int) then (if ((l0.length : Int) : Int).toNat ≤ 35184372088832 then (kimberliteref02_Settle.l0 k l0 (List.replicate ((l0.length : Int) : Int).toNat 0) 0) else (none)) else (none)) else (some (([] : List Int), 0, t1039)))
theorem kimberliteref02_Settle.mono_l : ∀ k, (∀ y0 y1 y2, LeO (kimberliteref02_Settle.l0 k y0 y1 y2) (kimberliteref02_Settle.l0 (k + 1) y0 y1 y2)) ∧ (∀ y0 y1 y2 y3, LeO (kimberliteref02_Settle.l1 k y0 y1 y2 y3) (kimberliteref02_Settle.l1 (k + 1) y0 y1 y2 y3)) ∧ (∀ y0 y1 y2, LeO (kimberliteref02_Settle.l2 k y0 y1 y2) (kimberliteref02_Settle.l2 (k + 1) y0 y1 y2)) ∧ (∀ y0 y1 y2 y3 y4, LeO (kimberliteref02_Settle.l3 k y0 y1 y2 y3 y4) (kimberliteref02_Settle.l3 (k + 1) y0 y1 y2 y3 y4))
 | 0 => ⟨fun _ _ _ r h => by simp [kimberliteref02_Settle.l0] at h, fun _ _ _ _ r h => by simp [kimberliteref02_Settle.l1] at h, fun _ _ _ r h => by simp [kimberliteref02_Settle.l2] at h, fun _ _ _ _ _ r h => by simp [kimberliteref02_Settle.l3] at h⟩
 | k + 1 => by
  obtain ⟨ih0, ih1, ih2, ih3⟩ := kimberliteref02_Settle.mono_l k
  refine ⟨?_, ?_, ?_, ?_⟩
  ·intro y0 y1 y2
   unfold kimberliteref02_Settle.l0
   repeat' first
   | (with_reducible exact ih0 _ _ _)
   | (with_reducible exact ih1 _ _ _ _)
   | (with_reducible exact ih2 _ _ _)
   | (with_reducible exact ih3 _ _ _ _ _)
   | (with_reducible exact kimberliteref02_Loss.mono _ _ _)
   | (with_reducible exact kimberliteref02_Quotes.mono _ _)
   | (with_reducible exact LeO.refl _)
   | (with_reducible exact LeO.none _)
   | (with_reducible refine LeO.ite ?_ ?_)
   | (with_reducible refine LeO.bind ?_ (fun _ => ?_))
   | exact ih0 _ _ _
   | exact ih1 _ _ _ _
   | exact ih2 _ _ _
   | exact ih3 _ _ _ _ _
   | exact kimberliteref02_Loss.mono _ _ _
   | exact kimberliteref02_Quotes.mono _ _
   | exact LeO.none _
   | refine LeO.ite ?_ ?_
   | refine LeO.bind ?_ (fun _ => ?_)
  ·intro y0 y1 y2 y3
   unfold kimberliteref02_Settle.l1
   repeat' first
   | (with_reducible exact ih0 _ _ _)
   | (with_reducible exact ih1 _ _ _ _)
   | (with_reducible exact ih2 _ _ _)
   | (with_reducible exact ih3 _ _ _ _ _)
   | (with_reducible exact kimberliteref02_Loss.mono _ _ _)
   | (with_reducible exact kimberliteref02_Quotes.mono _ _)
   | (with_reducible exact LeO.refl _)
   | (with_reducible exact LeO.none _)
   | (with_reducible refine LeO.ite ?_ ?_)
   | (with_reducible refine LeO.bind ?_ (fun _ => ?_))
   | exact ih0 _ _ _
   | exact ih1 _ _ _ _
   | exact ih2 _ _ _
   | exact ih3 _ _ _ _ _
   | exact kimberliteref02_Loss.mono _ _ _
   | exact kimberliteref02_Quotes.mono _ _
   | exact LeO.none _
   | refine LeO.ite ?_ ?_
   | refine LeO.bind ?_ (fun _ => ?_)
  ·intro y0 y1 y2
   unfold kimberliteref02_Settle.l2
   repeat' first
   | (with_reducible exact ih0 _ _ _)
   | (with_reducible exact ih1 _ _ _ _)
   | (with_reducible exact ih2 _ _ _)
   | (with_reducible exact ih3 _ _ _ _ _)
   | (with_reducible exact kimberliteref02_Loss.mono _ _ _)
   | (with_reducible exact kimberliteref02_Quotes.mono _ _)
   | (with_reducible exact LeO.refl _)
   | (with_reducible exact LeO.none _)
   | (with_reducible refine LeO.ite ?_ ?_)
   | (with_reducible refine LeO.bind ?_ (fun _ => ?_))
   | exact ih0 _ _ _
   | exact ih1 _ _ _ _
   | exact ih2 _ _ _
   | exact ih3 _ _ _ _ _
   | exact kimberliteref02_Loss.mono _ _ _
   | exact kimberliteref02_Quotes.mono _ _
   | exact LeO.none _
   | refine LeO.ite ?_ ?_
   | refine LeO.bind ?_ (fun _ => ?_)
  ·intro y0 y1 y2 y3 y4
   unfold kimberliteref02_Settle.l3
   repeat' first
   | (with_reducible exact ih0 _ _ _)
   | (with_reducible exact ih1 _ _ _ _)
   | (with_reducible exact ih2 _ _ _)
   | (with_reducible exact ih3 _ _ _ _ _)
   | (with_reducible exact kimberliteref02_Loss.mono _ _ _)
   | (with_reducible exact kimberliteref02_Quotes.mono _ _)
   | (with_reducible exact LeO.refl _)
   | (with_reducible exact LeO.none _)
   | (with_reducible refine LeO.ite ?_ ?_)
   | (with_reducible refine LeO.bind ?_ (fun _ => ?_))
   | exact ih0 _ _ _
   | exact ih1 _ _ _ _
   | exact ih2 _ _ _
   | exact ih3 _ _ _ _ _
   | exact kimberliteref02_Loss.mono _ _ _
   | exact kimberliteref02_Quotes.mono _ _
   | exact LeO.none _
   | refine LeO.ite ?_ ?_
   | refine LeO.bind ?_ (fun _ => ?_)
theorem kimberliteref02_Settle.mono : ∀ a0 k, LeO (kimberliteref02_Settle.f k a0) (kimberliteref02_Settle.f (k + 1) a0) := by
 intro a0 k
 obtain ⟨ih0, ih1, ih2, ih3⟩ := kimberliteref02_Settle.mono_l k
 unfold kimberliteref02_Settle.f
 repeat' first
   | (with_reducible exact ih0 _ _ _)
   | (with_reducible exact ih1 _ _ _ _)
   | (with_reducible exact ih2 _ _ _)
   | (with_reducible exact ih3 _ _ _ _ _)
   | (with_reducible exact kimberliteref02_Loss.mono _ _ _)
   | (with_reducible exact kimberliteref02_Quotes.mono _ _)
   | (with_reducible exact LeO.refl _)
   | (with_reducible exact LeO.none _)
   | (with_reducible refine LeO.ite ?_ ?_)
   | (with_reducible refine LeO.bind ?_ (fun _ => ?_))
   | exact ih0 _ _ _
   | exact ih1 _ _ _ _
   | exact ih2 _ _ _
   | exact ih3 _ _ _ _ _
   | exact kimberliteref02_Loss.mono _ _ _
   | exact kimberliteref02_Quotes.mono _ _
   | exact LeO.none _
   | refine LeO.ite ?_ ?_
   | refine LeO.bind ?_ (fun _ => ?_)
def kimberliteref02_Settle.T12 : Bool × List (List Nat × List Nat) := (true, [([], []), ([], []), ([], []), ([], []), ([2, 3], [2, 3]), ([4], [4]), ([], []), ([], []), ([6, 7], [6, 7]), ([8], [8]), ([9], [9]), ([5, 10], [5, 10]), ([0, 1, 0, 1, 2, 3, 4, 5, 6, 7, 8, 9, 10, 11], [0, 1]), ([12, 11, 0, 1, 2, 3, 4, 5, 6, 7, 8, 9, 10, 11], [11, 12])])
def kimberliteref02_Settle.B12 : List Nat := [0, 0, 0, 0, 12, 28, 0, 0, 192, 448, 960, 2044, 4095, 8191]
theorem kimberliteref02_Settle.tab12 : rtab .any (opsOf Try.f62 12) = kimberliteref02_Settle.T12 := by kernel_rfl
theorem kimberliteref02_Settle.bits12 : waitsOk kimberliteref02_Settle.T12.2 kimberliteref02_Settle.B12 = true := by kernel_rfl
def kimberliteref02_Settle.T21 : Bool × List (List Nat × List Nat) := (true, [([], []), ([], []), ([], []), ([], []), ([2, 3], [2, 3]), ([4], [4]), ([], []), ([], []), ([6, 7], [6, 7]), ([8], [8]), ([9], [9]), ([5, 10], [5, 10]), ([0, 1, 0, 1, 2, 3, 4, 5, 6, 7, 8, 9, 10, 11], [0, 1]), ([12, 11, 0, 1, 2, 3, 4, 5, 6, 7, 8, 9, 10, 11], [11, 12])])
def kimberliteref02_Settle.B21 : List Nat := [0, 0, 0, 0, 12, 28, 0, 0, 192, 448, 960, 2044, 4095, 8191]
theorem kimberliteref02_Settle.tab21 : rtab .any (opsOf Try.f62 21) = kimberliteref02_Settle.T21 := by kernel_rfl
theorem kimberliteref02_Settle.bits21 : waitsOk kimberliteref02_Settle.T21.2 kimberliteref02_Settle.B21 = true := by kernel_rfl
set_option maxHeartbeats 8000000 in
set_option maxRecDepth 100000 in
theorem kimberliteref02_Settle.calls (k : Nat) (A0 : Option Addr) (c0 : Nat) (l0 : List (S38)) (r1 : List Int) (r2 : Int) (r3 : Int) (w : World) (hr0 : Kd.C k38 w A0 l0.length l0) (hc0 : l0.length ≤ c0) (h : kimberliteref02_Settle.f k l0 = some (r1, r2, r3)) :
  Calls Try.prog 62 #[.slice A0 l0.length c0] w fun e w' => ∃ v0_ : Value, e = .returned (.tuple #[v0_, .int .i64 r2, .int .i64 r3]) ∧ Kd.R (Kd.int .i64) 3 w' w.heap.size (fun _ => True) v0_ r1 ∧ Below w.heap.size w w' := by
 have HR0 := Aside0.mk hr0
 have HC0 := Aside0.mk hc0
 clear hr0 hc0
 have HB := Aside0.mk (Below.refl w.heap.size w)
 have H : ((kimberliteref02_Quotes.f k l0).bind fun t1039 => (if t1039 = 0 then (if 0 ≤ (l0.length : Int) then (if ((l0.length : Int) : Int).toNat ≤ 35184372088832 then (kimberliteref02_Settle.l0 k l0 (List.replicate ((l0.length : Int) : Int).toNat 0) 0) else (none)) else (none)) else (some (([] : List Int), 0, t1039)))) = some (r1, r2, r3) := h
 clear h
 replace H := Option.bind_eq_some_iff.mp H
 obtain ⟨t1039, A20, H⟩ := H
 replace H : (if t1039 = 0 then (if 0 ≤ (l0.length : Int) then (if ((l0.length : Int) : Int).toNat ≤ 35184372088832 then (kimberliteref02_Settle.l0 k l0 (List.replicate ((l0.length : Int) : Int).toNat 0) 0) else (none)) else (none)) else (some (([] : List Int), 0, t1039))) = some (r1, r2, r3) := H
 have A2 := Aside0.mk A20
 clear A20
 by_cases c3 : t1039 = 0
 ·rw [if_pos c3] at H
  have c3b0 : (t1039 == 0) = true := beq_iff_eq.mpr c3
  have c3b1 : (t1039 != 0) = false := bne_eq_false_iff_eq.mpr c3
  clear c3
  by_cases c4 : 0 ≤ (l0.length : Int)
  ·rw [if_pos c4] at H
   have c4b0 := eq_true c4
   have c4b1 : decide (0 ≤ (l0.length : Int)) = true := decide_eq_true c4
   clear c4
   by_cases c5 : ((l0.length : Int) : Int).toNat ≤ 35184372088832
   ·rw [if_pos c5] at H
    have c5b0 := eq_true c5
    have c5b1 : decide (((l0.length : Int) : Int).toNat ≤ 35184372088832) = true := decide_eq_true c5
    clear c5
    obtain ⟨y1040, hy1040⟩ : ∃ y_ : List Int, y_ = (List.replicate ((l0.length : Int) : Int).toNat 0) := ⟨_, rfl⟩
    replace H : (kimberliteref02_Settle.l0 k l0 y1040 0) = some (r1, r2, r3) := by first | (rw [hy1040]; with_reducible exact H) | (have H2_ := (Option.bind_some _ _).symm.trans H; rw [hy1040]; with_reducible exact H2_) | (have H2_ := (Option.bind_some _ _).symm.trans H; with_reducible exact H2_) | with_reducible exact H | (rw [hy1040]; exact H) | exact H
    have Ny1040 := Aside0.mk hy1040
    clear hy1040
    have H' := Aside0.mk H
    clear H
    go_enter Try.func62, Try.ntmps62
    go_wp2_with (first | ((with_reducible refine gate_callee (f := 69) rfl ?_); refine goesL_ (some 13) rfl rfl Try.func69 (by kernel_rfl) rfl #[.slice A0 l0.length c0] rfl (by (try simp only [List.map_toArray, List.map_cons, List.map_nil]); first | done | rfl | (simp only [List.length_drop, List.length_take]; rfl)) ?_; (with_reducible refine (kimberliteref02_Quotes.calls k _ _ l0 t1039 _ ?side1 ?side2 A2.out).mono ?_); (case side1 => repeat (first | exact HR0.out | (with_reducible refine Kd.C_alloc ?_ _) | (with_reducible refine Kd.C_drewN ?_ _) | (with_reducible refine Kd.C_drew ?_))); (case side2 => exact HC0.out); rintro e w6 ⟨rfl, hb⟩; refine ⟨_, rfl, ?_⟩; have n0_ := Aside0.mk (below_step (by repeat (first | (with_reducible first | exact HB.out | apply below_alloc | apply pw_below_drewN | apply below_drew1) | exact HB.out)) hb); clear HB; have HB := n0_; clear n0_; (try clear hb); (try clear hb2); (try clear hk); (try clear hi)) | ((with_reducible refine gate_dst (N := 19) rfl ?_); refine Kd.R_make (Kd.int .i64) _ 3 rfl (N := 19) rfl 28 _ _ rfl (l0.length : Int) rfl rfl Try.underlying28 (.int .i64 0) 8 info3 rfl (by decide) (by omega) 0 (ok := fun _ => True) (okp := fun _ => True) rfl (fun _ hk => hk) trivial (of_decide_eq_true (by first | (with_reducible assumption) | assumption)) (Nat.le_trans (Nat.mul_le_mul_right _ (of_decide_eq_true (by first | (with_reducible assumption) | assumption) : (l0.length : Int).toNat ≤ 35184372088832)) (by omega)) (Below.refl _ _) (Nat.le_refl _) ?_; intro v1041 w7 ho8 hb hg_ hnew_; clear hg_ hnew_; (first | rw [← Ny1040.out] at ho8 | (simp only [Int.reduceToNat] at ho8; rw [← Ny1040.out] at ho8)); have n0_ := Aside0.mk (Kd.R_lower ho8 (below_size (by repeat (first | (with_reducible first | exact HB.out | apply below_alloc | apply pw_below_drewN | apply below_drew1) | exact HB.out)))); have n1_ := Aside0.mk (below_step (by repeat (first | (with_reducible first | exact HB.out | apply below_alloc | apply pw_below_drewN | apply below_drew1) | exact HB.out)) hb); clear HB; have HO1042 := n0_; have HB := n1_; clear n0_ n1_; clear hb ho8))
    go_loopg [7] k (fun kq v7 w' => ∃ (x6_1 : List Int) (x7_1 : Int), v7 = .int .i64 x7_1 ∧ Aside0 (kimberliteref02_Settle.l0 kq l0 x6_1 x7_1 = some (r1, r2, r3)) ∧ Aside0 (kq ≤ k) ∧ Aside0 (Kd.R (Kd.int .i64) 3 w' w.heap.size (fun _ => True) v1041 x6_1) ∧ Aside0 (Below w.heap.size w w'))
    case atStart => exact ⟨(y1040), (0), (by first | rfl | (simp; done) | (simp [*]; done)), H', ⟨Nat.le_refl _⟩, ⟨by (with_reducible repeat (first | apply Kd.R_alloc | apply Kd.R_drewN | apply Kd.R_drew)); exact HO1042.out⟩, ⟨by repeat (first | (with_reducible first | exact HB.out | apply below_alloc | apply pw_below_drewN | apply below_drew1) | exact HB.out)⟩⟩
    case round =>
     clear H'
     try clear p2
     try clear c3
     try clear c3b0
     try clear c3b1
     try clear c4
     try clear c4b0
     try clear c4b1
     try clear c5
     try clear c5b0
     try clear c5b1
     try clear c6
     obtain ⟨x6_1, x7_1, rfl, HA, HK1, HO_6, HB⟩ := hrel
     cases gk with
     | zero => exact absurd HA.out (by simp [kimberliteref02_Settle.l0])
     | succ k1 =>
      have H := HA.out
      clear HA
      simp only [kimberliteref02_Settle.l0] at H
      by_cases c9 : x7_1 < (l0.length : Int)
      ·rw [if_pos c9] at H
       have c9b0 : decide (x7_1 < (l0.length : Int)) = true := decide_eq_true c9
       clear c9
       by_cases c10 : 0 ≤ x7_1
       ·rw [if_pos c10] at H
        have c10b0 : decide (0 ≤ x7_1) = true := decide_eq_true c10
        clear c10
        by_cases c11 : x7_1 < (x6_1.length : Int)
        ·rw [if_pos c11] at H
         have c11b0 : decide (x7_1 < (x6_1.length : Int)) = true := decide_eq_true c11
         clear c11
         obtain ⟨y1043, hy1043⟩ : ∃ y_ : List Int, y_ = (x6_1.set (x7_1 : Int).toNat 1073741824) := ⟨_, rfl⟩
         replace H : (kimberliteref02_Settle.l1 k1 l0 y1043 x7_1 0) = some (r1, r2, r3) := by first | (rw [hy1043]; with_reducible exact H) | (have H2_ := (Option.bind_some _ _).symm.trans H; rw [hy1043]; with_reducible exact H2_) | (have H2_ := (Option.bind_some _ _).symm.trans H; with_reducible exact H2_) | with_reducible exact H | (rw [hy1043]; exact H) | exact H
         have Ny1043 := Aside0.mk hy1043
         clear hy1043
         have H' := Aside0.mk H
         clear H
         have p12 : 0 ≤ (x7_1 : Int) := of_decide_eq_true (by first | (with_reducible assumption) | assumption)
         have q12 : (x7_1 : Int) < ((x6_1.length : Int) : Int) := of_decide_eq_true (by first | (with_reducible assumption) | assumption)
         obtain ⟨go12, co12, eo12, gb12, gl12, cl12, HG12⟩ := Kd.R_form HO_6.out (by omega)
         (first | cases eo12 | (injection eo12 with ea_ en_ ec_; (first | subst ea_ | (injection ea_ with ea_; subst ea_)); subst ec_; clear en_))
         have GB12 := Aside0.mk gb12
         have GG12 := Aside0.mk HG12
         clear gb12 gl12 HG12
         obtain ⟨hx12_0, hf12_0⟩ := Kd.R_celln 0 HO_6.out (x7_1 : Int) p12 q12
         replace p12 := eq_true p12
         replace q12 := eq_true q12
         have HP13 := Kd.R_putg HO_6.out (x7_1 : Int) 1073741824
         go_wp2_with (first | ((with_reducible refine gate_store (t := 3) (p := 28) rfl ?_); refine store_event (t := 3) (p := 28) (v := ?vo_w14) (w1 := (wr.setCell ⟨go12, (x7_1 : Int).toNat, none⟩ (.int .i64 1073741824))) ?hg ?ho ?hn ?hr ?_; (case ho => rfl); (case hg => rfl); (case hn => rfl); (case hr => first | (go_simp; done) | (go_simp; rfl)); intro w14 hw; have hg : wr.grownBy w14 (some go12) := (by rw [hw]; exact HP13.2); have hp_ : Kd.R (Kd.int .i64) 3 w14 w.heap.size (fun _ => True) (.slice (some ⟨go12, 0, none⟩) x6_1.length co12) y1043 := (by rw [hw, Ny1043.out]; exact HP13.1); clear HP13; have n0_ := Aside0.mk (hp_); have n1_ := Aside0.mk ((by rw [hw]; exact below_set (HB.out) GB12.out : Below w.heap.size w w14)); clear HO_6; clear HB; have HO_6 := n0_; have HB := n1_; clear n0_ n1_; clear hg hw hp_))
         go_loopg [8] k1 (fun kq v8 w' => ∃ (x6_2 : List Int) (x8_2 : Int), v8 = .int .i64 x8_2 ∧ Aside0 (kimberliteref02_Settle.l1 kq l0 x6_2 x7_1 x8_2 = some (r1, r2, r3)) ∧ Aside0 (kq ≤ k1) ∧ Aside0 (Kd.R (Kd.int .i64) 3 w' w.heap.size (fun _ => True) (.slice (some ⟨go12, 0, none⟩) x6_1.length co12) x6_2) ∧ Aside0 (Below w.heap.size w w'))
         case atStart => exact ⟨(y1043), (0), (by first | rfl | (simp; done) | (simp [*]; done)), H', ⟨Nat.le_refl _⟩, ⟨by (with_reducible repeat (first | apply Kd.R_alloc | apply Kd.R_drewN | apply Kd.R_drew)); exact HO_6.out⟩, ⟨by repeat (first | (with_reducible first | exact HB.out | apply below_alloc | apply pw_below_drewN | apply below_drew1) | exact HB.out)⟩⟩
         case round =>
          clear H'
          try clear c1
          try clear p1
          try clear q1
          try clear hx1
          try clear hf1
          try clear p2
          try clear c3
          try clear c3b0
          try clear c3b1
          try clear c4
          try clear c4b0
          try clear c4b1
          try clear c5
          try clear c5b0
          try clear c5b1
          try clear c6
          try clear c9
          try clear c9b0
          try clear c10
          try clear c10b0
          try clear c11
          try clear c11b0
          try clear p12
          try clear q12
          try clear hx12
          try clear hf12
          try clear hx12_0
          try clear p12
          try clear p2
          try clear q12
          obtain ⟨x6_2, x8_2, rfl, HA, HK2, HO_6, HB⟩ := hrel
          have hl6_2 := (Kd.R_reads' HO_6.out).1
          rw [hl6_2] at HO_6
          (try simp only [hl6_2])
          cases gk with
          | zero => exact absurd HA.out (by simp [kimberliteref02_Settle.l1])
          | succ k2 =>
           have H := HA.out
           clear HA
           simp only [kimberliteref02_Settle.l1] at H
           by_cases c15 : x8_2 < (l0.length : Int)
           ·rw [if_pos c15] at H
            have c15b0 : decide (x8_2 < (l0.length : Int)) = true := decide_eq_true c15
            clear c15
            by_cases c16 : 0 ≤ x7_1
            ·rw [if_pos c16] at H
             have c16b0 : decide (0 ≤ x7_1) = true := decide_eq_true c16
             clear c16
             by_cases c17 : x7_1 < (x6_2.length : Int)
             ·rw [if_pos c17] at H
              have c17b0 : decide (x7_1 < (x6_2.length : Int)) = true := decide_eq_true c17
              clear c17
              by_cases c18 : 0 ≤ x8_2
              ·rw [if_pos c18] at H
               have c18b0 : decide (0 ≤ x8_2) = true := decide_eq_true c18
               clear c18
               obtain ⟨ji19, hji19⟩ : ∃ j_ : Int, (mn (rd x6_2 x7_1) ((rd_T38 l0 x8_2).f1)) = j_ := ⟨_, rfl⟩
               replace H : (kimberliteref02_Settle.l1 k2 l0 (x6_2.set (x7_1 : Int).toNat (ji19)) x7_1 (wrap64 (x8_2 + 1))) = some (r1, r2, r3) := by first | (rw [hji19] at H; exact H) | (simp only [hji19] at H ⊢; exact H)
               have hji19_ : (if ((rd_T38 l0 x8_2).f1) < (rd x6_2 x7_1) then ((rd_T38 l0 x8_2).f1) else (rd x6_2 x7_1)) = ji19 := hji19
               obtain ⟨y1046, hy1046⟩ : ∃ y_ : List Int, y_ = (x6_2.set (x7_1 : Int).toNat (ji19)) := ⟨_, rfl⟩
               replace H : (kimberliteref02_Settle.l1 k2 l0 y1046 x7_1 (wrap64 (x8_2 + 1))) = some (r1, r2, r3) := by first | (rw [hy1046]; with_reducible exact H) | (have H2_ := (Option.bind_some _ _).symm.trans H; rw [hy1046]; with_reducible exact H2_) | (have H2_ := (Option.bind_some _ _).symm.trans H; with_reducible exact H2_) | with_reducible exact H | (rw [hy1046]; exact H) | exact H
               have Ny1046 := Aside0.mk hy1046
               clear hy1046
               have H' := Aside0.mk H
               clear H
               try go_wp2
               have n0_ := Aside0.mk (Kd.R_drew HO_6.out)
               have n1_ := Aside0.mk (below_drew1 HB.out)
               clear HO_6
               clear HB
               have HO_6 := n0_
               have HB := n1_
               clear n0_ n1_
               have p1044 : 0 ≤ (x7_1 : Int) := of_decide_eq_true (by first | (with_reducible assumption) | assumption)
               have q1044 : x7_1 < (x6_2.length : Int) := of_decide_eq_true (by first | (with_reducible assumption) | assumption)
               obtain ⟨ad1044, e1044, hx1044_0⟩ := Kd.at_int (Kd.R_reads' HO_6.out).2.2 x7_1 p1044 q1044
               obtain rfl : (⟨go12, 0, none⟩ : Addr) = ad1044 := (by injection e1044)
               (first | simp only [add_plain] at hx1044_0 | simp only [add_at] at hx1044_0 | simp only [Addr.add, Nat.zero_add] at hx1044_0 | skip)
               replace p1044 := eq_true p1044
               replace q1044 := eq_true q1044
               have p1045 : 0 ≤ (x8_2 : Int) := of_decide_eq_true (by first | (with_reducible assumption) | assumption)
               have q1045 : x8_2 < (l0.length : Int) := of_decide_eq_true (by first | (with_reducible assumption) | assumption)
               obtain ⟨ad1045, e1045, hx1045_0, hx1045_1, hx1045_2, hx1045_3, hx1045_4⟩ := at_T38 HR0.out x8_2 p1045 q1045
               have hw1045_4 := hx1045_4
               have hw1045_3 := hx1045_3
               have hw1045_2 := hx1045_2
               have hw1045_1 := hx1045_1
               have hw1045_0 := hx1045_0
               cases e1045
               replace hx1045_0 := (HB.out.cell (World.block_lt_of_cell? w _ hx1045_0)).trans hx1045_0
               replace hx1045_1 := (HB.out.cell (World.block_lt_of_cell? w _ hx1045_1)).trans hx1045_1
               replace hx1045_2 := (HB.out.cell (World.block_lt_of_cell? w _ hx1045_2)).trans hx1045_2
               replace hx1045_3 := (HB.out.cell (World.block_lt_of_cell? w _ hx1045_3)).trans hx1045_3
               replace hx1045_4 := (HB.out.cell (World.block_lt_of_cell? w _ hx1045_4)).trans hx1045_4
               replace p1045 := eq_true p1045
               replace q1045 := eq_true q1045
               have p20 : 0 ≤ (x7_1 : Int) := of_decide_eq_true (by first | (with_reducible assumption) | assumption)
               have q20 : (x7_1 : Int) < ((x6_2.length : Int) : Int) := of_decide_eq_true (by first | (with_reducible assumption) | assumption)
               obtain ⟨hx20_0, hf20_0⟩ := Kd.R_celln 0 HO_6.out (x7_1 : Int) p20 q20
               replace p20 := eq_true p20
               replace q20 := eq_true q20
               have HP22 := Kd.R_putn HO_6.out (x7_1 : Int) ji19
               rw [← Ny1046.out] at HP22
               have HQ22 := Aside0.mk HP22
               clear HP22
               refine start_ (n := 14) (S := fun w' => w'.cell? ⟨go12, (x7_1).toNat, none⟩ = some (.int .i64 (rd x6_2 x7_1)) ∧ w'.cell? (ad1045.add ((x8_2).toNat * 5)) = some (.int .i64 ((rd_T38 l0 x8_2).f0.f0)) ∧ w'.cell? ⟨(ad1045.add ((x8_2).toNat * 5)).block, (ad1045.add ((x8_2).toNat * 5)).off + 1, none⟩ = some (.int .i64 ((rd_T38 l0 x8_2).f0.f1)) ∧ w'.cell? ⟨(ad1045.add ((x8_2).toNat * 5)).block, (ad1045.add ((x8_2).toNat * 5)).off + 2, none⟩ = some (.int .i64 ((rd_T38 l0 x8_2).f0.f2)) ∧ w'.cell? ⟨(ad1045.add ((x8_2).toNat * 5)).block, (ad1045.add ((x8_2).toNat * 5)).off + 3, none⟩ = some (.int .i64 ((rd_T38 l0 x8_2).f1)) ∧ w'.cell? ⟨(ad1045.add ((x8_2).toNat * 5)).block, (ad1045.add ((x8_2).toNat * 5)).off + 4, none⟩ = some (.int .i64 ((rd_T38 l0 x8_2).f2))) (ds := [13]) z62_0 (by kernel_rfl) rfl rfl ⟨hx1044_0, ((HB.out.cell (World.block_lt_of_cell? w _ hw1045_0)).trans hw1045_0), ((HB.out.cell (World.block_lt_of_cell? w _ hw1045_1)).trans hw1045_1), ((HB.out.cell (World.block_lt_of_cell? w _ hw1045_2)).trans hw1045_2), ((HB.out.cell (World.block_lt_of_cell? w _ hw1045_3)).trans hw1045_3), ((HB.out.cell (World.block_lt_of_cell? w _ hw1045_4)).trans hw1045_4)⟩ (fun hHeld => ?_); refine with_tabW kimberliteref02_Settle.tab12 kimberliteref02_Settle.bits12 (fun HT_ HW_ => ?_)
               generalize wr.drew = w21 at HO_6 HB HQ22 hf20_0 hx1044_0 hx1045_0 hx1045_1 hx1045_2 hx1045_3 hx1045_4 hx20_0 hHeld ⊢
               refine pure_ (i := 0) (N := some 35) (v := ?_) (a' := ?_) z62_1 rfl rfl (any_of HT_.out (by kernel_rfl)) (fun _ _ _ h => h) (Or.inl ⟨by rfl, ?_⟩) ?_ ?_
               rotate_left
               ·intro w'
                go_simp
                with_reducible rfl
               rotate_left
               ·simp only [Act.put, List.setIfInBounds_toArray, List.set_cons_zero, List.set_cons_succ, i64_w, i32_w]
                rfl
               refine pure_ (i := 1) (N := some 36) (v := ?_) (a' := ?_) z62_2 rfl rfl (any_of HT_.out (by kernel_rfl)) (fun _ _ _ h => h) (Or.inl ⟨by rfl, ?_⟩) ?_ ?_
               rotate_left
               ·intro w'
                go_simp
                with_reducible rfl
               rotate_left
               ·simp only [Act.put, List.setIfInBounds_toArray, List.set_cons_zero, List.set_cons_succ, i64_w, i32_w]
                rfl
               refine pure_ (i := 2) (N := some 37) (v := ?_) (a' := ?_) z62_3 rfl rfl (any_of HT_.out (by kernel_rfl)) (fun _ _ _ h => h) (Or.inl ⟨by rfl, ?_⟩) ?_ ?_
               rotate_left
               ·intro w'
                go_simp
                with_reducible rfl
               rotate_left
               ·simp only [Act.put, List.setIfInBounds_toArray, List.set_cons_zero, List.set_cons_succ, i64_w, i32_w]
                rfl
               refine pure_ (i := 3) (N := some 38) (v := ?_) (a' := ?_) z62_4 rfl rfl (any_of HT_.out (by kernel_rfl)) (fun _ _ _ h => h) (Or.inl ⟨by rfl, ?_⟩) ?_ ?_
               rotate_left
               ·intro w'
                go_simp
                with_reducible rfl
               rotate_left
               ·simp only [Act.put, List.setIfInBounds_toArray, List.set_cons_zero, List.set_cons_succ, i64_w, i32_w]
                rfl
               refine pure_ (i := 4) (N := some 39) (v := ?_) (a' := ?_) z62_5 rfl rfl (any_of HT_.out (by kernel_rfl)) (fun _ _ _ h => h) (Or.inl ⟨by rfl, ?_⟩) ?_ ?_
               rotate_left
               ·intro w'
                go_simp
                with_reducible rfl
               rotate_left
               ·simp only [Act.put, List.setIfInBounds_toArray, List.set_cons_zero, List.set_cons_succ, i64_w, i32_w]
                rfl
               refine pure_ (i := 6) (N := some 41) (v := ?_) (a' := ?_) z62_6 rfl rfl (any_of HT_.out (by kernel_rfl)) (fun _ _ _ h => h) (Or.inl ⟨by rfl, ?_⟩) ?_ ?_
               rotate_left
               ·intro w'
                go_simp
                with_reducible rfl
               rotate_left
               ·simp only [Act.put, List.setIfInBounds_toArray, List.set_cons_zero, List.set_cons_succ, i64_w, i32_w]
                rfl
               refine pure_ (i := 7) (N := some 42) (v := ?_) (a' := ?_) z62_7 rfl rfl (any_of HT_.out (by kernel_rfl)) (fun _ _ _ h => h) (Or.inl ⟨by rfl, ?_⟩) ?_ ?_
               rotate_left
               ·intro w'
                go_simp
                with_reducible rfl
               rotate_left
               ·simp only [Act.put, List.setIfInBounds_toArray, List.set_cons_zero, List.set_cons_succ, i64_w, i32_w]
                rfl
               refine pure_ (i := 8) (N := some 43) (v := ?_) (a' := ?_) z62_8 rfl rfl (any_of HT_.out (by kernel_rfl)) (fun _ _ _ h => h) (Or.inl ⟨by rfl, ?_⟩) ?_ ?_
               rotate_left
               ·intro w'
                go_simp
                with_reducible rfl
               rotate_left
               ·simp only [Act.put, List.setIfInBounds_toArray, List.set_cons_zero, List.set_cons_succ, i64_w, i32_w]
                rfl
               refine pure_ (i := 9) (N := some 44) (v := ?_) (a' := ?_) z62_9 rfl rfl (any_of HT_.out (by kernel_rfl)) (fun _ _ _ h => h) (Or.inl ⟨by rfl, ?_⟩) ?_ ?_
               rotate_left
               ·intro w'
                go_simp
                with_reducible rfl
               rotate_left
               ·simp only [Act.put, List.setIfInBounds_toArray, List.set_cons_zero, List.set_cons_succ, i64_w, i32_w]
                rfl
               refine take_ (i := 5) (N := some 40) (v := ?_) (a' := ?_) z62_10 rfl rfl (take_ofW HT_.out HW_.out (by kernel_rfl)) (fun _ _ _ h => h) (Or.inl ⟨by rfl, ?_⟩) hHeld ?_ ?_
               rotate_left
               ·rintro w' ⟨s0, s1, s2, s3, s4, s5⟩
                go_simp
                with_reducible rfl
               rotate_left
               ·simp only [Act.put, List.setIfInBounds_toArray, List.set_cons_zero, List.set_cons_succ, i64_w, i32_w]
                rfl
               refine take_ (i := 10) (N := some 45) (v := ?_) (a' := ?_) z62_11 rfl rfl (take_ofW HT_.out HW_.out (by kernel_rfl)) (fun _ _ _ h => h) (Or.inl ⟨by rfl, ?_⟩) hHeld ?_ ?_
               rotate_left
               ·rintro w' ⟨s0, s1, s2, s3, s4, s5⟩
                go_simp
                with_reducible rfl
               rotate_left
               ·simp only [Act.put, List.setIfInBounds_toArray, List.set_cons_zero, List.set_cons_succ, i64_w, i32_w]
                rfl
               refine pure_ (i := 11) (N := some 46) (v := ?_) (a' := ?_) z62_12 rfl rfl (any_of HT_.out (by kernel_rfl)) (fun _ _ _ h => h) (Or.inl ⟨by rfl, ?_⟩) ?_ ?_
               rotate_left
               ·intro w'
                go_simp
                with_reducible rfl
               rotate_left
               ·simp only [Act.put, List.setIfInBounds_toArray, List.set_cons_zero, List.set_cons_succ, i64_w, i32_w]
                rfl
               refine pure_ (i := 12) (N := some 47) (v := ?_) (a' := ?_) z62_13 rfl rfl (any_of HT_.out (by kernel_rfl)) (fun _ _ _ h => h) (Or.inl ⟨by rfl, ?_⟩) ?_ ?_
               rotate_left
               ·intro w'
                go_simp
                with_reducible rfl
               rotate_left
               ·simp only [Act.put, List.setIfInBounds_toArray, List.set_cons_zero, List.set_cons_succ, i64_w, i32_w]
                rfl
               refine last_ (i := 13) (N := none) z62_14 rfl rfl (one_of HT_.out (by kernel_rfl)) (by decide) (fun K hK => ?_)
               refine skip_ (w1 := ?_) (by rfl) rfl ?_ ?_
               rotate_left
               ·go_simp
                rfl
               refine hK.out _ _ ?_
               clear hK K
               refine done_ (done_of HT_.out (by kernel_rfl)) ?_
               try go_wp2
               (try simp only [← hl6_2])
               go_roundg k2
               case measure => have := HK1.out; have := HK2.out; omega
               case rel => exact ⟨(y1046), (wrap64 (x8_2 + 1)), (by first | rfl | (simp; done) | (simp [*]; done)), H', ⟨by have := HK1.out; have := HK2.out; omega⟩, ⟨by (try simp only [hl6_2]); (with_reducible repeat (first | apply Kd.R_alloc | apply Kd.R_drewN | apply Kd.R_drew)); exact HQ22.out⟩, ⟨by repeat (first | (with_reducible first | exact HB.out | apply below_alloc | apply pw_below_drewN | apply below_drew1 | refine below_set ?_ GB12.out) | exact HB.out)⟩⟩
              ·rw [if_neg c18] at H
               exact absurd H (by simp)
             ·rw [if_neg c17] at H
              exact absurd H (by simp)
            ·rw [if_neg c16] at H
             exact absurd H (by simp)
           ·rw [if_neg c15] at H
            have c15b0 : decide (x8_2 < (l0.length : Int)) = false := decide_eq_false c15
            clear c15
            have H' := Aside0.mk H
            clear H
            go_wp2
            (try simp only [← hl6_2])
            go_roundg k2
            case measure => have := HK1.out; have := HK2.out; omega
            case rel => exact ⟨(x6_2), (wrap64 (x7_1 + 1)), (by first | rfl | (simp; done) | (simp [*]; done)), H', ⟨by have := HK1.out; have := HK2.out; omega⟩, ⟨by (try simp only [hl6_2]); (with_reducible repeat (first | apply Kd.R_alloc | apply Kd.R_drewN | apply Kd.R_drew)); exact HO_6.out⟩, ⟨by repeat (first | (with_reducible first | exact HB.out | apply below_alloc | apply pw_below_drewN | apply below_drew1) | exact HB.out)⟩⟩
        ·rw [if_neg c11] at H
         exact absurd H (by simp)
       ·rw [if_neg c10] at H
        exact absurd H (by simp)
      ·rw [if_neg c9] at H
       have c9b0 : decide (x7_1 < (l0.length : Int)) = false := decide_eq_false c9
       clear c9
       have H' := Aside0.mk H
       clear H
       go_wp2
       go_loopg [9] k1 (fun kq v9 w' => ∃ (x6_2 : List Int) (x9_2 : Int), v9 = .int .i64 x9_2 ∧ Aside0 (kimberliteref02_Settle.l2 kq l0 x6_2 x9_2 = some (r1, r2, r3)) ∧ Aside0 (kq ≤ k1) ∧ Aside0 (Kd.R (Kd.int .i64) 3 w' w.heap.size (fun _ => True) v1041 x6_2) ∧ Aside0 (Below w.heap.size w w'))
       case atStart => exact ⟨(x6_1), (0), (by first | rfl | (simp; done) | (simp [*]; done)), H', ⟨Nat.le_refl _⟩, ⟨by (with_reducible repeat (first | apply Kd.R_alloc | apply Kd.R_drewN | apply Kd.R_drew)); exact HO_6.out⟩, ⟨by repeat (first | (with_reducible first | exact HB.out | apply below_alloc | apply pw_below_drewN | apply below_drew1) | exact HB.out)⟩⟩
       case round =>
        clear H'
        try clear c1
        try clear p1
        try clear q1
        try clear hx1
        try clear hf1
        try clear p2
        try clear q2
        try clear hx2
        try clear hf2
        try clear c3
        try clear c3b0
        try clear c3b1
        try clear c4
        try clear c4b0
        try clear c4b1
        try clear c5
        try clear c5b0
        try clear c5b1
        try clear c6
        try clear p6
        try clear c9
        try clear c9b0
        try clear c10
        try clear c10b0
        try clear p10
        try clear q10
        try clear hx10
        try clear c11
        try clear c11b0
        try clear p12
        try clear q12
        try clear hx12
        try clear hf12
        try clear c15
        try clear c15b0
        try clear c16
        try clear c16b0
        try clear c17
        try clear c17b0
        try clear c18
        try clear c18b0
        try clear p20
        try clear q20
        try clear hx20
        try clear hf20
        try clear hx1044_0
        try clear hx1045_0
        try clear hx1045_1
        try clear hx1045_2
        try clear hx1045_3
        try clear hx1045_4
        try clear hx12_0
        try clear hx20_0
        try clear p1
        try clear p1044
        try clear p1045
        try clear p12
        try clear p2
        try clear p20
        try clear q1
        try clear q1044
        try clear q1045
        try clear q12
        try clear q20
        obtain ⟨x6_2, x9_2, rfl, HA, HK2, HO_6, HB⟩ := hrel
        cases gk with
        | zero => exact absurd HA.out (by simp [kimberliteref02_Settle.l2])
        | succ k2 =>
         have H := HA.out
         clear HA
         simp only [kimberliteref02_Settle.l2] at H
         by_cases c23 : x9_2 < (l0.length : Int)
         ·rw [if_pos c23] at H
          have c23b0 : decide (x9_2 < (l0.length : Int)) = true := decide_eq_true c23
          clear c23
          by_cases c24 : 0 ≤ x9_2
          ·rw [if_pos c24] at H
           have c24b0 : decide (0 ≤ x9_2) = true := decide_eq_true c24
           clear c24
           replace H := Option.bind_eq_some_iff.mp H
           obtain ⟨t1049, A250, H⟩ := H
           replace H : (kimberliteref02_Settle.l3 k2 l0 x6_2 x9_2 t1049 0) = some (r1, r2, r3) := H
           have A25 := Aside0.mk A250
           clear A250
           have H' := Aside0.mk H
           clear H
           have p1048 : 0 ≤ (x9_2 : Int) := of_decide_eq_true (by first | (with_reducible assumption) | assumption)
           have q1048 : x9_2 < (l0.length : Int) := of_decide_eq_true (by first | (with_reducible assumption) | assumption)
           obtain ⟨ad1048, e1048, hx1048_0, hx1048_1, hx1048_2, hx1048_3, hx1048_4⟩ := at_T38 HR0.out x9_2 p1048 q1048
           cases e1048
           replace hx1048_0 := (HB.out.cell (World.block_lt_of_cell? w _ hx1048_0)).trans hx1048_0
           replace hx1048_1 := (HB.out.cell (World.block_lt_of_cell? w _ hx1048_1)).trans hx1048_1
           replace hx1048_2 := (HB.out.cell (World.block_lt_of_cell? w _ hx1048_2)).trans hx1048_2
           replace hx1048_3 := (HB.out.cell (World.block_lt_of_cell? w _ hx1048_3)).trans hx1048_3
           replace hx1048_4 := (HB.out.cell (World.block_lt_of_cell? w _ hx1048_4)).trans hx1048_4
           replace p1048 := eq_true p1048
           replace q1048 := eq_true q1048
           go_wp2_with (first | ((with_reducible refine gate_callee (f := 97) rfl ?_); refine goesL_ (some 60) rfl rfl Try.func97 (by kernel_rfl) rfl #[.slice (some ad1048) l0.length c0, .int .i64 ((rd_T38 l0 x9_2).f1)] rfl (by (try simp only [List.map_toArray, List.map_cons, List.map_nil]); first | done | rfl | (simp only [List.length_drop, List.length_take]; rfl)) ?_; (with_reducible refine (kimberliteref02_atLeast.calls _ _ l0 ((rd_T38 l0 x9_2).f1) t1049 _ ?side1 ?side2 A25.out).mono ?_); (case side1 => repeat (first | exact (Kd.C_below HR0.out HB.out) | (with_reducible refine Kd.C_alloc ?_ _) | (with_reducible refine Kd.C_drewN ?_ _) | (with_reducible refine Kd.C_drew ?_))); (case side2 => exact HC0.out); rintro e w26 ⟨v1050, rfl, ho0, hb⟩; refine ⟨_, rfl, ?_⟩; have n0_ := Aside0.mk (Kd.R_below (by (with_reducible repeat (first | apply Kd.R_alloc | apply Kd.R_drewN | apply Kd.R_drew)); exact HO_6.out) hb); have n1_ := Aside0.mk (Kd.R_lower ho0 (below_size (by repeat (first | (with_reducible first | exact HB.out | apply below_alloc | apply pw_below_drewN | apply below_drew1) | exact HB.out)))); have n2_ := Aside0.mk (below_step (by repeat (first | (with_reducible first | exact HB.out | apply below_alloc | apply pw_below_drewN | apply below_drew1) | exact HB.out)) hb); clear HO_6; clear HB; have HO_6 := n0_; have HO1051 := n1_; have HB := n2_; clear n0_ n1_ n2_; (try clear hb); (try clear hb2); (try clear hk); (try clear hi); (try clear ho0)))
           go_loopg [11] k2 (fun kq v11 w' => ∃ (x6_3 : List Int) (x11_3 : Int), v11 = .int .i64 x11_3 ∧ Aside0 (kimberliteref02_Settle.l3 kq l0 x6_3 x9_2 t1049 x11_3 = some (r1, r2, r3)) ∧ Aside0 (kq ≤ k2) ∧ Aside0 (Kd.R (Kd.int .i64) 3 w' w.heap.size (fun _ => True) v1041 x6_3) ∧ Aside0 (Kd.R Kd.bool 4 w' w.heap.size (fun _ => True) v1050 t1049) ∧ Aside0 (Below w.heap.size w w'))
           case atStart => exact ⟨(x6_2), (0), (by first | rfl | (simp; done) | (simp [*]; done)), H', ⟨Nat.le_refl _⟩, ⟨by (with_reducible repeat (first | apply Kd.R_alloc | apply Kd.R_drewN | apply Kd.R_drew)); exact HO_6.out⟩, ⟨by (with_reducible repeat (first | apply Kd.R_alloc | apply Kd.R_drewN | apply Kd.R_drew)); exact HO1051.out⟩, ⟨by repeat (first | (with_reducible first | exact HB.out | apply below_alloc | apply pw_below_drewN | apply below_drew1) | exact HB.out)⟩⟩
           case round =>
            clear H'
            try clear c1
            try clear p1
            try clear q1
            try clear hx1
            try clear hf1
            try clear c2
            try clear p2
            try clear q2
            try clear hx2
            try clear hf2
            try clear c3
            try clear c3b0
            try clear c3b1
            try clear c4
            try clear c4b0
            try clear c4b1
            try clear c5
            try clear c5b0
            try clear c5b1
            try clear c6
            try clear p6
            try clear c9
            try clear c9b0
            try clear c10
            try clear c10b0
            try clear p10
            try clear q10
            try clear hx10
            try clear c11
            try clear c11b0
            try clear p12
            try clear q12
            try clear hx12
            try clear hf12
            try clear c15
            try clear c15b0
            try clear c16
            try clear c16b0
            try clear c17
            try clear c17b0
            try clear c18
            try clear c18b0
            try clear p20
            try clear q20
            try clear hx20
            try clear hf20
            try clear c23
            try clear c23b0
            try clear c24
            try clear c24b0
            try clear hx1044_0
            try clear hx1045_0
            try clear hx1045_1
            try clear hx1045_2
            try clear hx1045_3
            try clear hx1045_4
            try clear hx1048_0
            try clear hx1048_1
            try clear hx1048_2
            try clear hx1048_3
            try clear hx1048_4
            try clear hx12_0
            try clear hx20_0
            try clear p1
            try clear p10
            try clear p1044
            try clear p1045
            try clear p1048
            try clear p12
            try clear p2
            try clear p20
            try clear p6
            try clear q1
            try clear q10
            try clear q1044
            try clear q1045
            try clear q1048
            try clear q12
            try clear q2
            try clear q20
            obtain ⟨x6_3, x11_3, rfl, HA, HK3, HO_6, HO_10, HB⟩ := hrel
            cases gk with
            | zero => exact absurd HA.out (by simp [kimberliteref02_Settle.l3])
            | succ k3 =>
             have H := HA.out
             clear HA
             simp only [kimberliteref02_Settle.l3] at H
             by_cases c27 : x11_3 < (l0.length : Int)
             ·rw [if_pos c27] at H
              have c27b0 : decide (x11_3 < (l0.length : Int)) = true := decide_eq_true c27
              clear c27
              by_cases c28 : 0 ≤ x11_3
              ·rw [if_pos c28] at H
               have c28b0 : decide (0 ≤ x11_3) = true := decide_eq_true c28
               clear c28
               by_cases c29 : x11_3 < (t1049.length : Int)
               ·rw [if_pos c29] at H
                have c29b0 : decide (x11_3 < (t1049.length : Int)) = true := decide_eq_true c29
                clear c29
                obtain ⟨bq30, hbq30⟩ : ∃ b_ : Bool, b_ = (rdOf false t1049 x11_3) := ⟨_, rfl⟩
                replace H : (if bq30 = true then (if x11_3 < (x6_3.length : Int) then (if 0 ≤ x9_2 then (if x9_2 < (l0.length : Int) then (kimberliteref02_Settle.l3 k3 l0 (x6_3.set (x11_3 : Int).toNat (mx (rd x6_3 x11_3) ((rd_T38 l0 x9_2).f1))) x9_2 t1049 (wrap64 (x11_3 + 1))) else (none)) else (none)) else (none)) else (kimberliteref02_Settle.l3 k3 l0 x6_3 x9_2 t1049 (wrap64 (x11_3 + 1)))) = some (r1, r2, r3) := by rw [← hbq30] at H; exact H
                have Nbq30 := Aside0.mk hbq30
                clear hbq30
                by_cases c31 : bq30 = true
                ·subst c31
                 have H1 : (if x11_3 < (x6_3.length : Int) then (if 0 ≤ x9_2 then (if x9_2 < (l0.length : Int) then (kimberliteref02_Settle.l3 k3 l0 (x6_3.set (x11_3 : Int).toNat (mx (rd x6_3 x11_3) ((rd_T38 l0 x9_2).f1))) x9_2 t1049 (wrap64 (x11_3 + 1))) else (none)) else (none)) else (none)) = some (r1, r2, r3) := by rw [if_pos rfl] at H; exact H
                 clear H
                 have H := H1
                 clear H1
                 by_cases c32 : x11_3 < (x6_3.length : Int)
                 ·rw [if_pos c32] at H
                  have c32b0 : decide (x11_3 < (x6_3.length : Int)) = true := decide_eq_true c32
                  clear c32
                  by_cases c33 : 0 ≤ x9_2
                  ·rw [if_pos c33] at H
                   have c33b0 : decide (0 ≤ x9_2) = true := decide_eq_true c33
                   clear c33
                   by_cases c34 : x9_2 < (l0.length : Int)
                   ·rw [if_pos c34] at H
                    have c34b0 : decide (x9_2 < (l0.length : Int)) = true := decide_eq_true c34
                    clear c34
                    obtain ⟨ji35, hji35⟩ : ∃ j_ : Int, (mx (rd x6_3 x11_3) ((rd_T38 l0 x9_2).f1)) = j_ := ⟨_, rfl⟩
                    replace H : (kimberliteref02_Settle.l3 k3 l0 (x6_3.set (x11_3 : Int).toNat (ji35)) x9_2 t1049 (wrap64 (x11_3 + 1))) = some (r1, r2, r3) := by first | (rw [hji35] at H; exact H) | (simp only [hji35] at H ⊢; exact H)
                    have hji35_ : (if (rd x6_3 x11_3) < ((rd_T38 l0 x9_2).f1) then ((rd_T38 l0 x9_2).f1) else (rd x6_3 x11_3)) = ji35 := hji35
                    obtain ⟨y1055, hy1055⟩ : ∃ y_ : List Int, y_ = (x6_3.set (x11_3 : Int).toNat (ji35)) := ⟨_, rfl⟩
                    replace H : (kimberliteref02_Settle.l3 k3 l0 y1055 x9_2 t1049 (wrap64 (x11_3 + 1))) = some (r1, r2, r3) := by first | (rw [hy1055]; with_reducible exact H) | (have H2_ := (Option.bind_some _ _).symm.trans H; rw [hy1055]; with_reducible exact H2_) | (have H2_ := (Option.bind_some _ _).symm.trans H; with_reducible exact H2_) | with_reducible exact H | (rw [hy1055]; exact H) | exact H
                    have Ny1055 := Aside0.mk hy1055
                    clear hy1055
                    have H' := Aside0.mk H
                    clear H
                    obtain ⟨Ao37, co37, eo37⟩ := Kd.R_slice HO_10.out
                    subst eo37
                    have p1052 : 0 ≤ (x11_3 : Int) := of_decide_eq_true (by first | (with_reducible assumption) | assumption)
                    have q1052 : x11_3 < (t1049.length : Int) := of_decide_eq_true (by first | (with_reducible assumption) | assumption)
                    obtain ⟨ad1052, e1052, hx1052_0⟩ := Kd.at_bool (Kd.R_reads' HO_10.out).2.2 x11_3 p1052 q1052
                    (try rw [← Nbq30.out] at hx1052_0)
                    cases e1052
                    replace p1052 := eq_true p1052
                    replace q1052 := eq_true q1052
                    try go_wp2
                    have n0_ := Aside0.mk (Kd.R_drew HO_6.out)
                    have n1_ := Aside0.mk (Kd.R_drew HO_10.out)
                    have n2_ := Aside0.mk (below_drew1 HB.out)
                    clear HO_6
                    clear HO_10
                    clear HB
                    have HO_6 := n0_
                    have HO_10 := n1_
                    have HB := n2_
                    clear n0_ n1_ n2_
                    obtain ⟨Ao39, co39, eo39⟩ := Kd.R_slice HO_6.out
                    (first | subst eo39 | (injection eo39 with f1_ f2_ f3_; have f4_ := f1_.symm; have f5_ := f3_.symm; clear f1_ f2_ f3_; subst f4_; subst f5_))
                    have p1053 : 0 ≤ (x11_3 : Int) := of_decide_eq_true (by first | (with_reducible assumption) | assumption)
                    have q1053 : x11_3 < (x6_3.length : Int) := of_decide_eq_true (by first | (with_reducible assumption) | assumption)
                    obtain ⟨ad1053, e1053, hx1053_0⟩ := Kd.at_int (Kd.R_reads' HO_6.out).2.2 x11_3 p1053 q1053
                    cases e1053
                    replace p1053 := eq_true p1053
                    replace q1053 := eq_true q1053
                    have p1054 : 0 ≤ (x9_2 : Int) := of_decide_eq_true (by first | (with_reducible assumption) | assumption)
                    have q1054 : x9_2 < (l0.length : Int) := of_decide_eq_true (by first | (with_reducible assumption) | assumption)
                    obtain ⟨ad1054, e1054, hx1054_0, hx1054_1, hx1054_2, hx1054_3, hx1054_4⟩ := at_T38 HR0.out x9_2 p1054 q1054
                    have hw1054_4 := hx1054_4
                    have hw1054_3 := hx1054_3
                    have hw1054_2 := hx1054_2
                    have hw1054_1 := hx1054_1
                    have hw1054_0 := hx1054_0
                    obtain rfl : ad1048 = ad1054 := (by injection e1054)
                    replace hx1054_0 := (HB.out.cell (World.block_lt_of_cell? w _ hx1054_0)).trans hx1054_0
                    replace hx1054_1 := (HB.out.cell (World.block_lt_of_cell? w _ hx1054_1)).trans hx1054_1
                    replace hx1054_2 := (HB.out.cell (World.block_lt_of_cell? w _ hx1054_2)).trans hx1054_2
                    replace hx1054_3 := (HB.out.cell (World.block_lt_of_cell? w _ hx1054_3)).trans hx1054_3
                    replace hx1054_4 := (HB.out.cell (World.block_lt_of_cell? w _ hx1054_4)).trans hx1054_4
                    replace p1054 := eq_true p1054
                    replace q1054 := eq_true q1054
                    have p36 : 0 ≤ (x11_3 : Int) := of_decide_eq_true (by first | (with_reducible assumption) | assumption)
                    have q36 : (x11_3 : Int) < ((x6_3.length : Int) : Int) := of_decide_eq_true (by first | (with_reducible assumption) | assumption)
                    obtain ⟨go36, co36, eo36, gb36, gl36, cl36, HG36⟩ := Kd.R_form HO_6.out (by omega)
                    (first | cases eo36 | (injection eo36 with ea_ en_ ec_; (first | subst ea_ | (injection ea_ with ea_; subst ea_)); subst ec_; clear en_))
                    have GB36 := Aside0.mk gb36
                    have GG36 := Aside0.mk HG36
                    clear gb36 gl36 HG36
                    (first | simp only [add_plain] at hx1053_0 | skip)
                    obtain ⟨hx36_0, hf36_0⟩ := Kd.R_celln 0 HO_6.out (x11_3 : Int) p36 q36
                    replace p36 := eq_true p36
                    replace q36 := eq_true q36
                    have HP40 := Kd.R_putn HO_6.out (x11_3 : Int) ji35
                    rw [← Ny1055.out] at HP40
                    have HQ40 := Aside0.mk HP40
                    clear HP40
                    refine start_ (n := 14) (S := fun w' => w'.cell? ⟨go36, (x11_3).toNat, none⟩ = some (.int .i64 (rd x6_3 x11_3)) ∧ w'.cell? (ad1048.add ((x9_2).toNat * 5)) = some (.int .i64 ((rd_T38 l0 x9_2).f0.f0)) ∧ w'.cell? ⟨(ad1048.add ((x9_2).toNat * 5)).block, (ad1048.add ((x9_2).toNat * 5)).off + 1, none⟩ = some (.int .i64 ((rd_T38 l0 x9_2).f0.f1)) ∧ w'.cell? ⟨(ad1048.add ((x9_2).toNat * 5)).block, (ad1048.add ((x9_2).toNat * 5)).off + 2, none⟩ = some (.int .i64 ((rd_T38 l0 x9_2).f0.f2)) ∧ w'.cell? ⟨(ad1048.add ((x9_2).toNat * 5)).block, (ad1048.add ((x9_2).toNat * 5)).off + 3, none⟩ = some (.int .i64 ((rd_T38 l0 x9_2).f1)) ∧ w'.cell? ⟨(ad1048.add ((x9_2).toNat * 5)).block, (ad1048.add ((x9_2).toNat * 5)).off + 4, none⟩ = some (.int .i64 ((rd_T38 l0 x9_2).f2))) (ds := [13]) z62_0 (by kernel_rfl) rfl rfl ⟨hx1053_0, ((HB.out.cell (World.block_lt_of_cell? w _ hw1054_0)).trans hw1054_0), ((HB.out.cell (World.block_lt_of_cell? w _ hw1054_1)).trans hw1054_1), ((HB.out.cell (World.block_lt_of_cell? w _ hw1054_2)).trans hw1054_2), ((HB.out.cell (World.block_lt_of_cell? w _ hw1054_3)).trans hw1054_3), ((HB.out.cell (World.block_lt_of_cell? w _ hw1054_4)).trans hw1054_4)⟩ (fun hHeld => ?_); refine with_tabW kimberliteref02_Settle.tab21 kimberliteref02_Settle.bits21 (fun HT_ HW_ => ?_)
                    generalize wr.drew = w38 at HO_6 HO_10 HB GG36 HQ40 hf36_0 hx1053_0 hx1054_0 hx1054_1 hx1054_2 hx1054_3 hx1054_4 hx36_0 hHeld ⊢
                    refine pure_ (i := 0) (N := some 71) (v := ?_) (a' := ?_) z62_1 rfl rfl (any_of HT_.out (by kernel_rfl)) (fun _ _ _ h => h) (Or.inl ⟨by rfl, ?_⟩) ?_ ?_
                    rotate_left
                    ·intro w'
                     go_simp
                     with_reducible rfl
                    rotate_left
                    ·simp only [Act.put, List.setIfInBounds_toArray, List.set_cons_zero, List.set_cons_succ, i64_w, i32_w]
                     rfl
                    refine pure_ (i := 1) (N := some 72) (v := ?_) (a' := ?_) z62_2 rfl rfl (any_of HT_.out (by kernel_rfl)) (fun _ _ _ h => h) (Or.inl ⟨by rfl, ?_⟩) ?_ ?_
                    rotate_left
                    ·intro w'
                     go_simp
                     with_reducible rfl
                    rotate_left
                    ·simp only [Act.put, List.setIfInBounds_toArray, List.set_cons_zero, List.set_cons_succ, i64_w, i32_w]
                     rfl
                    refine pure_ (i := 2) (N := some 73) (v := ?_) (a' := ?_) z62_3 rfl rfl (any_of HT_.out (by kernel_rfl)) (fun _ _ _ h => h) (Or.inl ⟨by rfl, ?_⟩) ?_ ?_
                    rotate_left
                    ·intro w'
                     go_simp
                     with_reducible rfl
                    rotate_left
                    ·simp only [Act.put, List.setIfInBounds_toArray, List.set_cons_zero, List.set_cons_succ, i64_w, i32_w]
                     rfl
                    refine pure_ (i := 3) (N := some 74) (v := ?_) (a' := ?_) z62_4 rfl rfl (any_of HT_.out (by kernel_rfl)) (fun _ _ _ h => h) (Or.inl ⟨by rfl, ?_⟩) ?_ ?_
                    rotate_left
                    ·intro w'
                     go_simp
                     with_reducible rfl
                    rotate_left
                    ·simp only [Act.put, List.setIfInBounds_toArray, List.set_cons_zero, List.set_cons_succ, i64_w, i32_w]
                     rfl
                    refine pure_ (i := 4) (N := some 75) (v := ?_) (a' := ?_) z62_5 rfl rfl (any_of HT_.out (by kernel_rfl)) (fun _ _ _ h => h) (Or.inl ⟨by rfl, ?_⟩) ?_ ?_
                    rotate_left
                    ·intro w'
                     go_simp
                     with_reducible rfl
                    rotate_left
                    ·simp only [Act.put, List.setIfInBounds_toArray, List.set_cons_zero, List.set_cons_succ, i64_w, i32_w]
                     rfl
                    refine pure_ (i := 6) (N := some 77) (v := ?_) (a' := ?_) z62_6 rfl rfl (any_of HT_.out (by kernel_rfl)) (fun _ _ _ h => h) (Or.inl ⟨by rfl, ?_⟩) ?_ ?_
                    rotate_left
                    ·intro w'
                     go_simp
                     with_reducible rfl
                    rotate_left
                    ·simp only [Act.put, List.setIfInBounds_toArray, List.set_cons_zero, List.set_cons_succ, i64_w, i32_w]
                     rfl
                    refine pure_ (i := 7) (N := some 78) (v := ?_) (a' := ?_) z62_7 rfl rfl (any_of HT_.out (by kernel_rfl)) (fun _ _ _ h => h) (Or.inl ⟨by rfl, ?_⟩) ?_ ?_
                    rotate_left
                    ·intro w'
                     go_simp
                     with_reducible rfl
                    rotate_left
                    ·simp only [Act.put, List.setIfInBounds_toArray, List.set_cons_zero, List.set_cons_succ, i64_w, i32_w]
                     rfl
                    refine pure_ (i := 8) (N := some 79) (v := ?_) (a' := ?_) z62_8 rfl rfl (any_of HT_.out (by kernel_rfl)) (fun _ _ _ h => h) (Or.inl ⟨by rfl, ?_⟩) ?_ ?_
                    rotate_left
                    ·intro w'
                     go_simp
                     with_reducible rfl
                    rotate_left
                    ·simp only [Act.put, List.setIfInBounds_toArray, List.set_cons_zero, List.set_cons_succ, i64_w, i32_w]
                     rfl
                    refine pure_ (i := 9) (N := some 80) (v := ?_) (a' := ?_) z62_9 rfl rfl (any_of HT_.out (by kernel_rfl)) (fun _ _ _ h => h) (Or.inl ⟨by rfl, ?_⟩) ?_ ?_
                    rotate_left
                    ·intro w'
                     go_simp
                     with_reducible rfl
                    rotate_left
                    ·simp only [Act.put, List.setIfInBounds_toArray, List.set_cons_zero, List.set_cons_succ, i64_w, i32_w]
                     rfl
                    refine take_ (i := 5) (N := some 76) (v := ?_) (a' := ?_) z62_10 rfl rfl (take_ofW HT_.out HW_.out (by kernel_rfl)) (fun _ _ _ h => h) (Or.inl ⟨by rfl, ?_⟩) hHeld ?_ ?_
                    rotate_left
                    ·rintro w' ⟨s0, s1, s2, s3, s4, s5⟩
                     go_simp
                     with_reducible rfl
                    rotate_left
                    ·simp only [Act.put, List.setIfInBounds_toArray, List.set_cons_zero, List.set_cons_succ, i64_w, i32_w]
                     rfl
                    refine take_ (i := 10) (N := some 81) (v := ?_) (a' := ?_) z62_11 rfl rfl (take_ofW HT_.out HW_.out (by kernel_rfl)) (fun _ _ _ h => h) (Or.inl ⟨by rfl, ?_⟩) hHeld ?_ ?_
                    rotate_left
                    ·rintro w' ⟨s0, s1, s2, s3, s4, s5⟩
                     go_simp
                     with_reducible rfl
                    rotate_left
                    ·simp only [Act.put, List.setIfInBounds_toArray, List.set_cons_zero, List.set_cons_succ, i64_w, i32_w]
                     rfl
                    refine pure_ (i := 11) (N := some 82) (v := ?_) (a' := ?_) z62_12 rfl rfl (any_of HT_.out (by kernel_rfl)) (fun _ _ _ h => h) (Or.inl ⟨by rfl, ?_⟩) ?_ ?_
                    rotate_left
                    ·intro w'
                     go_simp
                     with_reducible rfl
                    rotate_left
                    ·simp only [Act.put, List.setIfInBounds_toArray, List.set_cons_zero, List.set_cons_succ, i64_w, i32_w]
                     rfl
                    refine pure_ (i := 12) (N := some 83) (v := ?_) (a' := ?_) z62_13 rfl rfl (any_of HT_.out (by kernel_rfl)) (fun _ _ _ h => h) (Or.inl ⟨by rfl, ?_⟩) ?_ ?_
                    rotate_left
                    ·intro w'
                     go_simp
                     with_reducible rfl
                    rotate_left
                    ·simp only [Act.put, List.setIfInBounds_toArray, List.set_cons_zero, List.set_cons_succ, i64_w, i32_w]
                     rfl
                    refine last_ (i := 13) (N := none) z62_14 rfl rfl (one_of HT_.out (by kernel_rfl)) (by decide) (fun K hK => ?_)
                    refine skip_ (w1 := ?_) (by rfl) rfl ?_ ?_
                    rotate_left
                    ·go_simp
                     rfl
                    refine hK.out _ _ ?_
                    clear hK K
                    refine done_ (done_of HT_.out (by kernel_rfl)) ?_
                    try go_wp2
                    go_roundg k3
                    case measure => have := HK1.out; have := HK2.out; have := HK3.out; omega
                    case rel => exact ⟨(y1055), (wrap64 (x11_3 + 1)), (by first | rfl | (simp; done) | (simp [*]; done)), H', ⟨by have := HK1.out; have := HK2.out; have := HK3.out; omega⟩, ⟨by (with_reducible repeat (first | apply Kd.R_alloc | apply Kd.R_drewN | apply Kd.R_drew)); exact HQ40.out⟩, ⟨by (with_reducible repeat (first | apply Kd.R_alloc | apply Kd.R_drewN | apply Kd.R_drew)); exact Kd.R_mono (Kd.R_far (p := ⟨go36, (x11_3 : Int).toNat, none⟩) (Kd.R_types HO_10.out GG36.out (by decide)) (fun _ hk => hk.2) (.int .i64 ji35)) (fun _ hk => trivial)⟩, ⟨by repeat (first | (with_reducible first | exact HB.out | apply below_alloc | apply pw_below_drewN | apply below_drew1 | refine below_set ?_ GB36.out) | exact HB.out)⟩⟩
                   ·rw [if_neg c34] at H
                    exact absurd H (by simp)
                  ·rw [if_neg c33] at H
                   exact absurd H (by simp)
                 ·rw [if_neg c32] at H
                  exact absurd H (by simp)
                ·replace c31 := Bool.eq_false_iff.mpr c31
                 subst c31
                 have H1 : (kimberliteref02_Settle.l3 k3 l0 x6_3 x9_2 t1049 (wrap64 (x11_3 + 1))) = some (r1, r2, r3) := by rw [if_neg (show ¬ (false = true) by decide)] at H; exact H
                 clear H
                 have H := H1
                 clear H1
                 have H' := Aside0.mk H
                 clear H
                 obtain ⟨Ao41, co41, eo41⟩ := Kd.R_slice HO_10.out
                 subst eo41
                 have p1052 : 0 ≤ (x11_3 : Int) := of_decide_eq_true (by first | (with_reducible assumption) | assumption)
                 have q1052 : x11_3 < (t1049.length : Int) := of_decide_eq_true (by first | (with_reducible assumption) | assumption)
                 obtain ⟨ad1052, e1052, hx1052_0⟩ := Kd.at_bool (Kd.R_reads' HO_10.out).2.2 x11_3 p1052 q1052
                 (try rw [← Nbq30.out] at hx1052_0)
                 cases e1052
                 replace p1052 := eq_true p1052
                 replace q1052 := eq_true q1052
                 go_wp2
                 go_roundg k3
                 case measure => have := HK1.out; have := HK2.out; have := HK3.out; omega
                 case rel => exact ⟨(x6_3), (wrap64 (x11_3 + 1)), (by first | rfl | (simp; done) | (simp [*]; done)), H', ⟨by have := HK1.out; have := HK2.out; have := HK3.out; omega⟩, ⟨by (with_reducible repeat (first | apply Kd.R_alloc | apply Kd.R_drewN | apply Kd.R_drew)); exact HO_6.out⟩, ⟨by (with_reducible repeat (first | apply Kd.R_alloc | apply Kd.R_drewN | apply Kd.R_drew)); exact HO_10.out⟩, ⟨by repeat (first | (with_reducible first | exact HB.out | apply below_alloc | apply pw_below_drewN | apply below_drew1) | exact HB.out)⟩⟩
               ·rw [if_neg c29] at H
                exact absurd H (by simp)
              ·rw [if_neg c28] at H
               exact absurd H (by simp)
             ·rw [if_neg c27] at H
              have c27b0 : decide (x11_3 < (l0.length : Int)) = false := decide_eq_false c27
              clear c27
              have H' := Aside0.mk H
              clear H
              go_wp2
              go_roundg k3
              case measure => have := HK1.out; have := HK2.out; have := HK3.out; omega
              case rel => exact ⟨(x6_3), (wrap64 (x9_2 + 1)), (by first | rfl | (simp; done) | (simp [*]; done)), H', ⟨by have := HK1.out; have := HK2.out; have := HK3.out; omega⟩, ⟨by (with_reducible repeat (first | apply Kd.R_alloc | apply Kd.R_drewN | apply Kd.R_drew)); exact HO_6.out⟩, ⟨by repeat (first | (with_reducible first | exact HB.out | apply below_alloc | apply pw_below_drewN | apply below_drew1) | exact HB.out)⟩⟩
          ·rw [if_neg c24] at H
           exact absurd H (by simp)
         ·rw [if_neg c23] at H
          have c23b0 : decide (x9_2 < (l0.length : Int)) = false := decide_eq_false c23
          clear c23
          replace H := Option.bind_eq_some_iff.mp H
          obtain ⟨t1047, A420, H⟩ := H
          replace H : (some (x6_2, t1047, 0)) = some (r1, r2, r3) := H
          have A42 := Aside0.mk A420
          clear A420
          simp only [Option.some.injEq, Prod.mk.injEq] at H
          obtain ⟨rfl, rfl, rfl⟩ := H
          obtain ⟨Ao43, co43, eo43⟩ := Kd.R_slice HO_6.out
          subst eo43
          go_wp2_with (first | ((with_reducible refine gate_callee (f := 63) rfl ?_); refine goesL_ (some 87) rfl rfl Try.func63 (by kernel_rfl) rfl #[.slice A0 l0.length c0, .slice Ao43 x6_2.length co43] rfl (by (try simp only [List.map_toArray, List.map_cons, List.map_nil]); first | done | rfl | (simp only [List.length_drop, List.length_take]; rfl)) ?_; (with_reducible refine (kimberliteref02_Loss.calls k2 _ _ l0 _ _ x6_2 t1047 _ ?side1 ?side2 ?side3 ?side4 A42.out).mono ?_); (case side1 => repeat (first | exact (Kd.C_below HR0.out HB.out) | (with_reducible refine Kd.C_alloc ?_ _) | (with_reducible refine Kd.C_drewN ?_ _) | (with_reducible refine Kd.C_drew ?_))); (case side2 => exact HC0.out); (case side3 => repeat (first | exact (Kd.R_reads' HO_6.out).2.2 | (with_reducible refine Kd.C_alloc ?_ _) | (with_reducible refine Kd.C_drewN ?_ _) | (with_reducible refine Kd.C_drew ?_))); (case side4 => exact (Kd.R_reads' HO_6.out).2.1); rintro e w44 ⟨rfl, hb⟩; refine ⟨_, rfl, ?_⟩; have n0_ := Aside0.mk (Kd.R_below (by (with_reducible repeat (first | apply Kd.R_alloc | apply Kd.R_drewN | apply Kd.R_drew)); exact HO_6.out) hb); have n1_ := Aside0.mk (below_step (by repeat (first | (with_reducible first | exact HB.out | apply below_alloc | apply pw_below_drewN | apply below_drew1) | exact HB.out)) hb); clear HO_6; clear HB; have HO_6 := n0_; have HB := n1_; clear n0_ n1_; (try clear hb); (try clear hb2); (try clear hk); (try clear hi)))
          go_ret3
          exact ⟨_, by first | rfl | (simp [errW_none, errW_some] <;> rfl) | (simp [*, errW_none, errW_some] <;> rfl), by (with_reducible repeat (first | apply Kd.R_alloc | apply Kd.R_drewN | apply Kd.R_drew)); exact HO_6.out, by repeat (first | (with_reducible first | exact HB.out | apply below_alloc | apply pw_below_drewN | apply below_drew1) | exact HB.out)⟩
   ·rw [if_neg c5] at H
    exact absurd H (by simp)
  ·rw [if_neg c4] at H
   exact absurd H (by simp)
 ·rw [if_neg c3] at H
  have c3b0 : (t1039 == 0) = false := beq_eq_false_iff_ne.mpr c3
  have c3b1 : (t1039 != 0) = true := bne_iff_ne.mpr c3
  simp only [Option.some.injEq, Prod.mk.injEq] at H
  obtain ⟨rfl, rfl, rfl⟩ := H
  go_enter Try.func62, Try.ntmps62
  go_wp2_with (first | ((with_reducible refine gate_callee (f := 69) rfl ?_); refine goesL_ (some 13) rfl rfl Try.func69 (by kernel_rfl) rfl #[.slice A0 l0.length c0] rfl (by (try simp only [List.map_toArray, List.map_cons, List.map_nil]); first | done | rfl | (simp only [List.length_drop, List.length_take]; rfl)) ?_; (with_reducible refine (kimberliteref02_Quotes.calls k _ _ l0 t1039 _ ?side1 ?side2 A2.out).mono ?_); (case side1 => repeat (first | exact HR0.out | (with_reducible refine Kd.C_alloc ?_ _) | (with_reducible refine Kd.C_drewN ?_ _) | (with_reducible refine Kd.C_drew ?_))); (case side2 => exact HC0.out); rintro e w45 ⟨rfl, hb⟩; refine ⟨_, rfl, ?_⟩; have n0_ := Aside0.mk (below_step (by repeat (first | (with_reducible first | exact HB.out | apply below_alloc | apply pw_below_drewN | apply below_drew1) | exact HB.out)) hb); clear HB; have HB := n0_; clear n0_; (try clear hb); (try clear hb2); (try clear hk); (try clear hi)))
  go_ret3
  exact ⟨_, by first | rfl | (simp [errW_none, errW_some] <;> rfl) | (simp [*, errW_none, errW_some] <;> rfl), by first | exact Kd.R_nil _ _ _ _ _ | exact Kd.N_nil _ _ _ _ _ | exact Kd.V_nil _ _ _ _ _ | exact Kd.Q_nil _ _ _ _ _ | exact Kd.S_nil _ _ _ _ _, by repeat (first | (with_reducible first | exact HB.out | apply below_alloc | apply pw_below_drewN | apply below_drew1) | exact HB.out)⟩
end
end Go.Proofs.Ytnbdfmdjedakcaa.PP
