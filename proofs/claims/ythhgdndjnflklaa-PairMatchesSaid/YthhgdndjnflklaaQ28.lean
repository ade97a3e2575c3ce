/- The reference Match: its code comes to what its function says (out of a printed text, its round with two stores set right by hand). No conditions. -/
import Derived.Test.YthhgdndjnflklaaQ0
import Derived.Test.YthhgdndjnflklaaQ17
import Derived.Test.YthhgdndjnflklaaQ18
import Derived.Test.YthhgdndjnflklaaExt
namespace Go.Proofs.Ythhgdndjnflklaa.PP
open Go.RowKit Go.Proofs.YthhgdndjnflklaaW.PrintWords Go.Proofs.YthhgdndjnflklaaW.PrintLast Go.Proofs.YthhgdndjnflklaaW.PrintMore
attribute [local go_sem] max2_int min2_int max_two min_two max_three min_three max_four min_four   -- for this text's walks alone
set_option linter.unusedVariables false
set_option linter.unusedSimpArgs false

/-! ### kimberliteref04_Match: function 26 -/
mutual
def kimberliteref04_Match.l0 : Nat → Int → List Int → List (List Bool) → List Int → Int → Option (List Int × Int)
  | 0, _, _, _, _, _ => none
  | k + 1, x0, x6, x7, x8, x9 => if x9 < x0 then (if 0 ≤ x9 then (if x9 < (x8.length : Int) then (kimberliteref04_Match.l0 k x0 x6 x7 (x8.set (x9 : Int).toNat x0) (wrap64 (x9 + 1))) else (none)) else (none)) else (if 0 ≤ x0 then (kimberliteref04_Match.l1 k x0 x6 x7 x8 (wrap64 ((shl .i64 1 x0) - 1)) 0) else (none))
def kimberliteref04_Match.l1 : Nat → Int → List Int → List (List Bool) → List Int → Int → Int → Option (List Int × Int)
  | 0, _, _, _, _, _, _ => none
  | k + 1, x0, x6, x7, x8, x10, x11 => if x11 < x0 then (if 0 ≤ x11 then (if (Int.tmod (shr .i64 x10 x11) 2) = 0 then (kimberliteref04_Match.l1 k x0 x6 x7 x8 x10 (wrap64 (x11 + 1))) else (kimberliteref04_Match.l2 k x0 x6 x7 x8 x10 x11 (wrap64 (x10 - (shl .i64 1 x11))) (wrap64 (x11 + 1)))) else (none)) else (if 0 ≤ x0 then (if 0 ≤ (wrap64 ((shl .i64 1 x0) - 1)) then (if (wrap64 ((shl .i64 1 x0) - 1)) < (x6.length : Int) then (some (x8, rd x6 (wrap64 ((shl .i64 1 x0) - 1)))) else (none)) else (none)) else (none))
def kimberliteref04_Match.l2 : Nat → Int → List Int → List (List Bool) → List Int → Int → Int → Int → Int → Option (List Int × Int)
  | 0, _, _, _, _, _, _, _, _ => none
  | k + 1, x0, x6, x7, x8, x10, x11, x12, x13 => if x13 < x0 then (if 0 ≤ x11 then (if x11 < (x7.length : Int) then (if 0 ≤ x13 then (if x13 < ((rd_L5 x7 x11).length : Int) then (if rdOf false (rd_L5 x7 x11) x13 = true then (if (Int.tmod (shr .i64 x12 x13) 2) = 1 then (if 0 ≤ (wrap64 (x12 - (shl .i64 1 x13))) then (if (wrap64 (x12 - (shl .i64 1 x13))) < (x6.length : Int) then (if 0 ≤ x10 then (if x10 < (x6.length : Int) then (if (wrap64 (1 + (rd x6 (wrap64 (x12 - (shl .i64 1 x13)))))) = (rd x6 x10) then (if x11 < (x8.length : Int) then (if x13 < (x8.length : Int) then (kimberliteref04_Match.l1 k x0 x6 x7 ((x8.set (x11 : Int).toNat x13).set (x13 : Int).toNat x11) (wrap64 (x12 - (shl .i64 1 x13))) (wrap64 (x11 + 1))) else (none)) else (none)) else (kimberliteref04_Match.l2 k x0 x6 x7 x8 x10 x11 x12 (wrap64 (x13 + 1)))) else (none)) else (none)) else (none)) else (none)) else (kimberliteref04_Match.l2 k x0 x6 x7 x8 x10 x11 x12 (wrap64 (x13 + 1)))) else (kimberliteref04_Match.l2 k x0 x6 x7 x8 x10 x11 x12 (wrap64 (x13 + 1)))) else (none)) else (none)) else (none)) else (none)) else (kimberliteref04_Match.l1 k x0 x6 x7 x8 x12 (wrap64 (x11 + 1)))
end
def kimberliteref04_Match.f (k : Nat) (a0 : Int) (l1 : List (S41)) : Option (List Int × Int) := (kimberliteref04_Most.f k a0 l1).bind fun t349 => ((kimberliteref04_Near.f k a0 l1).bind fun t352 => (if 0 ≤ a0 then (if (a0 : Int).toNat ≤ 35184372088832 then (kimberliteref04_Match.l0 k a0 t349 t352 (List.replicate (a0 : Int).toNat 0) 0) else (none)) else (none)))
theorem kimberliteref04_Match.mono_l : ∀ k, (∀ y0 y1 y2 y3 y4, LeO (kimberliteref04_Match.l0 k y0 y1 y2 y3 y4) (kimberliteref04_Match.l0 (k + 1) y0 y1 y2 y3 y4)) ∧ (∀ y0 y1 y2 y3 y4 y5, LeO (kimberliteref04_Match.l1 k y0 y1 y2 y3 y4 y5) (kimberliteref04_Match.l1 (k + 1) y0 y1 y2 y3 y4 y5)) ∧ (∀ y0 y1 y2 y3 y4 y5 y6 y7, LeO (kimberliteref04_Match.l2 k y0 y1 y2 y3 y4 y5 y6 y7) (kimberliteref04_Match.l2 (k + 1) y0 y1 y2 y3 y4 y5 y6 y7))
  | 0 => ⟨fun _ _ _ _ _ r h => by simp [kimberliteref04_Match.l0] at h, fun _ _ _ _ _ _ r h => by simp [kimberliteref04_Match.l1] at h, fun _ _ _ _ _ _ _ _ r h => by simp [kimberliteref04_Match.l2] at h⟩
  | k + 1 => by
    obtain ⟨ih0, ih1, ih2⟩ := kimberliteref04_Match.mono_l k
    refine ⟨?_, ?_, ?_⟩
    · intro y0 y1 y2 y3 y4
      unfold kimberliteref04_Match.l0
      repeat' first
      | (with_reducible exact ih0 _ _ _ _ _)
      | (with_reducible exact ih1 _ _ _ _ _ _)
      | (with_reducible exact ih2 _ _ _ _ _ _ _ _)
      | (with_reducible exact kimberliteref04_Most.mono _ _ _)
      | (with_reducible exact kimberliteref04_Near.mono _ _ _)
      | (with_reducible exact LeO.refl _)
      | (with_reducible exact LeO.none _)
      | (with_reducible refine LeO.ite ?_ ?_)
      | (with_reducible refine LeO.bind ?_ (fun _ => ?_))
      | exact ih0 _ _ _ _ _
      | exact ih1 _ _ _ _ _ _
      | exact ih2 _ _ _ _ _ _ _ _
      | exact kimberliteref04_Most.mono _ _ _
      | exact kimberliteref04_Near.mono _ _ _
      | exact LeO.none _
      | refine LeO.ite ?_ ?_
      | refine LeO.bind ?_ (fun _ => ?_)
    · intro y0 y1 y2 y3 y4 y5
      unfold kimberliteref04_Match.l1
      repeat' first
      | (with_reducible exact ih0 _ _ _ _ _)
      | (with_reducible exact ih1 _ _ _ _ _ _)
      | (with_reducible exact ih2 _ _ _ _ _ _ _ _)
      | (with_reducible exact kimberliteref04_Most.mono _ _ _)
      | (with_reducible exact kimberliteref04_Near.mono _ _ _)
      | (with_reducible exact LeO.refl _)
      | (with_reducible exact LeO.none _)
      | (with_reducible refine LeO.ite ?_ ?_)
      | (with_reducible refine LeO.bind ?_ (fun _ => ?_))
      | exact ih0 _ _ _ _ _
      | exact ih1 _ _ _ _ _ _
      | exact ih2 _ _ _ _ _ _ _ _
      | exact kimberliteref04_Most.mono _ _ _
      | exact kimberliteref04_Near.mono _ _ _
      | exact LeO.none _
      | refine LeO.ite ?_ ?_
      | refine LeO.bind ?_ (fun _ => ?_)
    · intro y0 y1 y2 y3 y4 y5 y6 y7
      unfold kimberliteref04_Match.l2
      repeat' first
      | (with_reducible exact ih0 _ _ _ _ _)
      | (with_reducible exact ih1 _ _ _ _ _ _)
      | (with_reducible exact ih2 _ _ _ _ _ _ _ _)
      | (with_reducible exact kimberliteref04_Most.mono _ _ _)
      | (with_reducible exact kimberliteref04_Near.mono _ _ _)
      | (with_reducible exact LeO.refl _)
      | (with_reducible exact LeO.none _)
      | (with_reducible refine LeO.ite ?_ ?_)
      | (with_reducible refine LeO.bind ?_ (fun _ => ?_))
      | exact ih0 _ _ _ _ _
      | exact ih1 _ _ _ _ _ _
      | exact ih2 _ _ _ _ _ _ _ _
      | exact kimberliteref04_Most.mono _ _ _
      | exact kimberliteref04_Near.mono _ _ _
      | exact LeO.none _
      | refine LeO.ite ?_ ?_
      | refine LeO.bind ?_ (fun _ => ?_)
theorem kimberliteref04_Match.mono : ∀ a0 a1 k, LeO (kimberliteref04_Match.f k a0 a1) (kimberliteref04_Match.f (k + 1) a0 a1) := by
  intro a0 a1 k
  obtain ⟨ih0, ih1, ih2⟩ := kimberliteref04_Match.mono_l k
  unfold kimberliteref04_Match.f
  repeat' first
      | (with_reducible exact ih0 _ _ _ _ _)
      | (with_reducible exact ih1 _ _ _ _ _ _)
      | (with_reducible exact ih2 _ _ _ _ _ _ _ _)
      | (with_reducible exact kimberliteref04_Most.mono _ _ _)
      | (with_reducible exact kimberliteref04_Near.mono _ _ _)
      | (with_reducible exact LeO.refl _)
      | (with_reducible exact LeO.none _)
      | (with_reducible refine LeO.ite ?_ ?_)
      | (with_reducible refine LeO.bind ?_ (fun _ => ?_))
      | exact ih0 _ _ _ _ _
      | exact ih1 _ _ _ _ _ _
      | exact ih2 _ _ _ _ _ _ _ _
      | exact kimberliteref04_Most.mono _ _ _
      | exact kimberliteref04_Near.mono _ _ _
      | exact LeO.none _
      | refine LeO.ite ?_ ?_
      | refine LeO.bind ?_ (fun _ => ?_)
set_option maxHeartbeats 8000000 in
set_option maxRecDepth 100000 in
theorem kimberliteref04_Match.calls (k : Nat) (a0 : Int) (A1 : Option Addr) (c1 : Nat) (l1 : List (S41)) (r1 : List Int) (r2 : Int) (w : World) (hr1 : Kd.C k41 w A1 l1.length l1) (hc1 : l1.length ≤ c1) (h : kimberliteref04_Match.f k a0 l1 = some (r1, r2)) :
    Calls Try.prog 26 #[.int .i64 a0, .slice A1 l1.length c1] w fun e w' => ∃ v0_ : Value, e = .returned (.tuple #[v0_, .int .i64 r2]) ∧ Kd.R (Kd.int .i64) 3 w' w.heap.size (fun _ => True) v0_ r1 ∧ Below w.heap.size w w' := by
  have HR1 := Aside0.mk hr1
  have HC1 := Aside0.mk hc1
  clear hr1 hc1
  have HB := Aside0.mk (Below.refl w.heap.size w)
  have H : ((kimberliteref04_Most.f k a0 l1).bind fun t349 => ((kimberliteref04_Near.f k a0 l1).bind fun t352 => (if 0 ≤ a0 then (if (a0 : Int).toNat ≤ 35184372088832 then (kimberliteref04_Match.l0 k a0 t349 t352 (List.replicate (a0 : Int).toNat 0) 0) else (none)) else (none)))) = some (r1, r2) := h
  clear h
  replace H := Option.bind_eq_some_iff.mp H
  obtain ⟨t349, A30, H⟩ := H
  replace H : ((kimberliteref04_Near.f k a0 l1).bind fun t352 => (if 0 ≤ a0 then (if (a0 : Int).toNat ≤ 35184372088832 then (kimberliteref04_Match.l0 k a0 t349 t352 (List.replicate (a0 : Int).toNat 0) 0) else (none)) else (none))) = some (r1, r2) := H
  have A3 := Aside0.mk A30
  clear A30
  replace H := Option.bind_eq_some_iff.mp H
  obtain ⟨t352, A40, H⟩ := H
  replace H : (if 0 ≤ a0 then (if (a0 : Int).toNat ≤ 35184372088832 then (kimberliteref04_Match.l0 k a0 t349 t352 (List.replicate (a0 : Int).toNat 0) 0) else (none)) else (none)) = some (r1, r2) := H
  have A4 := Aside0.mk A40
  clear A40
  by_cases c5 : 0 ≤ a0
  · rw [if_pos c5] at H
    have c5b0 := eq_true c5
    have c5b1 : decide (0 ≤ a0) = true := decide_eq_true c5
    clear c5
    by_cases c6 : (a0 : Int).toNat ≤ 35184372088832
    · rw [if_pos c6] at H
      have c6b0 := eq_true c6
      have c6b1 : decide ((a0 : Int).toNat ≤ 35184372088832) = true := decide_eq_true c6
      clear c6
      obtain ⟨y355, hy355⟩ : ∃ y_ : List Int, y_ = (List.replicate (a0 : Int).toNat 0) := ⟨_, rfl⟩
      replace H : (kimberliteref04_Match.l0 k a0 t349 t352 y355 0) = some (r1, r2) := by first | (rw [hy355]; with_reducible exact H) | (have H2_ := (Option.bind_some _ _).symm.trans H; rw [hy355]; with_reducible exact H2_) | (have H2_ := (Option.bind_some _ _).symm.trans H; with_reducible exact H2_) | with_reducible exact H | (rw [hy355]; exact H) | exact H
      have Ny355 := Aside0.mk hy355
      clear hy355
      have H' := Aside0.mk H
      clear H
      go_enter Try.func26, Try.ntmps26
      go_wp2_with (first | (go_at_call 30; (with_reducible refine (kimberliteref04_Most.calls k a0 _ _ l1 t349 _ ?side1 ?side2 A3.out).mono ?_); (case side1 => repeat (first | exact HR1.out | (with_reducible refine Kd.C_alloc ?_ _) | (with_reducible refine Kd.C_drewN ?_ _) | (with_reducible refine Kd.C_drew ?_))); (case side2 => exact HC1.out); rintro e w7 ⟨v350, rfl, ho0, hb⟩; have n0_ := Aside0.mk (Kd.R_lower ho0 (below_size (by repeat (first | (with_reducible first | exact HB.out | apply below_alloc | apply pw_below_drewN | apply below_drew1) | exact HB.out)))); have n1_ := Aside0.mk (below_step (by repeat (first | (with_reducible first | exact HB.out | apply below_alloc | apply pw_below_drewN | apply below_drew1) | exact HB.out)) hb); clear HB; have HO351 := n0_; have HB := n1_; clear n0_ n1_; (try clear hb); (try clear hb2); (try clear hk); (try clear hi); (try clear ho0)) | (go_at_call 21; (with_reducible refine (kimberliteref04_Near.calls k a0 _ _ l1 t352 _ ?side1 ?side2 A4.out).mono ?_); (case side1 => repeat (first | exact (Kd.C_below HR1.out HB.out) | (with_reducible refine Kd.C_alloc ?_ _) | (with_reducible refine Kd.C_drewN ?_ _) | (with_reducible refine Kd.C_drew ?_))); (case side2 => exact HC1.out); rintro e w8 ⟨v353, rfl, ho0, hb⟩; have n0_ := Aside0.mk (Kd.R_below (by (with_reducible repeat (first | apply Kd.R_alloc | apply Kd.R_drewN | apply Kd.R_drew)); exact HO351.out) hb); have n1_ := Aside0.mk (Kd.S_lower ho0 (below_size (by repeat (first | (with_reducible first | exact HB.out | apply below_alloc | apply pw_below_drewN | apply below_drew1) | exact HB.out)))); have n2_ := Aside0.mk (below_step (by repeat (first | (with_reducible first | exact HB.out | apply below_alloc | apply pw_below_drewN | apply below_drew1) | exact HB.out)) hb); clear HO351; clear HB; have HO351 := n0_; have HO354 := n1_; have HB := n2_; clear n0_ n1_ n2_; (try clear hb); (try clear hb2); (try clear hk); (try clear hi); (try clear ho0)) | ((with_reducible refine gate_dst (N := 21) rfl ?_); refine Kd.R_make (Kd.int .i64) _ 3 rfl (N := 21) rfl 25 _ _ rfl a0 rfl rfl Try.underlying25 (.int .i64 0) 8 info3 rfl (by decide) (by omega) 0 (ok := fun _ => True) (okp := fun _ => True) rfl (fun _ hk => hk) trivial (of_decide_eq_true (by first | (with_reducible assumption) | assumption)) (Nat.le_trans (Nat.mul_le_mul_right _ (of_decide_eq_true (by first | (with_reducible assumption) | assumption) : a0.toNat ≤ 35184372088832)) (by omega)) (Below.refl _ _) (Nat.le_refl _) ?_; intro v356 w9 ho10 hb hg_ hnew_; clear hg_ hnew_; (first | rw [← Ny355.out] at ho10 | (simp only [Int.reduceToNat] at ho10; rw [← Ny355.out] at ho10)); have n0_ := Aside0.mk (Kd.R_elder' (by (with_reducible repeat (first | apply Kd.R_alloc | apply Kd.R_drewN | apply Kd.R_drew)); exact HO351.out) (Kd.R_base ho10) hb); have n1_ := Aside0.mk (Kd.S_below (by (with_reducible repeat (first | apply Kd.S_alloc | apply Kd.S_drewN | apply Kd.S_drew)); exact HO354.out) hb); have n2_ := Aside0.mk (Kd.R_lower (Kd.R_new' ho10 (Kd.R_lt (by (with_reducible repeat (first | apply Kd.R_alloc | apply Kd.R_drewN | apply Kd.R_drew)); exact HO351.out))) (below_size (by repeat (first | (with_reducible first | exact HB.out | apply below_alloc | apply pw_below_drewN | apply below_drew1) | exact HB.out)))); have n3_ := Aside0.mk (below_step (by repeat (first | (with_reducible first | exact HB.out | apply below_alloc | apply pw_below_drewN | apply below_drew1) | exact HB.out)) hb); clear HO351; clear HO354; clear HB; have HO351 := n0_; have HO354 := n1_; have HO357 := n2_; have HB := n3_; clear n0_ n1_ n2_ n3_; clear hb ho10))
      repeat (go_quiet (first | (go_at_call 30; (with_reducible refine (kimberliteref04_Most.calls k a0 _ _ l1 t349 _ ?side1 ?side2 A3.out).mono ?_); (case side1 => repeat (first | exact HR1.out | (with_reducible refine Kd.C_alloc ?_ _) | (with_reducible refine Kd.C_drewN ?_ _) | (with_reducible refine Kd.C_drew ?_))); (case side2 => exact HC1.out); rintro e w7 ⟨v350, rfl, ho0, hb⟩; have n0_ := Aside0.mk (Kd.R_lower ho0 (below_size (by repeat (first | (with_reducible first | exact HB.out | apply below_alloc | apply pw_below_drewN | apply below_drew1) | exact HB.out)))); have n1_ := Aside0.mk (below_step (by repeat (first | (with_reducible first | exact HB.out | apply below_alloc | apply pw_below_drewN | apply below_drew1) | exact HB.out)) hb); clear HB; have HO351 := n0_; have HB := n1_; clear n0_ n1_; (try clear hb); (try clear hb2); (try clear hk); (try clear hi); (try clear ho0)) | (go_at_call 21; (with_reducible refine (kimberliteref04_Near.calls k a0 _ _ l1 t352 _ ?side1 ?side2 A4.out).mono ?_); (case side1 => repeat (first | exact (Kd.C_below HR1.out HB.out) | (with_reducible refine Kd.C_alloc ?_ _) | (with_reducible refine Kd.C_drewN ?_ _) | (with_reducible refine Kd.C_drew ?_))); (case side2 => exact HC1.out); rintro e w8 ⟨v353, rfl, ho0, hb⟩; have n0_ := Aside0.mk (Kd.R_below (by (with_reducible repeat (first | apply Kd.R_alloc | apply Kd.R_drewN | apply Kd.R_drew)); exact HO351.out) hb); have n1_ := Aside0.mk (Kd.S_lower ho0 (below_size (by repeat (first | (with_reducible first | exact HB.out | apply below_alloc | apply pw_below_drewN | apply below_drew1) | exact HB.out)))); have n2_ := Aside0.mk (below_step (by repeat (first | (with_reducible first | exact HB.out | apply below_alloc | apply pw_below_drewN | apply below_drew1) | exact HB.out)) hb); clear HO351; clear HB; have HO351 := n0_; have HO354 := n1_; have HB := n2_; clear n0_ n1_ n2_; (try clear hb); (try clear hb2); (try clear hk); (try clear hi); (try clear ho0)) | ((with_reducible refine gate_dst (N := 21) rfl ?_); refine Kd.R_make (Kd.int .i64) _ 3 rfl (N := 21) rfl 25 _ _ rfl a0 rfl rfl Try.underlying25 (.int .i64 0) 8 info3 rfl (by decide) (by omega) 0 (ok := fun _ => True) (okp := fun _ => True) rfl (fun _ hk => hk) trivial (of_decide_eq_true (by first | (with_reducible assumption) | assumption)) (Nat.le_trans (Nat.mul_le_mul_right _ (of_decide_eq_true (by first | (with_reducible assumption) | assumption) : a0.toNat ≤ 35184372088832)) (by omega)) (Below.refl _ _) (Nat.le_refl _) ?_; intro v356 w9 ho10 hb hg_ hnew_; clear hg_ hnew_; (first | rw [← Ny355.out] at ho10 | (simp only [Int.reduceToNat] at ho10; rw [← Ny355.out] at ho10)); have n0_ := Aside0.mk (Kd.R_elder' (by (with_reducible repeat (first | apply Kd.R_alloc | apply Kd.R_drewN | apply Kd.R_drew)); exact HO351.out) (Kd.R_base ho10) hb); have n1_ := Aside0.mk (Kd.S_below (by (with_reducible repeat (first | apply Kd.S_alloc | apply Kd.S_drewN | apply Kd.S_drew)); exact HO354.out) hb); have n2_ := Aside0.mk (Kd.R_lower (Kd.R_new' ho10 (Kd.R_lt (by (with_reducible repeat (first | apply Kd.R_alloc | apply Kd.R_drewN | apply Kd.R_drew)); exact HO351.out))) (below_size (by repeat (first | (with_reducible first | exact HB.out | apply below_alloc | apply pw_below_drewN | apply below_drew1) | exact HB.out)))); have n3_ := Aside0.mk (below_step (by repeat (first | (with_reducible first | exact HB.out | apply below_alloc | apply pw_below_drewN | apply below_drew1) | exact HB.out)) hb); clear HO351; clear HO354; clear HB; have HO351 := n0_; have HO354 := n1_; have HO357 := n2_; have HB := n3_; clear n0_ n1_ n2_ n3_; clear hb ho10)); try go_wp2_with (first | (go_at_call 30; (with_reducible refine (kimberliteref04_Most.calls k a0 _ _ l1 t349 _ ?side1 ?side2 A3.out).mono ?_); (case side1 => repeat (first | exact HR1.out | (with_reducible refine Kd.C_alloc ?_ _) | (with_reducible refine Kd.C_drewN ?_ _) | (with_reducible refine Kd.C_drew ?_))); (case side2 => exact HC1.out); rintro e w7 ⟨v350, rfl, ho0, hb⟩; have n0_ := Aside0.mk (Kd.R_lower ho0 (below_size (by repeat (first | (with_reducible first | exact HB.out | apply below_alloc | apply pw_below_drewN | apply below_drew1) | exact HB.out)))); have n1_ := Aside0.mk (below_step (by repeat (first | (with_reducible first | exact HB.out | apply below_alloc | apply pw_below_drewN | apply below_drew1) | exact HB.out)) hb); clear HB; have HO351 := n0_; have HB := n1_; clear n0_ n1_; (try clear hb); (try clear hb2); (try clear hk); (try clear hi); (try clear ho0)) | (go_at_call 21; (with_reducible refine (kimberliteref04_Near.calls k a0 _ _ l1 t352 _ ?side1 ?side2 A4.out).mono ?_); (case side1 => repeat (first | exact (Kd.C_below HR1.out HB.out) | (with_reducible refine Kd.C_alloc ?_ _) | (with_reducible refine Kd.C_drewN ?_ _) | (with_reducible refine Kd.C_drew ?_))); (case side2 => exact HC1.out); rintro e w8 ⟨v353, rfl, ho0, hb⟩; have n0_ := Aside0.mk (Kd.R_below (by (with_reducible repeat (first | apply Kd.R_alloc | apply Kd.R_drewN | apply Kd.R_drew)); exact HO351.out) hb); have n1_ := Aside0.mk (Kd.S_lower ho0 (below_size (by repeat (first | (with_reducible first | exact HB.out | apply below_alloc | apply pw_below_drewN | apply below_drew1) | exact HB.out)))); have n2_ := Aside0.mk (below_step (by repeat (first | (with_reducible first | exact HB.out | apply below_alloc | apply pw_below_drewN | apply below_drew1) | exact HB.out)) hb); clear HO351; clear HB; have HO351 := n0_; have HO354 := n1_; have HB := n2_; clear n0_ n1_ n2_; (try clear hb); (try clear hb2); (try clear hk); (try clear hi); (try clear ho0)) | ((with_reducible refine gate_dst (N := 21) rfl ?_); refine Kd.R_make (Kd.int .i64) _ 3 rfl (N := 21) rfl 25 _ _ rfl a0 rfl rfl Try.underlying25 (.int .i64 0) 8 info3 rfl (by decide) (by omega) 0 (ok := fun _ => True) (okp := fun _ => True) rfl (fun _ hk => hk) trivial (of_decide_eq_true (by first | (with_reducible assumption) | assumption)) (Nat.le_trans (Nat.mul_le_mul_right _ (of_decide_eq_true (by first | (with_reducible assumption) | assumption) : a0.toNat ≤ 35184372088832)) (by omega)) (Below.refl _ _) (Nat.le_refl _) ?_; intro v356 w9 ho10 hb hg_ hnew_; clear hg_ hnew_; (first | rw [← Ny355.out] at ho10 | (simp only [Int.reduceToNat] at ho10; rw [← Ny355.out] at ho10)); have n0_ := Aside0.mk (Kd.R_elder' (by (with_reducible repeat (first | apply Kd.R_alloc | apply Kd.R_drewN | apply Kd.R_drew)); exact HO351.out) (Kd.R_base ho10) hb); have n1_ := Aside0.mk (Kd.S_below (by (with_reducible repeat (first | apply Kd.S_alloc | apply Kd.S_drewN | apply Kd.S_drew)); exact HO354.out) hb); have n2_ := Aside0.mk (Kd.R_lower (Kd.R_new' ho10 (Kd.R_lt (by (with_reducible repeat (first | apply Kd.R_alloc | apply Kd.R_drewN | apply Kd.R_drew)); exact HO351.out))) (below_size (by repeat (first | (with_reducible first | exact HB.out | apply below_alloc | apply pw_below_drewN | apply below_drew1) | exact HB.out)))); have n3_ := Aside0.mk (below_step (by repeat (first | (with_reducible first | exact HB.out | apply below_alloc | apply pw_below_drewN | apply below_drew1) | exact HB.out)) hb); clear HO351; clear HO354; clear HB; have HO351 := n0_; have HO354 := n1_; have HO357 := n2_; have HB := n3_; clear n0_ n1_ n2_ n3_; clear hb ho10)))
      go_loopg [9] k (fun kq v9 w' => ∃ (x8_1 : List Int) (x9_1 : Int), v9 = .int .i64 x9_1 ∧ Aside0 (kimberliteref04_Match.l0 kq a0 t349 t352 x8_1 x9_1 = some (r1, r2)) ∧ Aside0 (kq ≤ k) ∧ Aside0 (Kd.R (Kd.int .i64) 3 w' w.heap.size (fun k_ => some k_ ≠ (v356 : Value).ownBlock) v350 t349) ∧ Aside0 (Kd.S (Kd.slice 4 Kd.bool) 39 w' w.heap.size (fun _ => True) v353 t352) ∧ Aside0 (Kd.R (Kd.int .i64) 3 w' w.heap.size (fun k_ => some k_ ≠ (v350 : Value).ownBlock) v356 x8_1) ∧ Aside0 (Below w.heap.size w w'))
      case atStart => exact ⟨(y355), (0), (by first | rfl | (simp; done) | (simp [*]; done)), H', ⟨Nat.le_refl _⟩, ⟨by (with_reducible repeat (first | apply Kd.R_alloc | apply Kd.R_drewN | apply Kd.R_drew)); exact Kd.R_mono HO351.out (fun _ hk => hk.2)⟩, ⟨by (with_reducible repeat (first | apply Kd.S_alloc | apply Kd.S_drewN | apply Kd.S_drew)); exact HO354.out⟩, ⟨by (with_reducible repeat (first | apply Kd.R_alloc | apply Kd.R_drewN | apply Kd.R_drew)); exact Kd.R_mono HO357.out (fun _ hk => hk.2)⟩, ⟨by repeat (first | (with_reducible first | exact HB.out | apply below_alloc | apply pw_below_drewN | apply below_drew1) | exact HB.out)⟩⟩
      case round =>
        clear H'
        try clear c1
        try clear c2
        try clear p2
        try clear c5
        try clear c5b0
        try clear c5b1
        try clear c6
        try clear c6b0
        try clear c6b1
        obtain ⟨x8_1, x9_1, rfl, HA, HK1, HO_6, HO_7, HO_8, HB⟩ := hrel
        cases gk with
        | zero => exact absurd HA.out (by simp [kimberliteref04_Match.l0])
        | succ k1 =>
          have H := HA.out
          clear HA
          simp only [kimberliteref04_Match.l0] at H
          by_cases c11 : x9_1 < a0
          · rw [if_pos c11] at H
            have c11b0 : decide (x9_1 < a0) = true := decide_eq_true c11
            clear c11
            by_cases c12 : 0 ≤ x9_1
            · rw [if_pos c12] at H
              have c12b0 : decide (0 ≤ x9_1) = true := decide_eq_true c12
              clear c12
              by_cases c13 : x9_1 < (x8_1.length : Int)
              · rw [if_pos c13] at H
                have c13b0 : decide (x9_1 < (x8_1.length : Int)) = true := decide_eq_true c13
                clear c13
                obtain ⟨y358, hy358⟩ : ∃ y_ : List Int, y_ = (x8_1.set (x9_1 : Int).toNat a0) := ⟨_, rfl⟩
                replace H : (kimberliteref04_Match.l0 k1 a0 t349 t352 y358 (wrap64 (x9_1 + 1))) = some (r1, r2) := by first | (rw [hy358]; with_reducible exact H) | (have H2_ := (Option.bind_some _ _).symm.trans H; rw [hy358]; with_reducible exact H2_) | (have H2_ := (Option.bind_some _ _).symm.trans H; with_reducible exact H2_) | with_reducible exact H | (rw [hy358]; exact H) | exact H
                have Ny358 := Aside0.mk hy358
                clear hy358
                have H' := Aside0.mk H
                clear H
                have p14 : 0 ≤ (x9_1 : Int) := of_decide_eq_true (by first | (with_reducible assumption) | assumption)
                have q14 : (x9_1 : Int) < ((x8_1.length : Int) : Int) := of_decide_eq_true (by first | (with_reducible assumption) | assumption)
                obtain ⟨go14, co14, eo14, gb14, gl14, cl14, HG14⟩ := Kd.R_form HO_8.out (by omega)
                (first | cases eo14 | (injection eo14 with ea_ en_ ec_; (first | subst ea_ | (injection ea_ with ea_; subst ea_)); subst ec_; clear en_))
                have GB14 := Aside0.mk gb14
                have GG14 := Aside0.mk HG14
                clear gb14 gl14 HG14
                obtain ⟨hx14_0, hf14_0⟩ := Kd.R_celln 0 HO_8.out (x9_1 : Int) p14 q14
                replace p14 := eq_true p14
                replace q14 := eq_true q14
                have HP15 := Kd.R_putg HO_8.out (x9_1 : Int) a0
                go_wp2_with (first | ((with_reducible refine gate_store (t := 3) (p := 30) rfl ?_); (try (rw [drewN_self wr]; generalize hq_ : World.drewN wr _ = wr; have n0_ := Aside0.mk (Kd.R_at hq_ HO_6.out); have n1_ := Aside0.mk (Kd.S_at hq_ HO_7.out); have n2_ := Aside0.mk (Kd.R_at hq_ HO_8.out); have n3_ := Aside0.mk (below_at hq_ HB.out); clear hq_ HO_6 HO_7 HO_8 HB; have HO_6 := n0_; have HO_7 := n1_; have HO_8 := n2_; have HB := n3_; clear n0_ n1_ n2_ n3_; (try (have HP15 := Kd.R_putg HO_8.out (x9_1 : Int) a0)))); refine store_event (t := 3) (p := 30) (v := ?vo_w16) (w1 := (wr.setCell ⟨go14, (x9_1 : Int).toNat, none⟩ (.int .i64 a0))) ?hg ?ho ?hn ?hr ?_; (case ho => rfl); (case hg => rfl); (case hn => rfl); (case hr => first | (go_simp; done) | (go_simp; rfl)); intro w16 hw; have hg : wr.grownBy w16 (some go14) := (by rw [hw]; exact HP15.2); have hp_ : Kd.R (Kd.int .i64) 3 w16 w.heap.size (fun k_ => some k_ ≠ (v350 : Value).ownBlock) (.slice (some ⟨go14, 0, none⟩) x8_1.length co14) y358 := (by rw [hw, Ny358.out]; exact HP15.1); clear HP15; have n0_ := Aside0.mk (Kd.R_after (v := (.slice (some ⟨go14, 0, none⟩) x8_1.length co14)) (v1 := (.slice (some ⟨go14, 0, none⟩) x8_1.length co14)) (ok := (fun _ => True)) (by (with_reducible repeat (first | apply Kd.R_alloc | apply Kd.R_drewN | apply Kd.R_drew)); exact Kd.R_mono HO_6.out (fun _ hk => ⟨trivial, hk⟩)) hg (.inl rfl)); have n1_ := Aside0.mk (Kd.S_over' (v := (.slice (some ⟨go14, 0, none⟩) x8_1.length co14)) (by (with_reducible repeat (first | apply Kd.S_alloc | apply Kd.S_drewN | apply Kd.S_drew)); exact HO_7.out) (Kd.R_typed HO_8.out) (by decide) hg); have n2_ := Aside0.mk (hp_); have n3_ := Aside0.mk ((by rw [hw]; exact below_set (HB.out) GB14.out : Below w.heap.size w w16)); clear HO_6; clear HO_7; clear HO_8; clear HB; have HO_6 := n0_; have HO_7 := n1_; have HO_8 := n2_; have HB := n3_; clear n0_ n1_ n2_ n3_; clear hg hw hp_))
                repeat (go_quiet (first | ((with_reducible refine gate_store (t := 3) (p := 30) rfl ?_); (try (rw [drewN_self wr]; generalize hq_ : World.drewN wr _ = wr; have n0_ := Aside0.mk (Kd.R_at hq_ HO_6.out); have n1_ := Aside0.mk (Kd.S_at hq_ HO_7.out); have n2_ := Aside0.mk (Kd.R_at hq_ HO_8.out); have n3_ := Aside0.mk (below_at hq_ HB.out); clear hq_ HO_6 HO_7 HO_8 HB; have HO_6 := n0_; have HO_7 := n1_; have HO_8 := n2_; have HB := n3_; clear n0_ n1_ n2_ n3_; (try (have HP15 := Kd.R_putg HO_8.out (x9_1 : Int) a0)))); refine store_event (t := 3) (p := 30) (v := ?vo_w16) (w1 := (wr.setCell ⟨go14, (x9_1 : Int).toNat, none⟩ (.int .i64 a0))) ?hg ?ho ?hn ?hr ?_; (case ho => rfl); (case hg => rfl); (case hn => rfl); (case hr => first | (go_simp; done) | (go_simp; rfl)); intro w16 hw; have hg : wr.grownBy w16 (some go14) := (by rw [hw]; exact HP15.2); have hp_ : Kd.R (Kd.int .i64) 3 w16 w.heap.size (fun k_ => some k_ ≠ (v350 : Value).ownBlock) (.slice (some ⟨go14, 0, none⟩) x8_1.length co14) y358 := (by rw [hw, Ny358.out]; exact HP15.1); clear HP15; have n0_ := Aside0.mk (Kd.R_after (v := (.slice (some ⟨go14, 0, none⟩) x8_1.length co14)) (v1 := (.slice (some ⟨go14, 0, none⟩) x8_1.length co14)) (ok := (fun _ => True)) (by (with_reducible repeat (first | apply Kd.R_alloc | apply Kd.R_drewN | apply Kd.R_drew)); exact Kd.R_mono HO_6.out (fun _ hk => ⟨trivial, hk⟩)) hg (.inl rfl)); have n1_ := Aside0.mk (Kd.S_over' (v := (.slice (some ⟨go14, 0, none⟩) x8_1.length co14)) (by (with_reducible repeat (first | apply Kd.S_alloc | apply Kd.S_drewN | apply Kd.S_drew)); exact HO_7.out) (Kd.R_typed HO_8.out) (by decide) hg); have n2_ := Aside0.mk (hp_); have n3_ := Aside0.mk ((by rw [hw]; exact below_set (HB.out) GB14.out : Below w.heap.size w w16)); clear HO_6; clear HO_7; clear HO_8; clear HB; have HO_6 := n0_; have HO_7 := n1_; have HO_8 := n2_; have HB := n3_; clear n0_ n1_ n2_ n3_; clear hg hw hp_)); try go_wp2_with (first | ((with_reducible refine gate_store (t := 3) (p := 30) rfl ?_); (try (rw [drewN_self wr]; generalize hq_ : World.drewN wr _ = wr; have n0_ := Aside0.mk (Kd.R_at hq_ HO_6.out); have n1_ := Aside0.mk (Kd.S_at hq_ HO_7.out); have n2_ := Aside0.mk (Kd.R_at hq_ HO_8.out); have n3_ := Aside0.mk (below_at hq_ HB.out); clear hq_ HO_6 HO_7 HO_8 HB; have HO_6 := n0_; have HO_7 := n1_; have HO_8 := n2_; have HB := n3_; clear n0_ n1_ n2_ n3_; (try (have HP15 := Kd.R_putg HO_8.out (x9_1 : Int) a0)))); refine store_event (t := 3) (p := 30) (v := ?vo_w16) (w1 := (wr.setCell ⟨go14, (x9_1 : Int).toNat, none⟩ (.int .i64 a0))) ?hg ?ho ?hn ?hr ?_; (case ho => rfl); (case hg => rfl); (case hn => rfl); (case hr => first | (go_simp; done) | (go_simp; rfl)); intro w16 hw; have hg : wr.grownBy w16 (some go14) := (by rw [hw]; exact HP15.2); have hp_ : Kd.R (Kd.int .i64) 3 w16 w.heap.size (fun k_ => some k_ ≠ (v350 : Value).ownBlock) (.slice (some ⟨go14, 0, none⟩) x8_1.length co14) y358 := (by rw [hw, Ny358.out]; exact HP15.1); clear HP15; have n0_ := Aside0.mk (Kd.R_after (v := (.slice (some ⟨go14, 0, none⟩) x8_1.length co14)) (v1 := (.slice (some ⟨go14, 0, none⟩) x8_1.length co14)) (ok := (fun _ => True)) (by (with_reducible repeat (first | apply Kd.R_alloc | apply Kd.R_drewN | apply Kd.R_drew)); exact Kd.R_mono HO_6.out (fun _ hk => ⟨trivial, hk⟩)) hg (.inl rfl)); have n1_ := Aside0.mk (Kd.S_over' (v := (.slice (some ⟨go14, 0, none⟩) x8_1.length co14)) (by (with_reducible repeat (first | apply Kd.S_alloc | apply Kd.S_drewN | apply Kd.S_drew)); exact HO_7.out) (Kd.R_typed HO_8.out) (by decide) hg); have n2_ := Aside0.mk (hp_); have n3_ := Aside0.mk ((by rw [hw]; exact below_set (HB.out) GB14.out : Below w.heap.size w w16)); clear HO_6; clear HO_7; clear HO_8; clear HB; have HO_6 := n0_; have HO_7 := n1_; have HO_8 := n2_; have HB := n3_; clear n0_ n1_ n2_ n3_; clear hg hw hp_)))
                go_roundg k1
                case measure => have := HK1.out; omega
                case rel => exact ⟨(y358), (wrap64 (x9_1 + 1)), (by first | rfl | (simp; done) | (simp [*]; done)), H', ⟨by have := HK1.out; omega⟩, ⟨by (with_reducible repeat (first | apply Kd.R_alloc | apply Kd.R_drewN | apply Kd.R_drew)); exact Kd.R_mono HO_6.out (fun _ hk => hk.2)⟩, ⟨by (with_reducible repeat (first | apply Kd.S_alloc | apply Kd.S_drewN | apply Kd.S_drew)); exact HO_7.out⟩, ⟨by (with_reducible repeat (first | apply Kd.R_alloc | apply Kd.R_drewN | apply Kd.R_drew)); exact HO_8.out⟩, ⟨by repeat (first | (with_reducible first | exact HB.out | apply below_alloc | apply pw_below_drewN | apply below_drew1) | exact HB.out)⟩⟩
              · rw [if_neg c13] at H
                exact absurd H (by simp)
            · rw [if_neg c12] at H
              exact absurd H (by simp)
          · rw [if_neg c11] at H
            have c11b0 : decide (x9_1 < a0) = false := decide_eq_false c11
            clear c11
            by_cases c17 : 0 ≤ a0
            · rw [if_pos c17] at H
              have c17b0 := eq_true c17
              have c17b1 : decide (0 ≤ a0) = true := decide_eq_true c17
              clear c17
              obtain ⟨ji18, hji18⟩ : ∃ j_ : Int, (shl .i64 1 a0) = j_ := ⟨_, rfl⟩
              replace H : (kimberliteref04_Match.l1 k1 a0 t349 t352 x8_1 (wrap64 ((ji18) - 1)) 0) = some (r1, r2) := by first | (rw [hji18] at H; exact H) | (simp only [hji18] at H ⊢; exact H)
              have hji18_ : (IntKind.i64.wrap (1 * 2 ^ min a0.toNat 64)) = ji18 := hji18
              have hji18z : a0 ≤ 64 → (IntKind.i64.wrap (1 * 2 ^ a0.toNat)) = ji18 := shl_small hji18
              have hji18u : (IntKind.i64.wrap (2 ^ min a0.toNat 64)) = ji18 := by have h_ := hji18_; rw [Int.one_mul] at h_; exact h_
              have hji18v : a0 ≤ 64 → (IntKind.i64.wrap (2 ^ a0.toNat)) = ji18 := fun hle_ => by have h_ := hji18z hle_; rw [Int.one_mul] at h_; exact h_
              have hji18y : (wrap64 (1 * 2 ^ min a0.toNat 64)) = ji18 := (i64_w _).symm.trans hji18_
              have hji18x : a0 ≤ 64 → (wrap64 (1 * 2 ^ a0.toNat)) = ji18 := fun h_ => (i64_w _).symm.trans (hji18z h_)
              have H' := Aside0.mk H
              clear H
              go_wp2
              repeat (go_quiet (fail); try go_wp2)
              go_loopg [10, 11] k1 (fun kq v10 v11 w' => ∃ (x8_2 : List Int) (x10_2 : Int) (x11_2 : Int), v10 = .int .i64 x10_2 ∧ v11 = .int .i64 x11_2 ∧ Aside0 (kimberliteref04_Match.l1 kq a0 t349 t352 x8_2 x10_2 x11_2 = some (r1, r2)) ∧ Aside0 (kq ≤ k1) ∧ Aside0 (Kd.R (Kd.int .i64) 3 w' w.heap.size (fun k_ => some k_ ≠ (v356 : Value).ownBlock) v350 t349) ∧ Aside0 (Kd.S (Kd.slice 4 Kd.bool) 39 w' w.heap.size (fun _ => True) v353 t352) ∧ Aside0 (Kd.R (Kd.int .i64) 3 w' w.heap.size (fun k_ => some k_ ≠ (v350 : Value).ownBlock) v356 x8_2) ∧ Aside0 (Below w.heap.size w w'))
              case atStart => exact ⟨(x8_1), (wrap64 ((ji18) - 1)), (0), (by first | rfl | (simp; done) | (simp only [← hji18] <;> (first | rfl | simp)) | (simp [*]; done)), (by first | rfl | (simp; done) | (simp [*]; done)), H', ⟨Nat.le_refl _⟩, ⟨by (with_reducible repeat (first | apply Kd.R_alloc | apply Kd.R_drewN | apply Kd.R_drew)); exact HO_6.out⟩, ⟨by (with_reducible repeat (first | apply Kd.S_alloc | apply Kd.S_drewN | apply Kd.S_drew)); exact HO_7.out⟩, ⟨by (with_reducible repeat (first | apply Kd.R_alloc | apply Kd.R_drewN | apply Kd.R_drew)); exact HO_8.out⟩, ⟨by repeat (first | (with_reducible first | exact HB.out | apply below_alloc | apply pw_below_drewN | apply below_drew1) | exact HB.out)⟩⟩
              case round =>
                clear H'
                try clear c1
                try clear p1
                try clear q1
                try clear hx1
                try clear c2
                try clear p2
                try clear c5
                try clear c5b0
                try clear c5b1
                try clear c6
                try clear c6b0
                try clear c6b1
                try clear p6
                try clear c11
                try clear c11b0
                try clear c12
                try clear c12b0
                try clear c13
                try clear c13b0
                try clear p14
                try clear q14
                try clear hx14
                try clear hf14
                try clear c17
                try clear c17b0
                try clear c17b1
                try clear hx14_0
                try clear p14
                try clear p2
                try clear q14
                obtain ⟨x8_2, x10_2, x11_2, rfl, rfl, HA, HK2, HO_6, HO_7, HO_8, HB⟩ := hrel
                cases gk with
                | zero => exact absurd HA.out (by simp [kimberliteref04_Match.l1])
                | succ k2 =>
                  have H := HA.out
                  clear HA
                  simp only [kimberliteref04_Match.l1] at H
                  by_cases c19 : x11_2 < a0
                  · rw [if_pos c19] at H
                    have c19b0 : decide (x11_2 < a0) = true := decide_eq_true c19
                    clear c19
                    by_cases c20 : 0 ≤ x11_2
                    · rw [if_pos c20] at H
                      have c20b0 := eq_true c20
                      have c20b1 : decide (0 ≤ x11_2) = true := decide_eq_true c20
                      clear c20
                      obtain ⟨ji21, hji21⟩ : ∃ j_ : Int, (shr .i64 x10_2 x11_2) = j_ := ⟨_, rfl⟩
                      replace H : (if (Int.tmod (ji21) 2) = 0 then (kimberliteref04_Match.l1 k2 a0 t349 t352 x8_2 x10_2 (wrap64 (x11_2 + 1))) else (kimberliteref04_Match.l2 k2 a0 t349 t352 x8_2 x10_2 x11_2 (wrap64 (x10_2 - (shl .i64 1 x11_2))) (wrap64 (x11_2 + 1)))) = some (r1, r2) := by first | (rw [hji21] at H; exact H) | (simp only [hji21] at H ⊢; exact H)
                      have hji21_ : (x10_2 / 2 ^ min x11_2.toNat 64) = ji21 := hji21
                      have hji21z : x11_2 ≤ 64 → (x10_2 / 2 ^ x11_2.toNat) = ji21 := shr_small hji21
                      by_cases c22 : (Int.tmod (ji21) 2) = 0
                      · rw [if_pos c22] at H
                        have c22b0 : ((Int.tmod (ji21) 2) == 0) = true := beq_iff_eq.mpr c22
                        have c22b1 : ((Int.tmod (ji21) 2) != 0) = false := bne_eq_false_iff_eq.mpr c22
                        clear c22
                        have H' := Aside0.mk H
                        clear H
                        go_wp2
                        repeat (go_quiet (fail); try go_wp2)
                        go_roundg k2
                        case measure => have := HK1.out; have := HK2.out; omega
                        case rel => exact ⟨(x8_2), (x10_2), (wrap64 (x11_2 + 1)), (by first | rfl | (simp; done) | (simp [*]; done)), (by first | rfl | (simp; done) | (simp [*]; done)), H', ⟨by have := HK1.out; have := HK2.out; omega⟩, ⟨by (with_reducible repeat (first | apply Kd.R_alloc | apply Kd.R_drewN | apply Kd.R_drew)); exact HO_6.out⟩, ⟨by (with_reducible repeat (first | apply Kd.S_alloc | apply Kd.S_drewN | apply Kd.S_drew)); exact HO_7.out⟩, ⟨by (with_reducible repeat (first | apply Kd.R_alloc | apply Kd.R_drewN | apply Kd.R_drew)); exact HO_8.out⟩, ⟨by repeat (first | (with_reducible first | exact HB.out | apply below_alloc | apply pw_below_drewN | apply below_drew1) | exact HB.out)⟩⟩
                      · rw [if_neg c22] at H
                        have c22b0 : ((Int.tmod (ji21) 2) == 0) = false := beq_eq_false_iff_ne.mpr c22
                        have c22b1 : ((Int.tmod (ji21) 2) != 0) = true := bne_iff_ne.mpr c22
                        have c23b0 := eq_true (of_decide_eq_true (by first | (with_reducible assumption) | assumption) : 0 ≤ x11_2)
                        obtain ⟨ji24, hji24⟩ : ∃ j_ : Int, (shl .i64 1 x11_2) = j_ := ⟨_, rfl⟩
                        replace H : (kimberliteref04_Match.l2 k2 a0 t349 t352 x8_2 x10_2 x11_2 (wrap64 (x10_2 - (ji24))) (wrap64 (x11_2 + 1))) = some (r1, r2) := by first | (rw [hji24] at H; exact H) | (simp only [hji24] at H ⊢; exact H)
                        have hji24_ : (IntKind.i64.wrap (1 * 2 ^ min x11_2.toNat 64)) = ji24 := hji24
                        have hji24z : x11_2 ≤ 64 → (IntKind.i64.wrap (1 * 2 ^ x11_2.toNat)) = ji24 := shl_small hji24
                        have hji24u : (IntKind.i64.wrap (2 ^ min x11_2.toNat 64)) = ji24 := by have h_ := hji24_; rw [Int.one_mul] at h_; exact h_
                        have hji24v : x11_2 ≤ 64 → (IntKind.i64.wrap (2 ^ x11_2.toNat)) = ji24 := fun hle_ => by have h_ := hji24z hle_; rw [Int.one_mul] at h_; exact h_
                        have hji24y : (wrap64 (1 * 2 ^ min x11_2.toNat 64)) = ji24 := (i64_w _).symm.trans hji24_
                        have hji24x : x11_2 ≤ 64 → (wrap64 (1 * 2 ^ x11_2.toNat)) = ji24 := fun h_ => (i64_w _).symm.trans (hji24z h_)
                        have H' := Aside0.mk H
                        clear H
                        go_wp2
                        repeat (go_quiet (fail); try go_wp2)
                        go_loopg [12, 13] k2 (fun kq v12 v13 w' => ∃ (x8_3 : List Int) (x12_3 : Int) (x13_3 : Int), v12 = .int .i64 x12_3 ∧ v13 = .int .i64 x13_3 ∧ Aside0 (kimberliteref04_Match.l2 kq a0 t349 t352 x8_3 x10_2 x11_2 x12_3 x13_3 = some (r1, r2)) ∧ Aside0 (kq ≤ k2) ∧ Aside0 (Kd.R (Kd.int .i64) 3 w' w.heap.size (fun k_ => some k_ ≠ (v356 : Value).ownBlock) v350 t349) ∧ Aside0 (Kd.S (Kd.slice 4 Kd.bool) 39 w' w.heap.size (fun _ => True) v353 t352) ∧ Aside0 (Kd.R (Kd.int .i64) 3 w' w.heap.size (fun k_ => some k_ ≠ (v350 : Value).ownBlock) v356 x8_3) ∧ Aside0 (Below w.heap.size w w'))
                        case atStart => exact ⟨(x8_2), (wrap64 (x10_2 - (ji24))), (wrap64 (x11_2 + 1)), (by first | rfl | (simp; done) | (simp only [← hji24] <;> (first | rfl | simp)) | (simp [*]; done)), (by first | rfl | (simp; done) | (simp [*]; done)), H', ⟨Nat.le_refl _⟩, ⟨by (with_reducible repeat (first | apply Kd.R_alloc | apply Kd.R_drewN | apply Kd.R_drew)); exact HO_6.out⟩, ⟨by (with_reducible repeat (first | apply Kd.S_alloc | apply Kd.S_drewN | apply Kd.S_drew)); exact HO_7.out⟩, ⟨by (with_reducible repeat (first | apply Kd.R_alloc | apply Kd.R_drewN | apply Kd.R_drew)); exact HO_8.out⟩, ⟨by repeat (first | (with_reducible first | exact HB.out | apply below_alloc | apply pw_below_drewN | apply below_drew1) | exact HB.out)⟩⟩
                        case round =>
                          clear H'
                          try clear c1
                          try clear p1
                          try clear q1
                          try clear hx1
                          try clear c2
                          try clear p2
                          try clear c5
                          try clear c5b0
                          try clear c5b1
                          try clear c6
                          try clear c6b0
                          try clear c6b1
                          try clear p6
                          try clear c11
                          try clear c11b0
                          try clear c12
                          try clear c12b0
                          try clear c13
                          try clear c13b0
                          try clear p14
                          try clear q14
                          try clear hx14
                          try clear hf14
                          try clear c17
                          try clear c17b0
                          try clear c17b1
                          try clear c19
                          try clear c19b0
                          try clear c20
                          try clear c20b0
                          try clear c20b1
                          try clear c22
                          try clear c22b0
                          try clear c22b1
                          try clear c23
                          try clear c23b0
                          try clear hx14_0
                          try clear p1
                          try clear p14
                          try clear p2
                          try clear p6
                          try clear q1
                          try clear q14
                          obtain ⟨x8_3, x12_3, x13_3, rfl, rfl, HA, HK3, HO_6, HO_7, HO_8, HB⟩ := hrel
                          cases gk with
                          | zero => exact absurd HA.out (by simp [kimberliteref04_Match.l2])
                          | succ k3 =>
                            have H := HA.out
                            clear HA
                            simp only [kimberliteref04_Match.l2] at H
                            by_cases c25 : x13_3 < a0
                            · rw [if_pos c25] at H
                              have c25b0 : decide (x13_3 < a0) = true := decide_eq_true c25
                              clear c25
                              by_cases c26 : 0 ≤ x11_2
                              · rw [if_pos c26] at H
                                have c26b0 : decide (0 ≤ x11_2) = true := decide_eq_true c26
                                clear c26
                                by_cases c27 : x11_2 < (t352.length : Int)
                                · rw [if_pos c27] at H
                                  have c27b0 : decide (x11_2 < (t352.length : Int)) = true := decide_eq_true c27
                                  clear c27
                                  by_cases c28 : 0 ≤ x13_3
                                  · rw [if_pos c28] at H
                                    have c28b0 : decide (0 ≤ x13_3) = true := decide_eq_true c28
                                    clear c28
                                    by_cases c29 : x13_3 < ((rd_L5 t352 x11_2).length : Int)
                                    · rw [if_pos c29] at H
                                      have c29b0 : decide (x13_3 < ((rd_L5 t352 x11_2).length : Int)) = true := decide_eq_true c29
                                      clear c29
                                      obtain ⟨bq30, hbq30⟩ : ∃ b_ : Bool, b_ = (rdOf false (rd_L5 t352 x11_2) x13_3) := ⟨_, rfl⟩
                                      replace H : (if bq30 = true then (if (Int.tmod (shr .i64 x12_3 x13_3) 2) = 1 then (if 0 ≤ (wrap64 (x12_3 - (shl .i64 1 x13_3))) then (if (wrap64 (x12_3 - (shl .i64 1 x13_3))) < (t349.length : Int) then (if 0 ≤ x10_2 then (if x10_2 < (t349.length : Int) then (if (wrap64 (1 + (rd t349 (wrap64 (x12_3 - (shl .i64 1 x13_3)))))) = (rd t349 x10_2) then (if x11_2 < (x8_3.length : Int) then (if x13_3 < (x8_3.length : Int) then (kimberliteref04_Match.l1 k3 a0 t349 t352 ((x8_3.set (x11_2 : Int).toNat x13_3).set (x13_3 : Int).toNat x11_2) (wrap64 (x12_3 - (shl .i64 1 x13_3))) (wrap64 (x11_2 + 1))) else (none)) else (none)) else (kimberliteref04_Match.l2 k3 a0 t349 t352 x8_3 x10_2 x11_2 x12_3 (wrap64 (x13_3 + 1)))) else (none)) else (none)) else (none)) else (none)) else (kimberliteref04_Match.l2 k3 a0 t349 t352 x8_3 x10_2 x11_2 x12_3 (wrap64 (x13_3 + 1)))) else (kimberliteref04_Match.l2 k3 a0 t349 t352 x8_3 x10_2 x11_2 x12_3 (wrap64 (x13_3 + 1)))) = some (r1, r2) := by rw [← hbq30] at H; exact H
                                      have Nbq30 := Aside0.mk hbq30
                                      clear hbq30
                                      by_cases c31 : bq30 = true
                                      · subst c31
                                        have H1 : (if (Int.tmod (shr .i64 x12_3 x13_3) 2) = 1 then (if 0 ≤ (wrap64 (x12_3 - (shl .i64 1 x13_3))) then (if (wrap64 (x12_3 - (shl .i64 1 x13_3))) < (t349.length : Int) then (if 0 ≤ x10_2 then (if x10_2 < (t349.length : Int) then (if (wrap64 (1 + (rd t349 (wrap64 (x12_3 - (shl .i64 1 x13_3)))))) = (rd t349 x10_2) then (if x11_2 < (x8_3.length : Int) then (if x13_3 < (x8_3.length : Int) then (kimberliteref04_Match.l1 k3 a0 t349 t352 ((x8_3.set (x11_2 : Int).toNat x13_3).set (x13_3 : Int).toNat x11_2) (wrap64 (x12_3 - (shl .i64 1 x13_3))) (wrap64 (x11_2 + 1))) else (none)) else (none)) else (kimberliteref04_Match.l2 k3 a0 t349 t352 x8_3 x10_2 x11_2 x12_3 (wrap64 (x13_3 + 1)))) else (none)) else (none)) else (none)) else (none)) else (kimberliteref04_Match.l2 k3 a0 t349 t352 x8_3 x10_2 x11_2 x12_3 (wrap64 (x13_3 + 1)))) = some (r1, r2) := by rw [if_pos rfl] at H; exact H
                                        clear H
                                        have H := H1
                                        clear H1
                                        have c32b0 := eq_true (of_decide_eq_true (by first | (with_reducible assumption) | assumption) : 0 ≤ x13_3)
                                        obtain ⟨ji33, hji33⟩ : ∃ j_ : Int, (shr .i64 x12_3 x13_3) = j_ := ⟨_, rfl⟩
                                        replace H : (if (Int.tmod (ji33) 2) = 1 then (if 0 ≤ (wrap64 (x12_3 - (shl .i64 1 x13_3))) then (if (wrap64 (x12_3 - (shl .i64 1 x13_3))) < (t349.length : Int) then (if 0 ≤ x10_2 then (if x10_2 < (t349.length : Int) then (if (wrap64 (1 + (rd t349 (wrap64 (x12_3 - (shl .i64 1 x13_3)))))) = (rd t349 x10_2) then (if x11_2 < (x8_3.length : Int) then (if x13_3 < (x8_3.length : Int) then (kimberliteref04_Match.l1 k3 a0 t349 t352 ((x8_3.set (x11_2 : Int).toNat x13_3).set (x13_3 : Int).toNat x11_2) (wrap64 (x12_3 - (shl .i64 1 x13_3))) (wrap64 (x11_2 + 1))) else (none)) else (none)) else (kimberliteref04_Match.l2 k3 a0 t349 t352 x8_3 x10_2 x11_2 x12_3 (wrap64 (x13_3 + 1)))) else (none)) else (none)) else (none)) else (none)) else (kimberliteref04_Match.l2 k3 a0 t349 t352 x8_3 x10_2 x11_2 x12_3 (wrap64 (x13_3 + 1)))) = some (r1, r2) := by first | (rw [hji33] at H; exact H) | (simp only [hji33] at H ⊢; exact H)
                                        have hji33_ : (x12_3 / 2 ^ min x13_3.toNat 64) = ji33 := hji33
                                        have hji33z : x13_3 ≤ 64 → (x12_3 / 2 ^ x13_3.toNat) = ji33 := shr_small hji33
                                        by_cases c34 : (Int.tmod (ji33) 2) = 1
                                        · rw [if_pos c34] at H
                                          have c34b0 : ((Int.tmod (ji33) 2) == 1) = true := beq_iff_eq.mpr c34
                                          have c34b1 : ((Int.tmod (ji33) 2) != 1) = false := bne_eq_false_iff_eq.mpr c34
                                          clear c34
                                          have c35b0 := eq_true (of_decide_eq_true (by first | (with_reducible assumption) | assumption) : 0 ≤ x13_3)
                                          obtain ⟨ji36, hji36⟩ : ∃ j_ : Int, (shl .i64 1 x13_3) = j_ := ⟨_, rfl⟩
                                          replace H : (if 0 ≤ (wrap64 (x12_3 - (ji36))) then (if (wrap64 (x12_3 - (ji36))) < (t349.length : Int) then (if 0 ≤ x10_2 then (if x10_2 < (t349.length : Int) then (if (wrap64 (1 + (rd t349 (wrap64 (x12_3 - (ji36)))))) = (rd t349 x10_2) then (if x11_2 < (x8_3.length : Int) then (if x13_3 < (x8_3.length : Int) then (kimberliteref04_Match.l1 k3 a0 t349 t352 ((x8_3.set (x11_2 : Int).toNat x13_3).set (x13_3 : Int).toNat x11_2) (wrap64 (x12_3 - (ji36))) (wrap64 (x11_2 + 1))) else (none)) else (none)) else (kimberliteref04_Match.l2 k3 a0 t349 t352 x8_3 x10_2 x11_2 x12_3 (wrap64 (x13_3 + 1)))) else (none)) else (none)) else (none)) else (none)) = some (r1, r2) := by first | (rw [hji36] at H; exact H) | (simp only [hji36] at H ⊢; exact H)
                                          have hji36_ : (IntKind.i64.wrap (1 * 2 ^ min x13_3.toNat 64)) = ji36 := hji36
                                          have hji36z : x13_3 ≤ 64 → (IntKind.i64.wrap (1 * 2 ^ x13_3.toNat)) = ji36 := shl_small hji36
                                          have hji36u : (IntKind.i64.wrap (2 ^ min x13_3.toNat 64)) = ji36 := by have h_ := hji36_; rw [Int.one_mul] at h_; exact h_
                                          have hji36v : x13_3 ≤ 64 → (IntKind.i64.wrap (2 ^ x13_3.toNat)) = ji36 := fun hle_ => by have h_ := hji36z hle_; rw [Int.one_mul] at h_; exact h_
                                          have hji36y : (wrap64 (1 * 2 ^ min x13_3.toNat 64)) = ji36 := (i64_w _).symm.trans hji36_
                                          have hji36x : x13_3 ≤ 64 → (wrap64 (1 * 2 ^ x13_3.toNat)) = ji36 := fun h_ => (i64_w _).symm.trans (hji36z h_)
                                          obtain ⟨ji37, hji37⟩ : ∃ j_ : Int, (wrap64 (x12_3 - (ji36))) = j_ := ⟨_, rfl⟩
                                          replace H : (if 0 ≤ (ji37) then (if (ji37) < (t349.length : Int) then (if 0 ≤ x10_2 then (if x10_2 < (t349.length : Int) then (if (wrap64 (1 + (rd t349 (ji37)))) = (rd t349 x10_2) then (if x11_2 < (x8_3.length : Int) then (if x13_3 < (x8_3.length : Int) then (kimberliteref04_Match.l1 k3 a0 t349 t352 ((x8_3.set (x11_2 : Int).toNat x13_3).set (x13_3 : Int).toNat x11_2) ji37 (wrap64 (x11_2 + 1))) else (none)) else (none)) else (kimberliteref04_Match.l2 k3 a0 t349 t352 x8_3 x10_2 x11_2 x12_3 (wrap64 (x13_3 + 1)))) else (none)) else (none)) else (none)) else (none)) = some (r1, r2) := by first | (rw [hji37] at H; exact H) | (simp only [hji37] at H ⊢; exact H)
                                          have hji37w : (IntKind.i64.wrap (x12_3 - (ji36))) = ji37 := (i64_w _).trans hji37
                                          by_cases c38 : 0 ≤ (ji37)
                                          · rw [if_pos c38] at H
                                            have c38b0 : decide (0 ≤ (ji37)) = true := decide_eq_true c38
                                            clear c38
                                            by_cases c39 : (ji37) < (t349.length : Int)
                                            · rw [if_pos c39] at H
                                              have c39b0 : decide ((ji37) < (t349.length : Int)) = true := decide_eq_true c39
                                              clear c39
                                              by_cases c40 : 0 ≤ x10_2
                                              · rw [if_pos c40] at H
                                                have c40b0 : decide (0 ≤ x10_2) = true := decide_eq_true c40
                                                clear c40
                                                by_cases c41 : x10_2 < (t349.length : Int)
                                                · rw [if_pos c41] at H
                                                  have c41b0 : decide (x10_2 < (t349.length : Int)) = true := decide_eq_true c41
                                                  clear c41
                                                  by_cases c42 : (wrap64 (1 + (rd t349 (ji37)))) = (rd t349 x10_2)
                                                  · rw [if_pos c42] at H
                                                    have c42b0 : ((wrap64 (1 + (rd t349 (ji37)))) == (rd t349 x10_2)) = true := beq_iff_eq.mpr c42
                                                    have c42b1 : ((wrap64 (1 + (rd t349 (ji37)))) != (rd t349 x10_2)) = false := bne_eq_false_iff_eq.mpr c42
                                                    clear c42
                                                    by_cases c43 : x11_2 < (x8_3.length : Int)
                                                    · rw [if_pos c43] at H
                                                      have c43b0 : decide (x11_2 < (x8_3.length : Int)) = true := decide_eq_true c43
                                                      clear c43
                                                      obtain ⟨y364, hy364⟩ : ∃ y_ : List Int, y_ = (x8_3.set (x11_2 : Int).toNat x13_3) := ⟨_, rfl⟩
                                                      replace H : (if x13_3 < (x8_3.length : Int) then (kimberliteref04_Match.l1 k3 a0 t349 t352 (y364.set (x13_3 : Int).toNat x11_2) ji37 (wrap64 (x11_2 + 1))) else (none)) = some (r1, r2) := by first | (rw [hy364]; with_reducible exact H) | (have H2_ := (Option.bind_some _ _).symm.trans H; rw [hy364]; with_reducible exact H2_) | (have H2_ := (Option.bind_some _ _).symm.trans H; with_reducible exact H2_) | with_reducible exact H | (rw [hy364]; exact H) | exact H
                                                      have Ny364 := Aside0.mk hy364
                                                      clear hy364
                                                      by_cases c45 : x13_3 < (x8_3.length : Int)
                                                      · rw [if_pos c45] at H
                                                        have c45b0 : decide (x13_3 < (x8_3.length : Int)) = true := decide_eq_true c45
                                                        clear c45
                                                        obtain ⟨y365, hy365⟩ : ∃ y_ : List Int, y_ = (y364.set (x13_3 : Int).toNat x11_2) := ⟨_, rfl⟩
                                                        replace H : (kimberliteref04_Match.l1 k3 a0 t349 t352 y365 ji37 (wrap64 (x11_2 + 1))) = some (r1, r2) := by first | (rw [hy365]; with_reducible exact H) | (have H2_ := (Option.bind_some _ _).symm.trans H; rw [hy365]; with_reducible exact H2_) | (have H2_ := (Option.bind_some _ _).symm.trans H; with_reducible exact H2_) | with_reducible exact H | (rw [hy365]; exact H) | exact H
                                                        have Ny365 := Aside0.mk hy365
                                                        clear hy365
                                                        have c47b0 := eq_true (of_decide_eq_true (by first | (with_reducible assumption) | assumption) : 0 ≤ x13_3)
                                                        have H' := Aside0.mk H
                                                        clear H
                                                        obtain ⟨Ao49, co49, eo49⟩ := Kd.S_slice HO_7.out
                                                        subst eo49
                                                        have p360 : 0 ≤ (x11_2 : Int) := of_decide_eq_true (by first | (with_reducible assumption) | assumption)
                                                        have q360 : x11_2 < (t352.length : Int) := of_decide_eq_true (by first | (with_reducible assumption) | assumption)
                                                        obtain ⟨ad360, A360_0, c360_0, e360, hx360_0, hl360_0, hi360_0⟩ := at_L5 (Kd.S_reads' HO_7.out).2.2 x11_2 p360 q360
                                                        cases e360
                                                        obtain ⟨ce360, hce360, hMe360, hcc360⟩ := Kd.S_get HO_7.out [] x11_2 p360 (by first | exact q360 | exact of_decide_eq_true (by first | (with_reducible assumption) | assumption) | (have e_ := (Kd.S_reads' HO_7.out).1; omega))
                                                        obtain ⟨ve360_0, rfl, ge360_0⟩ := hMe360
                                                        have hv360_0 := hcc360 0 _ rfl
                                                        rw [Nat.add_zero, show ((Kd.slice 4 Kd.bool)).sz = 1 from rfl, Nat.mul_one] at hv360_0
                                                        replace hv360_0 := Option.some.inj (hv360_0.symm.trans hx360_0)
                                                        rw [hv360_0] at ge360_0
                                                        have HL360_0 := Aside0.mk (show Kd.R Kd.bool 4 _ _ _ _ (rd_L5 t352 x11_2) from ge360_0)
                                                        clear hv360_0 ge360_0
                                                        clear hcc360 hce360
                                                        have HR360_0 := Aside0.mk hi360_0
                                                        have HC360_0 := Aside0.mk hl360_0
                                                        clear hi360_0 hl360_0
                                                        replace p360 := eq_true p360
                                                        replace q360 := eq_true q360
                                                        have p361 : 0 ≤ (x13_3 : Int) := of_decide_eq_true (by first | (with_reducible assumption) | assumption)
                                                        have q361 : x13_3 < ((rd_L5 t352 x11_2).length : Int) := of_decide_eq_true (by first | (with_reducible assumption) | assumption)
                                                        obtain ⟨ad361, e361, hx361_0⟩ := Kd.at_bool (by repeat (first | (with_reducible exact HR360_0.out) | (with_reducible refine Kd.C_alloc ?_ _) | (with_reducible refine Kd.C_drewN ?_ _) | (with_reducible refine Kd.C_drew ?_) | exact HR360_0.out)) x13_3 p361 q361
                                                        (try rw [← Nbq30.out] at hx361_0)
                                                        cases e361
                                                        replace p361 := eq_true p361
                                                        replace q361 := eq_true q361
                                                        obtain ⟨Ao50, co50, eo50⟩ := Kd.R_slice HO_6.out
                                                        subst eo50
                                                        have p362 : 0 ≤ ((ji37) : Int) := of_decide_eq_true (by first | (with_reducible assumption) | assumption)
                                                        have q362 : (ji37) < (t349.length : Int) := of_decide_eq_true (by first | (with_reducible assumption) | assumption)
                                                        obtain ⟨ad362, e362, hx362_0⟩ := Kd.at_int (Kd.R_reads' HO_6.out).2.2 (ji37) p362 q362
                                                        cases e362
                                                        replace p362 := eq_true p362
                                                        replace q362 := eq_true q362
                                                        have p363 : 0 ≤ (x10_2 : Int) := of_decide_eq_true (by first | (with_reducible assumption) | assumption)
                                                        have q363 : x10_2 < (t349.length : Int) := of_decide_eq_true (by first | (with_reducible assumption) | assumption)
                                                        obtain ⟨ad363, e363, hx363_0⟩ := Kd.at_int (Kd.R_reads' HO_6.out).2.2 x10_2 p363 q363
                                                        obtain rfl : ad362 = ad363 := (by injection e363)
                                                        replace p363 := eq_true p363
                                                        replace q363 := eq_true q363
                                                        have p44 : 0 ≤ (x11_2 : Int) := of_decide_eq_true (by first | (with_reducible assumption) | assumption)
                                                        have q44 : (x11_2 : Int) < ((x8_3.length : Int) : Int) := of_decide_eq_true (by first | (with_reducible assumption) | assumption)
                                                        obtain ⟨go44, co44, eo44, gb44, gl44, cl44, HG44⟩ := Kd.R_form HO_8.out (by omega)
                                                        (first | cases eo44 | (injection eo44 with ea_ en_ ec_; (first | subst ea_ | (injection ea_ with ea_; subst ea_)); subst ec_; clear en_))
                                                        have GB44 := Aside0.mk gb44
                                                        have GG44 := Aside0.mk HG44
                                                        clear gb44 gl44 HG44
                                                        obtain ⟨hx44_0, hf44_0⟩ := Kd.R_celln 0 HO_8.out (x11_2 : Int) p44 q44
                                                        replace p44 := eq_true p44
                                                        replace q44 := eq_true q44
                                                        have p46 : 0 ≤ (x13_3 : Int) := of_decide_eq_true (by first | (with_reducible assumption) | assumption)
                                                        have q46 : (x13_3 : Int) < ((x8_3.length : Int) : Int) := of_decide_eq_true (by first | (with_reducible assumption) | assumption)
                                                        obtain ⟨hx46_0, hf46_0⟩ := Kd.R_celln 0 HO_8.out (x13_3 : Int) p46 q46
                                                        have PQ46 := Aside0.mk (And.intro p46 q46)
                                                        replace p46 := eq_true p46
                                                        replace q46 := eq_true q46
                                                        go_wp2_with fail
                                                        go_quiet (fail)
                                                        have HA8 := Aside0.mk (Kd.R_drewN HO_8.out nq)
                                                        have HA6 := Aside0.mk (Kd.R_drewN HO_6.out nq)
                                                        have HA7 := Aside0.mk (Kd.S_drewN HO_7.out nq)
                                                        have HAL := Aside0.mk (Kd.R_drewN HL360_0.out nq)
                                                        have HAB := Aside0.mk (pw_below_drewN HB.out nq)
                                                        have HP51 := Aside0.mk (Kd.R_putg HA8.out (x11_2 : Int) x13_3)
                                                        rw [← Ny364.out] at HP51
                                                        have hn364 : y364.length = x8_3.length := by rw [Ny364.out, List.length_set]
                                                        have HP53 := Aside0.mk (Kd.R_putg HP51.out.1 (x13_3 : Int) x11_2)
                                                        rw [← Ny365.out] at HP53
                                                        have hx47_0 := (Kd.R_celln 0 HP51.out.1 (x13_3 : Int) PQ46.out.1 PQ46.out.2).1
                                                        go_wp2_with (fail)
                                                        go_roundg k3
                                                        case measure => have := HK1.out; have := HK2.out; have := HK3.out; omega
                                                        case rel =>
                                                          have hg1 := HP51.out.2
                                                          have hg2 := HP53.out.2
                                                          exact ⟨y365, ji37, wrap64 (x11_2 + 1), (by first | rfl | (simp; done) | (simp only [← hji37] <;> (first | rfl | simp)) | (simp [*]; done)), (by first | rfl | (simp; done) | (simp [*]; done)), H', ⟨by have := HK1.out; have := HK2.out; have := HK3.out; omega⟩,
                                                            ⟨Kd.R_mono (Kd.R_after (v := (.slice (some ⟨go44, 0, none⟩) x8_3.length co44)) (v1 := (.slice (some ⟨go44, 0, none⟩) x8_3.length co44)) (ok := (fun _ => True)) (Kd.R_after (v := (.slice (some ⟨go44, 0, none⟩) x8_3.length co44)) (v1 := (.slice (some ⟨go44, 0, none⟩) x8_3.length co44)) (ok := (fun _ => True)) (Kd.R_mono HA6.out (fun _ hk => ⟨trivial, hk⟩)) hg1 (.inl rfl)) hg2 (.inl rfl)) (fun _ hk => hk.2)⟩,
                                                            ⟨Kd.S_over' (v := (.slice (some ⟨go44, 0, none⟩) x8_3.length co44)) (Kd.S_over' (v := (.slice (some ⟨go44, 0, none⟩) x8_3.length co44)) HA7.out (Kd.R_typed HA8.out) (by decide) hg1) (Kd.R_typed HP51.out.1) (by decide) hg2⟩, ⟨HP53.out.1⟩, ⟨below_set (below_set HAB.out GB44.out) GB44.out⟩⟩
                                                      · rw [if_neg c45] at H
                                                        exact absurd H (by simp)
                                                    · rw [if_neg c43] at H
                                                      exact absurd H (by simp)
                                                  · rw [if_neg c42] at H
                                                    have c42b0 : ((wrap64 (1 + (rd t349 (ji37)))) == (rd t349 x10_2)) = false := beq_eq_false_iff_ne.mpr c42
                                                    have c42b1 : ((wrap64 (1 + (rd t349 (ji37)))) != (rd t349 x10_2)) = true := bne_iff_ne.mpr c42
                                                    have H' := Aside0.mk H
                                                    clear H
                                                    obtain ⟨Ao55, co55, eo55⟩ := Kd.S_slice HO_7.out
                                                    subst eo55
                                                    have p360 : 0 ≤ (x11_2 : Int) := of_decide_eq_true (by first | (with_reducible assumption) | assumption)
                                                    have q360 : x11_2 < (t352.length : Int) := of_decide_eq_true (by first | (with_reducible assumption) | assumption)
                                                    obtain ⟨ad360, A360_0, c360_0, e360, hx360_0, hl360_0, hi360_0⟩ := at_L5 (Kd.S_reads' HO_7.out).2.2 x11_2 p360 q360
                                                    cases e360
                                                    obtain ⟨ce360, hce360, hMe360, hcc360⟩ := Kd.S_get HO_7.out [] x11_2 p360 (by first | exact q360 | exact of_decide_eq_true (by first | (with_reducible assumption) | assumption) | (have e_ := (Kd.S_reads' HO_7.out).1; omega))
                                                    obtain ⟨ve360_0, rfl, ge360_0⟩ := hMe360
                                                    have hv360_0 := hcc360 0 _ rfl
                                                    rw [Nat.add_zero, show ((Kd.slice 4 Kd.bool)).sz = 1 from rfl, Nat.mul_one] at hv360_0
                                                    replace hv360_0 := Option.some.inj (hv360_0.symm.trans hx360_0)
                                                    rw [hv360_0] at ge360_0
                                                    have HL360_0 := Aside0.mk (show Kd.R Kd.bool 4 _ _ _ _ (rd_L5 t352 x11_2) from ge360_0)
                                                    clear hv360_0 ge360_0
                                                    clear hcc360 hce360
                                                    have HR360_0 := Aside0.mk hi360_0
                                                    have HC360_0 := Aside0.mk hl360_0
                                                    clear hi360_0 hl360_0
                                                    replace p360 := eq_true p360
                                                    replace q360 := eq_true q360
                                                    have p361 : 0 ≤ (x13_3 : Int) := of_decide_eq_true (by first | (with_reducible assumption) | assumption)
                                                    have q361 : x13_3 < ((rd_L5 t352 x11_2).length : Int) := of_decide_eq_true (by first | (with_reducible assumption) | assumption)
                                                    obtain ⟨ad361, e361, hx361_0⟩ := Kd.at_bool (by repeat (first | (with_reducible exact HR360_0.out) | (with_reducible refine Kd.C_alloc ?_ _) | (with_reducible refine Kd.C_drewN ?_ _) | (with_reducible refine Kd.C_drew ?_) | exact HR360_0.out)) x13_3 p361 q361
                                                    (try rw [← Nbq30.out] at hx361_0)
                                                    cases e361
                                                    replace p361 := eq_true p361
                                                    replace q361 := eq_true q361
                                                    obtain ⟨Ao56, co56, eo56⟩ := Kd.R_slice HO_6.out
                                                    subst eo56
                                                    have p362 : 0 ≤ ((ji37) : Int) := of_decide_eq_true (by first | (with_reducible assumption) | assumption)
                                                    have q362 : (ji37) < (t349.length : Int) := of_decide_eq_true (by first | (with_reducible assumption) | assumption)
                                                    obtain ⟨ad362, e362, hx362_0⟩ := Kd.at_int (Kd.R_reads' HO_6.out).2.2 (ji37) p362 q362
                                                    cases e362
                                                    replace p362 := eq_true p362
                                                    replace q362 := eq_true q362
                                                    have p363 : 0 ≤ (x10_2 : Int) := of_decide_eq_true (by first | (with_reducible assumption) | assumption)
                                                    have q363 : x10_2 < (t349.length : Int) := of_decide_eq_true (by first | (with_reducible assumption) | assumption)
                                                    obtain ⟨ad363, e363, hx363_0⟩ := Kd.at_int (Kd.R_reads' HO_6.out).2.2 x10_2 p363 q363
                                                    obtain rfl : ad362 = ad363 := (by injection e363)
                                                    replace p363 := eq_true p363
                                                    replace q363 := eq_true q363
                                                    go_wp2
                                                    repeat (go_quiet (fail); try go_wp2)
                                                    go_roundg k3
                                                    case measure => have := HK1.out; have := HK2.out; have := HK3.out; omega
                                                    case rel => exact ⟨(x8_3), (x12_3), (wrap64 (x13_3 + 1)), (by first | rfl | (simp; done) | (simp [*]; done)), (by first | rfl | (simp; done) | (simp [*]; done)), H', ⟨by have := HK1.out; have := HK2.out; have := HK3.out; omega⟩, ⟨by (with_reducible repeat (first | apply Kd.R_alloc | apply Kd.R_drewN | apply Kd.R_drew)); exact HO_6.out⟩, ⟨by (with_reducible repeat (first | apply Kd.S_alloc | apply Kd.S_drewN | apply Kd.S_drew)); exact HO_7.out⟩, ⟨by (with_reducible repeat (first | apply Kd.R_alloc | apply Kd.R_drewN | apply Kd.R_drew)); exact HO_8.out⟩, ⟨by repeat (first | (with_reducible first | exact HB.out | apply below_alloc | apply pw_below_drewN | apply below_drew1) | exact HB.out)⟩⟩
                                                · rw [if_neg c41] at H
                                                  exact absurd H (by simp)
                                              · rw [if_neg c40] at H
                                                exact absurd H (by simp)
                                            · rw [if_neg c39] at H
                                              exact absurd H (by simp)
                                          · rw [if_neg c38] at H
                                            exact absurd H (by simp)
                                        · rw [if_neg c34] at H
                                          have c34b0 : ((Int.tmod (ji33) 2) == 1) = false := beq_eq_false_iff_ne.mpr c34
                                          have c34b1 : ((Int.tmod (ji33) 2) != 1) = true := bne_iff_ne.mpr c34
                                          have H' := Aside0.mk H
                                          clear H
                                          obtain ⟨Ao57, co57, eo57⟩ := Kd.S_slice HO_7.out
                                          subst eo57
                                          have p360 : 0 ≤ (x11_2 : Int) := of_decide_eq_true (by first | (with_reducible assumption) | assumption)
                                          have q360 : x11_2 < (t352.length : Int) := of_decide_eq_true (by first | (with_reducible assumption) | assumption)
                                          obtain ⟨ad360, A360_0, c360_0, e360, hx360_0, hl360_0, hi360_0⟩ := at_L5 (Kd.S_reads' HO_7.out).2.2 x11_2 p360 q360
                                          cases e360
                                          obtain ⟨ce360, hce360, hMe360, hcc360⟩ := Kd.S_get HO_7.out [] x11_2 p360 (by first | exact q360 | exact of_decide_eq_true (by first | (with_reducible assumption) | assumption) | (have e_ := (Kd.S_reads' HO_7.out).1; omega))
                                          obtain ⟨ve360_0, rfl, ge360_0⟩ := hMe360
                                          have hv360_0 := hcc360 0 _ rfl
                                          rw [Nat.add_zero, show ((Kd.slice 4 Kd.bool)).sz = 1 from rfl, Nat.mul_one] at hv360_0
                                          replace hv360_0 := Option.some.inj (hv360_0.symm.trans hx360_0)
                                          rw [hv360_0] at ge360_0
                                          have HL360_0 := Aside0.mk (show Kd.R Kd.bool 4 _ _ _ _ (rd_L5 t352 x11_2) from ge360_0)
                                          clear hv360_0 ge360_0
                                          clear hcc360 hce360
                                          have HR360_0 := Aside0.mk hi360_0
                                          have HC360_0 := Aside0.mk hl360_0
                                          clear hi360_0 hl360_0
                                          replace p360 := eq_true p360
                                          replace q360 := eq_true q360
                                          have p361 : 0 ≤ (x13_3 : Int) := of_decide_eq_true (by first | (with_reducible assumption) | assumption)
                                          have q361 : x13_3 < ((rd_L5 t352 x11_2).length : Int) := of_decide_eq_true (by first | (with_reducible assumption) | assumption)
                                          obtain ⟨ad361, e361, hx361_0⟩ := Kd.at_bool (by repeat (first | (with_reducible exact HR360_0.out) | (with_reducible refine Kd.C_alloc ?_ _) | (with_reducible refine Kd.C_drewN ?_ _) | (with_reducible refine Kd.C_drew ?_) | exact HR360_0.out)) x13_3 p361 q361
                                          (try rw [← Nbq30.out] at hx361_0)
                                          cases e361
                                          replace p361 := eq_true p361
                                          replace q361 := eq_true q361
                                          go_wp2
                                          repeat (go_quiet (fail); try go_wp2)
                                          go_roundg k3
                                          case measure => have := HK1.out; have := HK2.out; have := HK3.out; omega
                                          case rel => exact ⟨(x8_3), (x12_3), (wrap64 (x13_3 + 1)), (by first | rfl | (simp; done) | (simp [*]; done)), (by first | rfl | (simp; done) | (simp [*]; done)), H', ⟨by have := HK1.out; have := HK2.out; have := HK3.out; omega⟩, ⟨by (with_reducible repeat (first | apply Kd.R_alloc | apply Kd.R_drewN | apply Kd.R_drew)); exact HO_6.out⟩, ⟨by (with_reducible repeat (first | apply Kd.S_alloc | apply Kd.S_drewN | apply Kd.S_drew)); exact HO_7.out⟩, ⟨by (with_reducible repeat (first | apply Kd.R_alloc | apply Kd.R_drewN | apply Kd.R_drew)); exact HO_8.out⟩, ⟨by repeat (first | (with_reducible first | exact HB.out | apply below_alloc | apply pw_below_drewN | apply below_drew1) | exact HB.out)⟩⟩
                                      · replace c31 := Bool.eq_false_iff.mpr c31
                                        subst c31
                                        have H1 : (kimberliteref04_Match.l2 k3 a0 t349 t352 x8_3 x10_2 x11_2 x12_3 (wrap64 (x13_3 + 1))) = some (r1, r2) := by rw [if_neg (show ¬ (false = true) by decide)] at H; exact H
                                        clear H
                                        have H := H1
                                        clear H1
                                        have H' := Aside0.mk H
                                        clear H
                                        obtain ⟨Ao58, co58, eo58⟩ := Kd.S_slice HO_7.out
                                        subst eo58
                                        have p360 : 0 ≤ (x11_2 : Int) := of_decide_eq_true (by first | (with_reducible assumption) | assumption)
                                        have q360 : x11_2 < (t352.length : Int) := of_decide_eq_true (by first | (with_reducible assumption) | assumption)
                                        obtain ⟨ad360, A360_0, c360_0, e360, hx360_0, hl360_0, hi360_0⟩ := at_L5 (Kd.S_reads' HO_7.out).2.2 x11_2 p360 q360
                                        cases e360
                                        obtain ⟨ce360, hce360, hMe360, hcc360⟩ := Kd.S_get HO_7.out [] x11_2 p360 (by first | exact q360 | exact of_decide_eq_true (by first | (with_reducible assumption) | assumption) | (have e_ := (Kd.S_reads' HO_7.out).1; omega))
                                        obtain ⟨ve360_0, rfl, ge360_0⟩ := hMe360
                                        have hv360_0 := hcc360 0 _ rfl
                                        rw [Nat.add_zero, show ((Kd.slice 4 Kd.bool)).sz = 1 from rfl, Nat.mul_one] at hv360_0
                                        replace hv360_0 := Option.some.inj (hv360_0.symm.trans hx360_0)
                                        rw [hv360_0] at ge360_0
                                        have HL360_0 := Aside0.mk (show Kd.R Kd.bool 4 _ _ _ _ (rd_L5 t352 x11_2) from ge360_0)
                                        clear hv360_0 ge360_0
                                        clear hcc360 hce360
                                        have HR360_0 := Aside0.mk hi360_0
                                        have HC360_0 := Aside0.mk hl360_0
                                        clear hi360_0 hl360_0
                                        replace p360 := eq_true p360
                                        replace q360 := eq_true q360
                                        have p361 : 0 ≤ (x13_3 : Int) := of_decide_eq_true (by first | (with_reducible assumption) | assumption)
                                        have q361 : x13_3 < ((rd_L5 t352 x11_2).length : Int) := of_decide_eq_true (by first | (with_reducible assumption) | assumption)
                                        obtain ⟨ad361, e361, hx361_0⟩ := Kd.at_bool (by repeat (first | (with_reducible exact HR360_0.out) | (with_reducible refine Kd.C_alloc ?_ _) | (with_reducible refine Kd.C_drewN ?_ _) | (with_reducible refine Kd.C_drew ?_) | exact HR360_0.out)) x13_3 p361 q361
                                        (try rw [← Nbq30.out] at hx361_0)
                                        cases e361
                                        replace p361 := eq_true p361
                                        replace q361 := eq_true q361
                                        go_wp2
                                        repeat (go_quiet (fail); try go_wp2)
                                        go_roundg k3
                                        case measure => have := HK1.out; have := HK2.out; have := HK3.out; omega
                                        case rel => exact ⟨(x8_3), (x12_3), (wrap64 (x13_3 + 1)), (by first | rfl | (simp; done) | (simp [*]; done)), (by first | rfl | (simp; done) | (simp [*]; done)), H', ⟨by have := HK1.out; have := HK2.out; have := HK3.out; omega⟩, ⟨by (with_reducible repeat (first | apply Kd.R_alloc | apply Kd.R_drewN | apply Kd.R_drew)); exact HO_6.out⟩, ⟨by (with_reducible repeat (first | apply Kd.S_alloc | apply Kd.S_drewN | apply Kd.S_drew)); exact HO_7.out⟩, ⟨by (with_reducible repeat (first | apply Kd.R_alloc | apply Kd.R_drewN | apply Kd.R_drew)); exact HO_8.out⟩, ⟨by repeat (first | (with_reducible first | exact HB.out | apply below_alloc | apply pw_below_drewN | apply below_drew1) | exact HB.out)⟩⟩
                                    · rw [if_neg c29] at H
                                      exact absurd H (by simp)
                                  · rw [if_neg c28] at H
                                    exact absurd H (by simp)
                                · rw [if_neg c27] at H
                                  exact absurd H (by simp)
                              · rw [if_neg c26] at H
                                exact absurd H (by simp)
                            · rw [if_neg c25] at H
                              have c25b0 : decide (x13_3 < a0) = false := decide_eq_false c25
                              clear c25
                              have H' := Aside0.mk H
                              clear H
                              go_wp2
                              repeat (go_quiet (fail); try go_wp2)
                              go_roundg k3
                              case measure => have := HK1.out; have := HK2.out; have := HK3.out; omega
                              case rel => exact ⟨(x8_3), (x12_3), (wrap64 (x11_2 + 1)), (by first | rfl | (simp; done) | (simp [*]; done)), (by first | rfl | (simp; done) | (simp [*]; done)), H', ⟨by have := HK1.out; have := HK2.out; have := HK3.out; omega⟩, ⟨by (with_reducible repeat (first | apply Kd.R_alloc | apply Kd.R_drewN | apply Kd.R_drew)); exact HO_6.out⟩, ⟨by (with_reducible repeat (first | apply Kd.S_alloc | apply Kd.S_drewN | apply Kd.S_drew)); exact HO_7.out⟩, ⟨by (with_reducible repeat (first | apply Kd.R_alloc | apply Kd.R_drewN | apply Kd.R_drew)); exact HO_8.out⟩, ⟨by repeat (first | (with_reducible first | exact HB.out | apply below_alloc | apply pw_below_drewN | apply below_drew1) | exact HB.out)⟩⟩
                    · rw [if_neg c20] at H
                      exact absurd H (by simp)
                  · rw [if_neg c19] at H
                    have c19b0 : decide (x11_2 < a0) = false := decide_eq_false c19
                    clear c19
                    by_cases c59 : 0 ≤ a0
                    · rw [if_pos c59] at H
                      have c59b0 := eq_true c59
                      have c59b1 : decide (0 ≤ a0) = true := decide_eq_true c59
                      clear c59
                      obtain ⟨ji60, hji60⟩ : ∃ j_ : Int, (shl .i64 1 a0) = j_ := ⟨_, rfl⟩
                      replace H : (if 0 ≤ (wrap64 ((ji60) - 1)) then (if (wrap64 ((ji60) - 1)) < (t349.length : Int) then (some (x8_2, rd t349 (wrap64 ((ji60) - 1)))) else (none)) else (none)) = some (r1, r2) := by first | (rw [hji60] at H; exact H) | (simp only [hji60] at H ⊢; exact H)
                      have hji60_ : (IntKind.i64.wrap (1 * 2 ^ min a0.toNat 64)) = ji60 := hji60
                      have hji60z : a0 ≤ 64 → (IntKind.i64.wrap (1 * 2 ^ a0.toNat)) = ji60 := shl_small hji60
                      have hji60u : (IntKind.i64.wrap (2 ^ min a0.toNat 64)) = ji60 := by have h_ := hji60_; rw [Int.one_mul] at h_; exact h_
                      have hji60v : a0 ≤ 64 → (IntKind.i64.wrap (2 ^ a0.toNat)) = ji60 := fun hle_ => by have h_ := hji60z hle_; rw [Int.one_mul] at h_; exact h_
                      have hji60y : (wrap64 (1 * 2 ^ min a0.toNat 64)) = ji60 := (i64_w _).symm.trans hji60_
                      have hji60x : a0 ≤ 64 → (wrap64 (1 * 2 ^ a0.toNat)) = ji60 := fun h_ => (i64_w _).symm.trans (hji60z h_)
                      have e60_ : ji60 = ji18 := hji60.symm.trans hji18
                      subst e60_
                      obtain ⟨ji61, hji61⟩ : ∃ j_ : Int, (wrap64 ((ji60) - 1)) = j_ := ⟨_, rfl⟩
                      replace H : (if 0 ≤ (ji61) then (if (ji61) < (t349.length : Int) then (some (x8_2, rd t349 (ji61))) else (none)) else (none)) = some (r1, r2) := by first | (rw [hji61] at H; exact H) | (simp only [hji61] at H ⊢; exact H)
                      have hji61w : (IntKind.i64.wrap ((ji60) - 1)) = ji61 := (i64_w _).trans hji61
                      by_cases c62 : 0 ≤ (ji61)
                      · rw [if_pos c62] at H
                        have c62b0 : decide (0 ≤ (ji61)) = true := decide_eq_true c62
                        clear c62
                        by_cases c63 : (ji61) < (t349.length : Int)
                        · rw [if_pos c63] at H
                          have c63b0 : decide ((ji61) < (t349.length : Int)) = true := decide_eq_true c63
                          clear c63
                          simp only [Option.some.injEq, Prod.mk.injEq] at H
                          obtain ⟨rfl, rfl⟩ := H
                          obtain ⟨Ao64, co64, eo64⟩ := Kd.R_slice HO_6.out
                          subst eo64
                          have p359 : 0 ≤ ((ji61) : Int) := of_decide_eq_true (by first | (with_reducible assumption) | assumption)
                          have q359 : (ji61) < (t349.length : Int) := of_decide_eq_true (by first | (with_reducible assumption) | assumption)
                          obtain ⟨ad359, e359, hx359_0⟩ := Kd.at_int (Kd.R_reads' HO_6.out).2.2 (ji61) p359 q359
                          cases e359
                          replace p359 := eq_true p359
                          replace q359 := eq_true q359
                          go_wp2
                          repeat (go_quiet (fail); try go_wp2)
                          go_ret2
                          exact ⟨_, by first | rfl | (simp [errW_none, errW_some] <;> rfl) | (simp only [← hji60, ← hji61]; first | rfl | (simp [errW_none, errW_some] <;> rfl)) | (simp [*, errW_none, errW_some] <;> rfl), by (with_reducible repeat (first | apply Kd.R_alloc | apply Kd.R_drewN | apply Kd.R_drew)); exact Kd.R_mono HO_8.out (fun _ hk => trivial), by repeat (first | (with_reducible first | exact HB.out | apply below_alloc | apply pw_below_drewN | apply below_drew1) | exact HB.out)⟩
                        · rw [if_neg c63] at H
                          exact absurd H (by simp)
                      · rw [if_neg c62] at H
                        exact absurd H (by simp)
                    · rw [if_neg c59] at H
                      exact absurd H (by simp)
            · rw [if_neg c17] at H
              exact absurd H (by simp)
    · rw [if_neg c6] at H
      exact absurd H (by simp)
  · rw [if_neg c5] at H
    exact absurd H (by simp)

end Go.Proofs.Ythhgdndjnflklaa.PP
