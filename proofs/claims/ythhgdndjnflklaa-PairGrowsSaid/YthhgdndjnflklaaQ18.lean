-- PRINTED by print.py (a twelfth state) out of the translation. Not trusted: Lean checks it.
import Derived.Test.YthhgdndjnflklaaQ0
import Derived.Test.YthhgdndjnflklaaQ17
import Derived.Test.YthhgdndjnflklaaExt
namespace Go.Proofs.Ythhgdndjnflklaa.PP
open Go.RowKit Go.Proofs.YthhgdndjnflklaaW.PrintWords Go.Proofs.YthhgdndjnflklaaW.PrintLast Go.Proofs.YthhgdndjnflklaaW.PrintMore
attribute [local go_sem] max2_int min2_int max_two min_two max_three min_three max_four min_four   -- for this text's walks alone
set_option linter.unusedVariables false
set_option linter.unusedSimpArgs false

/-! ### kimberliteref04_Most: function 30 -/
mutual
def kimberliteref04_Most.l0 : Nat → Int → List (List Bool) → List Int → Int → Option (List Int)
  | 0, _, _, _, _ => none
  | k + 1, x0, x5, x6, x7 => if 0 ≤ x0 then (if x7 < (shl .i64 1 x0) then (kimberliteref04_Most.l1 k x0 x5 x6 x7 0) else (some x6)) else (none)
def kimberliteref04_Most.l1 : Nat → Int → List (List Bool) → List Int → Int → Int → Option (List Int)
  | 0, _, _, _, _, _ => none
  | k + 1, x0, x5, x6, x7, x8 => if 0 ≤ x8 then (if (Int.tmod (shr .i64 x7 x8) 2) = 0 then (kimberliteref04_Most.l1 k x0 x5 x6 x7 (wrap64 (x8 + 1))) else (if 0 ≤ (wrap64 (x7 - (shl .i64 1 x8))) then (if (wrap64 (x7 - (shl .i64 1 x8))) < (x6.length : Int) then (if 0 ≤ x7 then (if x7 < (x6.length : Int) then (kimberliteref04_Most.l2 k x0 x5 (x6.set (x7 : Int).toNat (rd x6 (wrap64 (x7 - (shl .i64 1 x8))))) x7 x8 (wrap64 (x7 - (shl .i64 1 x8))) (wrap64 (x8 + 1))) else (none)) else (none)) else (none)) else (none))) else (none)
def kimberliteref04_Most.l2 : Nat → Int → List (List Bool) → List Int → Int → Int → Int → Int → Option (List Int)
  | 0, _, _, _, _, _, _, _ => none
  | k + 1, x0, x5, x6, x7, x8, x9, x10 => if x10 < x0 then (if 0 ≤ x8 then (if x8 < (x5.length : Int) then (if 0 ≤ x10 then (if x10 < ((rd_L5 x5 x8).length : Int) then (if rdOf false (rd_L5 x5 x8) x10 = true then (if (Int.tmod (shr .i64 x9 x10) 2) = 1 then (if 0 ≤ x7 then (if x7 < (x6.length : Int) then (if 0 ≤ (wrap64 (x9 - (shl .i64 1 x10))) then (if (wrap64 (x9 - (shl .i64 1 x10))) < (x6.length : Int) then (kimberliteref04_Most.l2 k x0 x5 (x6.set (x7 : Int).toNat (mx (rd x6 x7) (wrap64 (1 + (rd x6 (wrap64 (x9 - (shl .i64 1 x10)))))))) x7 x8 x9 (wrap64 (x10 + 1))) else (none)) else (none)) else (none)) else (none)) else (kimberliteref04_Most.l2 k x0 x5 x6 x7 x8 x9 (wrap64 (x10 + 1)))) else (kimberliteref04_Most.l2 k x0 x5 x6 x7 x8 x9 (wrap64 (x10 + 1)))) else (none)) else (none)) else (none)) else (none)) else (kimberliteref04_Most.l0 k x0 x5 x6 (wrap64 (x7 + 1)))
end
def kimberliteref04_Most.f (k : Nat) (a0 : Int) (l1 : List (S41)) : Option (List Int) := (kimberliteref04_Near.f k a0 l1).bind fun t147 => (if 0 ≤ a0 then (if 0 ≤ (shl .i64 1 a0) then (if (shl .i64 1 a0 : Int).toNat ≤ 35184372088832 then (kimberliteref04_Most.l0 k a0 t147 (List.replicate (shl .i64 1 a0 : Int).toNat 0) 1) else (none)) else (none)) else (none))
theorem kimberliteref04_Most.mono_l : ∀ k, (∀ y0 y1 y2 y3, LeO (kimberliteref04_Most.l0 k y0 y1 y2 y3) (kimberliteref04_Most.l0 (k + 1) y0 y1 y2 y3)) ∧ (∀ y0 y1 y2 y3 y4, LeO (kimberliteref04_Most.l1 k y0 y1 y2 y3 y4) (kimberliteref04_Most.l1 (k + 1) y0 y1 y2 y3 y4)) ∧ (∀ y0 y1 y2 y3 y4 y5 y6, LeO (kimberliteref04_Most.l2 k y0 y1 y2 y3 y4 y5 y6) (kimberliteref04_Most.l2 (k + 1) y0 y1 y2 y3 y4 y5 y6))
  | 0 => ⟨fun _ _ _ _ r h => by simp [kimberliteref04_Most.l0] at h, fun _ _ _ _ _ r h => by simp [kimberliteref04_Most.l1] at h, fun _ _ _ _ _ _ _ r h => by simp [kimberliteref04_Most.l2] at h⟩
  | k + 1 => by
    obtain ⟨ih0, ih1, ih2⟩ := kimberliteref04_Most.mono_l k
    refine ⟨?_, ?_, ?_⟩
    · intro y0 y1 y2 y3
      unfold kimberliteref04_Most.l0
      repeat' first
      | (with_reducible exact ih0 _ _ _ _)
      | (with_reducible exact ih1 _ _ _ _ _)
      | (with_reducible exact ih2 _ _ _ _ _ _ _)
      | (with_reducible exact kimberliteref04_Near.mono _ _ _)
      | (with_reducible exact LeO.refl _)
      | (with_reducible exact LeO.none _)
      | (with_reducible refine LeO.ite ?_ ?_)
      | (with_reducible refine LeO.bind ?_ (fun _ => ?_))
      | exact ih0 _ _ _ _
      | exact ih1 _ _ _ _ _
      | exact ih2 _ _ _ _ _ _ _
      | exact kimberliteref04_Near.mono _ _ _
      | exact LeO.none _
      | refine LeO.ite ?_ ?_
      | refine LeO.bind ?_ (fun _ => ?_)
    · intro y0 y1 y2 y3 y4
      unfold kimberliteref04_Most.l1
      repeat' first
      | (with_reducible exact ih0 _ _ _ _)
      | (with_reducible exact ih1 _ _ _ _ _)
      | (with_reducible exact ih2 _ _ _ _ _ _ _)
      | (with_reducible exact kimberliteref04_Near.mono _ _ _)
      | (with_reducible exact LeO.refl _)
      | (with_reducible exact LeO.none _)
      | (with_reducible refine LeO.ite ?_ ?_)
      | (with_reducible refine LeO.bind ?_ (fun _ => ?_))
      | exact ih0 _ _ _ _
      | exact ih1 _ _ _ _ _
      | exact ih2 _ _ _ _ _ _ _
      | exact kimberliteref04_Near.mono _ _ _
      | exact LeO.none _
      | refine LeO.ite ?_ ?_
      | refine LeO.bind ?_ (fun _ => ?_)
    · intro y0 y1 y2 y3 y4 y5 y6
      unfold kimberliteref04_Most.l2
      repeat' first
      | (with_reducible exact ih0 _ _ _ _)
      | (with_reducible exact ih1 _ _ _ _ _)
      | (with_reducible exact ih2 _ _ _ _ _ _ _)
      | (with_reducible exact kimberliteref04_Near.mono _ _ _)
      | (with_reducible exact LeO.refl _)
      | (with_reducible exact LeO.none _)
      | (with_reducible refine LeO.ite ?_ ?_)
      | (with_reducible refine LeO.bind ?_ (fun _ => ?_))
      | exact ih0 _ _ _ _
      | exact ih1 _ _ _ _ _
      | exact ih2 _ _ _ _ _ _ _
      | exact kimberliteref04_Near.mono _ _ _
      | exact LeO.none _
      | refine LeO.ite ?_ ?_
      | refine LeO.bind ?_ (fun _ => ?_)
theorem kimberliteref04_Most.mono : ∀ a0 a1 k, LeO (kimberliteref04_Most.f k a0 a1) (kimberliteref04_Most.f (k + 1) a0 a1) := by
  intro a0 a1 k
  obtain ⟨ih0, ih1, ih2⟩ := kimberliteref04_Most.mono_l k
  unfold kimberliteref04_Most.f
  repeat' first
      | (with_reducible exact ih0 _ _ _ _)
      | (with_reducible exact ih1 _ _ _ _ _)
      | (with_reducible exact ih2 _ _ _ _ _ _ _)
      | (with_reducible exact kimberliteref04_Near.mono _ _ _)
      | (with_reducible exact LeO.refl _)
      | (with_reducible exact LeO.none _)
      | (with_reducible refine LeO.ite ?_ ?_)
      | (with_reducible refine LeO.bind ?_ (fun _ => ?_))
      | exact ih0 _ _ _ _
      | exact ih1 _ _ _ _ _
      | exact ih2 _ _ _ _ _ _ _
      | exact kimberliteref04_Near.mono _ _ _
      | exact LeO.none _
      | refine LeO.ite ?_ ?_
      | refine LeO.bind ?_ (fun _ => ?_)
def kimberliteref04_Most.T15 : Bool × List (List Nat × List Nat) := (true, [([], []), ([], []), ([], []), ([], []), ([2, 3], [2, 3]), ([4], [4]), ([], []), ([], []), ([], []), ([8], [8]), ([7, 9], [7, 9]), ([6, 10], [6, 10]), ([11], [11]), ([12], [12]), ([5, 13], [5, 13]), ([0, 1, 0, 1, 2, 3, 4, 5, 6, 7, 8, 9, 10, 11, 12, 13, 14], [0, 1]), ([15, 14, 0, 1, 2, 3, 4, 5, 6, 7, 8, 9, 10, 11, 12, 13, 14], [14, 15])])
def kimberliteref04_Most.B15 : List Nat := [0, 0, 0, 0, 12, 28, 0, 0, 0, 256, 896, 1984, 4032, 8128, 16380, 32767, 65535]
theorem kimberliteref04_Most.tab15 : rtab .any (opsOf Try.f30 15) = kimberliteref04_Most.T15 := by kernel_rfl
theorem kimberliteref04_Most.bits15 : waitsOk kimberliteref04_Most.T15.2 kimberliteref04_Most.B15 = true := by kernel_rfl
set_option maxHeartbeats 8000000 in
set_option maxRecDepth 100000 in
theorem kimberliteref04_Most.calls (k : Nat) (a0 : Int) (A1 : Option Addr) (c1 : Nat) (l1 : List (S41)) (r : List Int) (w : World) (hr1 : Kd.C k41 w A1 l1.length l1) (hc1 : l1.length ≤ c1) (h : kimberliteref04_Most.f k a0 l1 = some r) :
    Calls Try.prog 30 #[.int .i64 a0, .slice A1 l1.length c1] w fun e w' => ∃ v0_ : Value, e = .returned (v0_) ∧ Kd.R (Kd.int .i64) 3 w' w.heap.size (fun _ => True) v0_ r ∧ Below w.heap.size w w' := by
  have HR1 := Aside0.mk hr1
  have HC1 := Aside0.mk hc1
  clear hr1 hc1
  have HB := Aside0.mk (Below.refl w.heap.size w)
  have H : ((kimberliteref04_Near.f k a0 l1).bind fun t147 => (if 0 ≤ a0 then (if 0 ≤ (shl .i64 1 a0) then (if (shl .i64 1 a0 : Int).toNat ≤ 35184372088832 then (kimberliteref04_Most.l0 k a0 t147 (List.replicate (shl .i64 1 a0 : Int).toNat 0) 1) else (none)) else (none)) else (none))) = some r := h
  clear h
  replace H := Option.bind_eq_some_iff.mp H
  obtain ⟨t147, A30, H⟩ := H
  replace H : (if 0 ≤ a0 then (if 0 ≤ (shl .i64 1 a0) then (if (shl .i64 1 a0 : Int).toNat ≤ 35184372088832 then (kimberliteref04_Most.l0 k a0 t147 (List.replicate (shl .i64 1 a0 : Int).toNat 0) 1) else (none)) else (none)) else (none)) = some r := H
  have A3 := Aside0.mk A30
  clear A30
  by_cases c4 : 0 ≤ a0
  · rw [if_pos c4] at H
    have c4b0 := eq_true c4
    have c4b1 : decide (0 ≤ a0) = true := decide_eq_true c4
    clear c4
    obtain ⟨ji5, hji5⟩ : ∃ j_ : Int, (shl .i64 1 a0) = j_ := ⟨_, rfl⟩
    replace H : (if 0 ≤ (ji5) then (if (ji5 : Int).toNat ≤ 35184372088832 then (kimberliteref04_Most.l0 k a0 t147 (List.replicate (ji5 : Int).toNat 0) 1) else (none)) else (none)) = some r := by first | (rw [hji5] at H; exact H) | (simp only [hji5] at H ⊢; exact H)
    (try rw [hji5] at A3)
    have hji5_ : (IntKind.i64.wrap (1 * 2 ^ min a0.toNat 64)) = ji5 := hji5
    have hji5z : a0 ≤ 64 → (IntKind.i64.wrap (1 * 2 ^ a0.toNat)) = ji5 := shl_small hji5
    have hji5u : (IntKind.i64.wrap (2 ^ min a0.toNat 64)) = ji5 := by have h_ := hji5_; rw [Int.one_mul] at h_; exact h_
    have hji5v : a0 ≤ 64 → (IntKind.i64.wrap (2 ^ a0.toNat)) = ji5 := fun hle_ => by have h_ := hji5z hle_; rw [Int.one_mul] at h_; exact h_
    have hji5y : (wrap64 (1 * 2 ^ min a0.toNat 64)) = ji5 := (i64_w _).symm.trans hji5_
    have hji5x : a0 ≤ 64 → (wrap64 (1 * 2 ^ a0.toNat)) = ji5 := fun h_ => (i64_w _).symm.trans (hji5z h_)
    by_cases c6 : 0 ≤ (ji5)
    · rw [if_pos c6] at H
      have c6b0 := eq_true c6
      have c6b1 : decide (0 ≤ (ji5)) = true := decide_eq_true c6
      clear c6
      by_cases c7 : (ji5 : Int).toNat ≤ 35184372088832
      · rw [if_pos c7] at H
        have c7b0 := eq_true c7
        have c7b1 : decide ((ji5 : Int).toNat ≤ 35184372088832) = true := decide_eq_true c7
        clear c7
        obtain ⟨y150, hy150⟩ : ∃ y_ : List Int, y_ = (List.replicate (ji5 : Int).toNat 0) := ⟨_, rfl⟩
        replace H : (kimberliteref04_Most.l0 k a0 t147 y150 1) = some r := by first | (rw [hy150]; with_reducible exact H) | (have H2_ := (Option.bind_some _ _).symm.trans H; rw [hy150]; with_reducible exact H2_) | (have H2_ := (Option.bind_some _ _).symm.trans H; with_reducible exact H2_) | with_reducible exact H | (rw [hy150]; exact H) | exact H
        have Ny150 := Aside0.mk hy150
        clear hy150
        have H' := Aside0.mk H
        clear H
        go_enter Try.func30, Try.ntmps30
        go_wp2_with (first | ((with_reducible refine gate_callee (f := 21) rfl ?_); refine goesL_ (some 13) rfl rfl Try.func21 (by kernel_rfl) rfl #[.int .i64 a0, .slice A1 l1.length c1] rfl (by (try simp only [List.map_toArray, List.map_cons, List.map_nil]); first | done | rfl | (simp only [List.length_drop, List.length_take]; rfl)) ?_; (with_reducible refine (kimberliteref04_Near.calls k a0 _ _ l1 t147 _ ?side1 ?side2 A3.out).mono ?_); (case side1 => repeat (first | exact HR1.out | (with_reducible refine Kd.C_alloc ?_ _) | (with_reducible refine Kd.C_drewN ?_ _) | (with_reducible refine Kd.C_drew ?_))); (case side2 => exact HC1.out); rintro e w8 ⟨v148, rfl, ho0, hb⟩; refine ⟨_, rfl, ?_⟩; have n0_ := Aside0.mk (Kd.S_lower ho0 (below_size (by repeat (first | (with_reducible first | exact HB.out | apply below_alloc | apply pw_below_drewN | apply below_drew1) | exact HB.out)))); have n1_ := Aside0.mk (below_step (by repeat (first | (with_reducible first | exact HB.out | apply below_alloc | apply pw_below_drewN | apply below_drew1) | exact HB.out)) hb); clear HB; have HO149 := n0_; have HB := n1_; clear n0_ n1_; (try clear hb); (try clear hb2); (try clear hk); (try clear hi); (try clear ho0)) | ((with_reducible refine gate_dst (N := 16) rfl ?_); refine Kd.R_make (Kd.int .i64) _ 3 rfl (N := 16) rfl 25 _ _ rfl ji5 rfl rfl Try.underlying25 (.int .i64 0) 8 info3 rfl (by decide) (by omega) 0 (ok := fun _ => True) (okp := fun _ => True) rfl (fun _ hk => hk) trivial (of_decide_eq_true (by first | (with_reducible assumption) | assumption)) (Nat.le_trans (Nat.mul_le_mul_right _ (of_decide_eq_true (by first | (with_reducible assumption) | assumption) : ji5.toNat ≤ 35184372088832)) (by omega)) (Below.refl _ _) (Nat.le_refl _) ?_; intro v151 w9 ho10 hb hg_ hnew_; clear hg_ hnew_; (first | rw [← Ny150.out] at ho10 | (simp only [Int.reduceToNat] at ho10; rw [← Ny150.out] at ho10)); have n0_ := Aside0.mk (Kd.S_below (by (with_reducible repeat (first | apply Kd.S_alloc | apply Kd.S_drewN | apply Kd.S_drew)); exact HO149.out) hb); have n1_ := Aside0.mk (Kd.R_lower ho10 (below_size (by repeat (first | (with_reducible first | exact HB.out | apply below_alloc | apply pw_below_drewN | apply below_drew1) | exact HB.out)))); have n2_ := Aside0.mk (below_step (by repeat (first | (with_reducible first | exact HB.out | apply below_alloc | apply pw_below_drewN | apply below_drew1) | exact HB.out)) hb); clear HO149; clear HB; have HO149 := n0_; have HO152 := n1_; have HB := n2_; clear n0_ n1_ n2_; clear hb ho10))
        go_loopg [7] k (fun kq v7 w' => ∃ (x6_1 : List Int) (x7_1 : Int), v7 = .int .i64 x7_1 ∧ Aside0 (kimberliteref04_Most.l0 kq a0 t147 x6_1 x7_1 = some r) ∧ Aside0 (kq ≤ k) ∧ Aside0 (Kd.S (Kd.slice 4 Kd.bool) 39 w' w.heap.size (fun _ => True) v148 t147) ∧ Aside0 (Kd.R (Kd.int .i64) 3 w' w.heap.size (fun _ => True) v151 x6_1) ∧ Aside0 (Below w.heap.size w w'))
        case atStart => exact ⟨(y150), (1), (by first | rfl | (simp; done) | (simp [*]; done)), H', ⟨Nat.le_refl _⟩, ⟨by (with_reducible repeat (first | apply Kd.S_alloc | apply Kd.S_drewN | apply Kd.S_drew)); exact HO149.out⟩, ⟨by (with_reducible repeat (first | apply Kd.R_alloc | apply Kd.R_drewN | apply Kd.R_drew)); exact HO152.out⟩, ⟨by repeat (first | (with_reducible first | exact HB.out | apply below_alloc | apply pw_below_drewN | apply below_drew1) | exact HB.out)⟩⟩
        case round =>
          clear H'
          try clear c1
          try clear c2
          try clear p2
          try clear c3
          try clear c4
          try clear c4b0
          try clear c4b1
          try clear c6
          try clear c6b0
          try clear c6b1
          try clear p6
          try clear c7
          try clear c7b0
          try clear c7b1
          obtain ⟨x6_1, x7_1, rfl, HA, HK1, HO_5, HO_6, HB⟩ := hrel
          cases gk with
          | zero => exact absurd HA.out (by simp [kimberliteref04_Most.l0])
          | succ k1 =>
            have H := HA.out
            clear HA
            simp only [kimberliteref04_Most.l0] at H
            by_cases c11 : 0 ≤ a0
            · rw [if_pos c11] at H
              have c11b0 := eq_true c11
              have c11b1 : decide (0 ≤ a0) = true := decide_eq_true c11
              clear c11
              obtain ⟨ji12, hji12⟩ : ∃ j_ : Int, (shl .i64 1 a0) = j_ := ⟨_, rfl⟩
              have e5_ : ji12 = ji5 := hji12.symm.trans hji5
              subst e5_
              replace H : (if x7_1 < (ji12) then (kimberliteref04_Most.l1 k1 a0 t147 x6_1 x7_1 0) else (some x6_1)) = some r := by first | (rw [hji12] at H; exact H) | (simp only [hji12] at H ⊢; exact H)
              have hji12_ : (IntKind.i64.wrap (1 * 2 ^ min a0.toNat 64)) = ji12 := hji12
              have hji12z : a0 ≤ 64 → (IntKind.i64.wrap (1 * 2 ^ a0.toNat)) = ji12 := shl_small hji12
              have hji12u : (IntKind.i64.wrap (2 ^ min a0.toNat 64)) = ji12 := by have h_ := hji12_; rw [Int.one_mul] at h_; exact h_
              have hji12v : a0 ≤ 64 → (IntKind.i64.wrap (2 ^ a0.toNat)) = ji12 := fun hle_ => by have h_ := hji12z hle_; rw [Int.one_mul] at h_; exact h_
              have hji12y : (wrap64 (1 * 2 ^ min a0.toNat 64)) = ji12 := (i64_w _).symm.trans hji12_
              have hji12x : a0 ≤ 64 → (wrap64 (1 * 2 ^ a0.toNat)) = ji12 := fun h_ => (i64_w _).symm.trans (hji12z h_)
              by_cases c13 : x7_1 < (ji12)
              · rw [if_pos c13] at H
                have c13b0 : decide (x7_1 < (ji12)) = true := decide_eq_true c13
                clear c13
                have H' := Aside0.mk H
                clear H
                go_wp2
                go_loopg [8] k1 (fun kq v8 w' => ∃ (x8_2 : Int), v8 = .int .i64 x8_2 ∧ Aside0 (kimberliteref04_Most.l1 kq a0 t147 x6_1 x7_1 x8_2 = some r) ∧ Aside0 (kq ≤ k1) ∧ Aside0 (Kd.S (Kd.slice 4 Kd.bool) 39 w' w.heap.size (fun _ => True) v148 t147) ∧ Aside0 (Kd.R (Kd.int .i64) 3 w' w.heap.size (fun _ => True) v151 x6_1) ∧ Aside0 (Below w.heap.size w w'))
                case atStart => exact ⟨(0), (by first | rfl | (simp; done) | (simp [*]; done)), H', ⟨Nat.le_refl _⟩, ⟨by (with_reducible repeat (first | apply Kd.S_alloc | apply Kd.S_drewN | apply Kd.S_drew)); exact HO_5.out⟩, ⟨by (with_reducible repeat (first | apply Kd.R_alloc | apply Kd.R_drewN | apply Kd.R_drew)); exact HO_6.out⟩, ⟨by repeat (first | (with_reducible first | exact HB.out | apply below_alloc | apply pw_below_drewN | apply below_drew1) | exact HB.out)⟩⟩
                case round =>
                  clear H'
                  try clear c1
                  try clear c2
                  try clear p2
                  try clear c3
                  try clear c4
                  try clear c4b0
                  try clear c4b1
                  try clear c6
                  try clear c6b0
                  try clear c6b1
                  try clear p6
                  try clear c7
                  try clear c7b0
                  try clear c7b1
                  try clear c11
                  try clear c11b0
                  try clear c11b1
                  try clear c13
                  try clear c13b0
                  try clear p2
                  try clear p6
                  obtain ⟨x8_2, rfl, HA, HK2, HO_5, HO_6, HB⟩ := hrel
                  cases gk with
                  | zero => exact absurd HA.out (by simp [kimberliteref04_Most.l1])
                  | succ k2 =>
                    have H := HA.out
                    clear HA
                    simp only [kimberliteref04_Most.l1] at H
                    by_cases c14 : 0 ≤ x8_2
                    · rw [if_pos c14] at H
                      have c14b0 := eq_true c14
                      have c14b1 : decide (0 ≤ x8_2) = true := decide_eq_true c14
                      clear c14
                      obtain ⟨ji15, hji15⟩ : ∃ j_ : Int, (shr .i64 x7_1 x8_2) = j_ := ⟨_, rfl⟩
                      replace H : (if (Int.tmod (ji15) 2) = 0 then (kimberliteref04_Most.l1 k2 a0 t147 x6_1 x7_1 (wrap64 (x8_2 + 1))) else (if 0 ≤ (wrap64 (x7_1 - (shl .i64 1 x8_2))) then (if (wrap64 (x7_1 - (shl .i64 1 x8_2))) < (x6_1.length : Int) then (if 0 ≤ x7_1 then (if x7_1 < (x6_1.length : Int) then (kimberliteref04_Most.l2 k2 a0 t147 (x6_1.set (x7_1 : Int).toNat (rd x6_1 (wrap64 (x7_1 - (shl .i64 1 x8_2))))) x7_1 x8_2 (wrap64 (x7_1 - (shl .i64 1 x8_2))) (wrap64 (x8_2 + 1))) else (none)) else (none)) else (none)) else (none))) = some r := by first | (rw [hji15] at H; exact H) | (simp only [hji15] at H ⊢; exact H)
                      have hji15_ : (x7_1 / 2 ^ min x8_2.toNat 64) = ji15 := hji15
                      have hji15z : x8_2 ≤ 64 → (x7_1 / 2 ^ x8_2.toNat) = ji15 := shr_small hji15
                      by_cases c16 : (Int.tmod (ji15) 2) = 0
                      · rw [if_pos c16] at H
                        have c16b0 : ((Int.tmod (ji15) 2) == 0) = true := beq_iff_eq.mpr c16
                        have c16b1 : ((Int.tmod (ji15) 2) != 0) = false := bne_eq_false_iff_eq.mpr c16
                        clear c16
                        have H' := Aside0.mk H
                        clear H
                        go_wp2
                        go_roundg k2
                        case measure => have := HK1.out; have := HK2.out; omega
                        case rel => exact ⟨(wrap64 (x8_2 + 1)), (by first | rfl | (simp; done) | (simp [*]; done)), H', ⟨by have := HK1.out; have := HK2.out; omega⟩, ⟨by (with_reducible repeat (first | apply Kd.S_alloc | apply Kd.S_drewN | apply Kd.S_drew)); exact HO_5.out⟩, ⟨by (with_reducible repeat (first | apply Kd.R_alloc | apply Kd.R_drewN | apply Kd.R_drew)); exact HO_6.out⟩, ⟨by repeat (first | (with_reducible first | exact HB.out | apply below_alloc | apply pw_below_drewN | apply below_drew1) | exact HB.out)⟩⟩
                      · rw [if_neg c16] at H
                        have c16b0 : ((Int.tmod (ji15) 2) == 0) = false := beq_eq_false_iff_ne.mpr c16
                        have c16b1 : ((Int.tmod (ji15) 2) != 0) = true := bne_iff_ne.mpr c16
                        have c17b0 := eq_true (of_decide_eq_true (by first | (with_reducible assumption) | assumption) : 0 ≤ x8_2)
                        obtain ⟨ji18, hji18⟩ : ∃ j_ : Int, (shl .i64 1 x8_2) = j_ := ⟨_, rfl⟩
                        replace H : (if 0 ≤ (wrap64 (x7_1 - (ji18))) then (if (wrap64 (x7_1 - (ji18))) < (x6_1.length : Int) then (if 0 ≤ x7_1 then (if x7_1 < (x6_1.length : Int) then (kimberliteref04_Most.l2 k2 a0 t147 (x6_1.set (x7_1 : Int).toNat (rd x6_1 (wrap64 (x7_1 - (ji18))))) x7_1 x8_2 (wrap64 (x7_1 - (ji18))) (wrap64 (x8_2 + 1))) else (none)) else (none)) else (none)) else (none)) = some r := by first | (rw [hji18] at H; exact H) | (simp only [hji18] at H ⊢; exact H)
                        have hji18_ : (IntKind.i64.wrap (1 * 2 ^ min x8_2.toNat 64)) = ji18 := hji18
                        have hji18z : x8_2 ≤ 64 → (IntKind.i64.wrap (1 * 2 ^ x8_2.toNat)) = ji18 := shl_small hji18
                        have hji18u : (IntKind.i64.wrap (2 ^ min x8_2.toNat 64)) = ji18 := by have h_ := hji18_; rw [Int.one_mul] at h_; exact h_
                        have hji18v : x8_2 ≤ 64 → (IntKind.i64.wrap (2 ^ x8_2.toNat)) = ji18 := fun hle_ => by have h_ := hji18z hle_; rw [Int.one_mul] at h_; exact h_
                        have hji18y : (wrap64 (1 * 2 ^ min x8_2.toNat 64)) = ji18 := (i64_w _).symm.trans hji18_
                        have hji18x : x8_2 ≤ 64 → (wrap64 (1 * 2 ^ x8_2.toNat)) = ji18 := fun h_ => (i64_w _).symm.trans (hji18z h_)
                        obtain ⟨ji19, hji19⟩ : ∃ j_ : Int, (wrap64 (x7_1 - (ji18))) = j_ := ⟨_, rfl⟩
                        replace H : (if 0 ≤ (ji19) then (if (ji19) < (x6_1.length : Int) then (if 0 ≤ x7_1 then (if x7_1 < (x6_1.length : Int) then (kimberliteref04_Most.l2 k2 a0 t147 (x6_1.set (x7_1 : Int).toNat (rd x6_1 (ji19))) x7_1 x8_2 ji19 (wrap64 (x8_2 + 1))) else (none)) else (none)) else (none)) else (none)) = some r := by first | (rw [hji19] at H; exact H) | (simp only [hji19] at H ⊢; exact H)
                        have hji19w : (IntKind.i64.wrap (x7_1 - (ji18))) = ji19 := (i64_w _).trans hji19
                        by_cases c20 : 0 ≤ (ji19)
                        · rw [if_pos c20] at H
                          have c20b0 : decide (0 ≤ (ji19)) = true := decide_eq_true c20
                          clear c20
                          by_cases c21 : (ji19) < (x6_1.length : Int)
                          · rw [if_pos c21] at H
                            have c21b0 : decide ((ji19) < (x6_1.length : Int)) = true := decide_eq_true c21
                            clear c21
                            by_cases c22 : 0 ≤ x7_1
                            · rw [if_pos c22] at H
                              have c22b0 : decide (0 ≤ x7_1) = true := decide_eq_true c22
                              clear c22
                              by_cases c23 : x7_1 < (x6_1.length : Int)
                              · rw [if_pos c23] at H
                                have c23b0 : decide (x7_1 < (x6_1.length : Int)) = true := decide_eq_true c23
                                clear c23
                                obtain ⟨y154, hy154⟩ : ∃ y_ : List Int, y_ = (x6_1.set (x7_1 : Int).toNat (rd x6_1 (ji19))) := ⟨_, rfl⟩
                                replace H : (kimberliteref04_Most.l2 k2 a0 t147 y154 x7_1 x8_2 ji19 (wrap64 (x8_2 + 1))) = some r := by first | (rw [hy154]; with_reducible exact H) | (have H2_ := (Option.bind_some _ _).symm.trans H; rw [hy154]; with_reducible exact H2_) | (have H2_ := (Option.bind_some _ _).symm.trans H; with_reducible exact H2_) | with_reducible exact H | (rw [hy154]; exact H) | exact H
                                have Ny154 := Aside0.mk hy154
                                clear hy154
                                have H' := Aside0.mk H
                                clear H
                                obtain ⟨Ao25, co25, eo25⟩ := Kd.R_slice HO_6.out
                                subst eo25
                                have p153 : 0 ≤ ((ji19) : Int) := of_decide_eq_true (by first | (with_reducible assumption) | assumption)
                                have q153 : (ji19) < (x6_1.length : Int) := of_decide_eq_true (by first | (with_reducible assumption) | assumption)
                                obtain ⟨ad153, e153, hx153_0⟩ := Kd.at_int (Kd.R_reads' HO_6.out).2.2 (ji19) p153 q153
                                cases e153
                                replace p153 := eq_true p153
                                replace q153 := eq_true q153
                                have p24 : 0 ≤ (x7_1 : Int) := of_decide_eq_true (by first | (with_reducible assumption) | assumption)
                                have q24 : (x7_1 : Int) < ((x6_1.length : Int) : Int) := of_decide_eq_true (by first | (with_reducible assumption) | assumption)
                                obtain ⟨go24, co24, eo24, gb24, gl24, cl24, HG24⟩ := Kd.R_form HO_6.out (by omega)
                                (first | cases eo24 | (injection eo24 with ea_ en_ ec_; (first | subst ea_ | (injection ea_ with ea_; subst ea_)); subst ec_; clear en_))
                                have GB24 := Aside0.mk gb24
                                have GG24 := Aside0.mk HG24
                                clear gb24 gl24 HG24
                                (first | simp only [add_plain] at hx153_0 | skip)
                                obtain ⟨hx24_0, hf24_0⟩ := Kd.R_celln 0 HO_6.out (x7_1 : Int) p24 q24
                                replace p24 := eq_true p24
                                replace q24 := eq_true q24
                                have HP26 := Kd.R_putg HO_6.out (x7_1 : Int) (rd x6_1 (ji19))
                                go_wp2_with (first | ((with_reducible refine gate_store (t := 3) (p := 40) rfl ?_); refine store_event (t := 3) (p := 40) (v := ?vo_w27) (w1 := (wr.setCell ⟨go24, (x7_1 : Int).toNat, none⟩ (.int .i64 (rd x6_1 (ji19))))) ?hg ?ho ?hn ?hr ?_; (case ho => rfl); (case hg => rfl); (case hn => rfl); (case hr => first | (go_simp; done) | (go_simp; rfl)); intro w27 hw; have hg : wr.grownBy w27 (some go24) := (by rw [hw]; exact HP26.2); have hp_ : Kd.R (Kd.int .i64) 3 w27 w.heap.size (fun _ => True) (.slice (some ⟨go24, 0, none⟩) x6_1.length co25) y154 := (by rw [hw, Ny154.out]; exact HP26.1); clear HP26; have n0_ := Aside0.mk (Kd.S_over' (v := (.slice (some ⟨go24, 0, none⟩) x6_1.length co25)) (by (with_reducible repeat (first | apply Kd.S_alloc | apply Kd.S_drewN | apply Kd.S_drew)); exact HO_5.out) (Kd.R_typed HO_6.out) (by decide) hg); have n1_ := Aside0.mk (hp_); have n2_ := Aside0.mk ((by rw [hw]; exact below_set (HB.out) GB24.out : Below w.heap.size w w27)); clear HO_5; clear HO_6; clear HB; have HO_5 := n0_; have HO_6 := n1_; have HB := n2_; clear n0_ n1_ n2_; clear hg hw hp_))
                                go_loopg [10] k2 (fun kq v10 w' => ∃ (x6_3 : List Int) (x10_3 : Int), v10 = .int .i64 x10_3 ∧ Aside0 (kimberliteref04_Most.l2 kq a0 t147 x6_3 x7_1 x8_2 ji19 x10_3 = some r) ∧ Aside0 (kq ≤ k2) ∧ Aside0 (Kd.S (Kd.slice 4 Kd.bool) 39 w' w.heap.size (fun _ => True) v148 t147) ∧ Aside0 (Kd.R (Kd.int .i64) 3 w' w.heap.size (fun _ => True) (.slice (some ⟨go24, 0, none⟩) x6_1.length co25) x6_3) ∧ Aside0 (Below w.heap.size w w'))
                                case atStart => exact ⟨(y154), (wrap64 (x8_2 + 1)), (by first | rfl | (simp; done) | (simp [*]; done)), H', ⟨Nat.le_refl _⟩, ⟨by (with_reducible repeat (first | apply Kd.S_alloc | apply Kd.S_drewN | apply Kd.S_drew)); exact HO_5.out⟩, ⟨by (with_reducible repeat (first | apply Kd.R_alloc | apply Kd.R_drewN | apply Kd.R_drew)); exact HO_6.out⟩, ⟨by repeat (first | (with_reducible first | exact HB.out | apply below_alloc | apply pw_below_drewN | apply below_drew1) | exact HB.out)⟩⟩
                                case round =>
                                  clear H'
                                  try clear c1
                                  try clear p1
                                  try clear q1
                                  try clear hx1
                                  try clear c2
                                  try clear p2
                                  try clear q2
                                  try clear hx2
                                  try clear hf2
                                  try clear c3
                                  try clear c4
                                  try clear c4b0
                                  try clear c4b1
                                  try clear c6
                                  try clear c6b0
                                  try clear c6b1
                                  try clear p6
                                  try clear c7
                                  try clear c7b0
                                  try clear c7b1
                                  try clear c11
                                  try clear c11b0
                                  try clear c11b1
                                  try clear c13
                                  try clear c13b0
                                  try clear c14
                                  try clear c14b0
                                  try clear c14b1
                                  try clear p15
                                  try clear q15
                                  try clear hx15
                                  try clear c16
                                  try clear c16b0
                                  try clear c16b1
                                  try clear c17
                                  try clear c17b0
                                  try clear c20
                                  try clear c20b0
                                  try clear c21
                                  try clear c21b0
                                  try clear c22
                                  try clear c22b0
                                  try clear c23
                                  try clear c23b0
                                  try clear p24
                                  try clear q24
                                  try clear hx24
                                  try clear hf24
                                  try clear hx153_0
                                  try clear hx24_0
                                  try clear p153
                                  try clear p2
                                  try clear p24
                                  try clear p6
                                  try clear q153
                                  try clear q24
                                  obtain ⟨x6_3, x10_3, rfl, HA, HK3, HO_5, HO_6, HB⟩ := hrel
                                  have hl6_3 := (Kd.R_reads' HO_6.out).1
                                  rw [hl6_3] at HO_6
                                  (try simp only [hl6_3])
                                  (try simp only [hl6_3] at HO_5)
                                  cases gk with
                                  | zero => exact absurd HA.out (by simp [kimberliteref04_Most.l2])
                                  | succ k3 =>
                                    have H := HA.out
                                    clear HA
                                    simp only [kimberliteref04_Most.l2] at H
                                    by_cases c28 : x10_3 < a0
                                    · rw [if_pos c28] at H
                                      have c28b0 : decide (x10_3 < a0) = true := decide_eq_true c28
                                      clear c28
                                      by_cases c29 : 0 ≤ x8_2
                                      · rw [if_pos c29] at H
                                        have c29b0 : decide (0 ≤ x8_2) = true := decide_eq_true c29
                                        clear c29
                                        by_cases c30 : x8_2 < (t147.length : Int)
                                        · rw [if_pos c30] at H
                                          have c30b0 : decide (x8_2 < (t147.length : Int)) = true := decide_eq_true c30
                                          clear c30
                                          by_cases c31 : 0 ≤ x10_3
                                          · rw [if_pos c31] at H
                                            have c31b0 : decide (0 ≤ x10_3) = true := decide_eq_true c31
                                            clear c31
                                            by_cases c32 : x10_3 < ((rd_L5 t147 x8_2).length : Int)
                                            · rw [if_pos c32] at H
                                              have c32b0 : decide (x10_3 < ((rd_L5 t147 x8_2).length : Int)) = true := decide_eq_true c32
                                              clear c32
                                              obtain ⟨bq33, hbq33⟩ : ∃ b_ : Bool, b_ = (rdOf false (rd_L5 t147 x8_2) x10_3) := ⟨_, rfl⟩
                                              replace H : (if bq33 = true then (if (Int.tmod (shr .i64 ji19 x10_3) 2) = 1 then (if 0 ≤ x7_1 then (if x7_1 < (x6_3.length : Int) then (if 0 ≤ (wrap64 (ji19 - (shl .i64 1 x10_3))) then (if (wrap64 (ji19 - (shl .i64 1 x10_3))) < (x6_3.length : Int) then (kimberliteref04_Most.l2 k3 a0 t147 (x6_3.set (x7_1 : Int).toNat (mx (rd x6_3 x7_1) (wrap64 (1 + (rd x6_3 (wrap64 (ji19 - (shl .i64 1 x10_3)))))))) x7_1 x8_2 ji19 (wrap64 (x10_3 + 1))) else (none)) else (none)) else (none)) else (none)) else (kimberliteref04_Most.l2 k3 a0 t147 x6_3 x7_1 x8_2 ji19 (wrap64 (x10_3 + 1)))) else (kimberliteref04_Most.l2 k3 a0 t147 x6_3 x7_1 x8_2 ji19 (wrap64 (x10_3 + 1)))) = some r := by rw [← hbq33] at H; exact H
                                              have Nbq33 := Aside0.mk hbq33
                                              clear hbq33
                                              by_cases c34 : bq33 = true
                                              · subst c34
                                                have H1 : (if (Int.tmod (shr .i64 ji19 x10_3) 2) = 1 then (if 0 ≤ x7_1 then (if x7_1 < (x6_3.length : Int) then (if 0 ≤ (wrap64 (ji19 - (shl .i64 1 x10_3))) then (if (wrap64 (ji19 - (shl .i64 1 x10_3))) < (x6_3.length : Int) then (kimberliteref04_Most.l2 k3 a0 t147 (x6_3.set (x7_1 : Int).toNat (mx (rd x6_3 x7_1) (wrap64 (1 + (rd x6_3 (wrap64 (ji19 - (shl .i64 1 x10_3)))))))) x7_1 x8_2 ji19 (wrap64 (x10_3 + 1))) else (none)) else (none)) else (none)) else (none)) else (kimberliteref04_Most.l2 k3 a0 t147 x6_3 x7_1 x8_2 ji19 (wrap64 (x10_3 + 1)))) = some r := by rw [if_pos rfl] at H; exact H
                                                clear H
                                                have H := H1
                                                clear H1
                                                have c35b0 := eq_true (of_decide_eq_true (by first | (with_reducible assumption) | assumption) : 0 ≤ x10_3)
                                                obtain ⟨ji36, hji36⟩ : ∃ j_ : Int, (shr .i64 ji19 x10_3) = j_ := ⟨_, rfl⟩
                                                replace H : (if (Int.tmod (ji36) 2) = 1 then (if 0 ≤ x7_1 then (if x7_1 < (x6_3.length : Int) then (if 0 ≤ (wrap64 (ji19 - (shl .i64 1 x10_3))) then (if (wrap64 (ji19 - (shl .i64 1 x10_3))) < (x6_3.length : Int) then (kimberliteref04_Most.l2 k3 a0 t147 (x6_3.set (x7_1 : Int).toNat (mx (rd x6_3 x7_1) (wrap64 (1 + (rd x6_3 (wrap64 (ji19 - (shl .i64 1 x10_3)))))))) x7_1 x8_2 ji19 (wrap64 (x10_3 + 1))) else (none)) else (none)) else (none)) else (none)) else (kimberliteref04_Most.l2 k3 a0 t147 x6_3 x7_1 x8_2 ji19 (wrap64 (x10_3 + 1)))) = some r := by first | (rw [hji36] at H; exact H) | (simp only [hji36] at H ⊢; exact H)
                                                have hji36_ : (ji19 / 2 ^ min x10_3.toNat 64) = ji36 := hji36
                                                have hji36z : x10_3 ≤ 64 → (ji19 / 2 ^ x10_3.toNat) = ji36 := shr_small hji36
                                                by_cases c37 : (Int.tmod (ji36) 2) = 1
                                                · rw [if_pos c37] at H
                                                  have c37b0 : ((Int.tmod (ji36) 2) == 1) = true := beq_iff_eq.mpr c37
                                                  have c37b1 : ((Int.tmod (ji36) 2) != 1) = false := bne_eq_false_iff_eq.mpr c37
                                                  clear c37
                                                  by_cases c38 : 0 ≤ x7_1
                                                  · rw [if_pos c38] at H
                                                    have c38b0 : decide (0 ≤ x7_1) = true := decide_eq_true c38
                                                    clear c38
                                                    by_cases c39 : x7_1 < (x6_3.length : Int)
                                                    · rw [if_pos c39] at H
                                                      have c39b0 : decide (x7_1 < (x6_3.length : Int)) = true := decide_eq_true c39
                                                      clear c39
                                                      have c40b0 := eq_true (of_decide_eq_true (by first | (with_reducible assumption) | assumption) : 0 ≤ x10_3)
                                                      obtain ⟨ji41, hji41⟩ : ∃ j_ : Int, (shl .i64 1 x10_3) = j_ := ⟨_, rfl⟩
                                                      replace H : (if 0 ≤ (wrap64 (ji19 - (ji41))) then (if (wrap64 (ji19 - (ji41))) < (x6_3.length : Int) then (kimberliteref04_Most.l2 k3 a0 t147 (x6_3.set (x7_1 : Int).toNat (mx (rd x6_3 x7_1) (wrap64 (1 + (rd x6_3 (wrap64 (ji19 - (ji41)))))))) x7_1 x8_2 ji19 (wrap64 (x10_3 + 1))) else (none)) else (none)) = some r := by first | (rw [hji41] at H; exact H) | (simp only [hji41] at H ⊢; exact H)
                                                      have hji41_ : (IntKind.i64.wrap (1 * 2 ^ min x10_3.toNat 64)) = ji41 := hji41
                                                      have hji41z : x10_3 ≤ 64 → (IntKind.i64.wrap (1 * 2 ^ x10_3.toNat)) = ji41 := shl_small hji41
                                                      have hji41u : (IntKind.i64.wrap (2 ^ min x10_3.toNat 64)) = ji41 := by have h_ := hji41_; rw [Int.one_mul] at h_; exact h_
                                                      have hji41v : x10_3 ≤ 64 → (IntKind.i64.wrap (2 ^ x10_3.toNat)) = ji41 := fun hle_ => by have h_ := hji41z hle_; rw [Int.one_mul] at h_; exact h_
                                                      have hji41y : (wrap64 (1 * 2 ^ min x10_3.toNat 64)) = ji41 := (i64_w _).symm.trans hji41_
                                                      have hji41x : x10_3 ≤ 64 → (wrap64 (1 * 2 ^ x10_3.toNat)) = ji41 := fun h_ => (i64_w _).symm.trans (hji41z h_)
                                                      obtain ⟨ji42, hji42⟩ : ∃ j_ : Int, (wrap64 (ji19 - (ji41))) = j_ := ⟨_, rfl⟩
                                                      replace H : (if 0 ≤ (ji42) then (if (ji42) < (x6_3.length : Int) then (kimberliteref04_Most.l2 k3 a0 t147 (x6_3.set (x7_1 : Int).toNat (mx (rd x6_3 x7_1) (wrap64 (1 + (rd x6_3 (ji42)))))) x7_1 x8_2 ji19 (wrap64 (x10_3 + 1))) else (none)) else (none)) = some r := by first | (rw [hji42] at H; exact H) | (simp only [hji42] at H ⊢; exact H)
                                                      have hji42w : (IntKind.i64.wrap (ji19 - (ji41))) = ji42 := (i64_w _).trans hji42
                                                      by_cases c43 : 0 ≤ (ji42)
                                                      · rw [if_pos c43] at H
                                                        have c43b0 : decide (0 ≤ (ji42)) = true := decide_eq_true c43
                                                        clear c43
                                                        by_cases c44 : (ji42) < (x6_3.length : Int)
                                                        · rw [if_pos c44] at H
                                                          have c44b0 : decide ((ji42) < (x6_3.length : Int)) = true := decide_eq_true c44
                                                          clear c44
                                                          obtain ⟨ji45, hji45⟩ : ∃ j_ : Int, (mx (rd x6_3 x7_1) (wrap64 (1 + (rd x6_3 (ji42))))) = j_ := ⟨_, rfl⟩
                                                          replace H : (kimberliteref04_Most.l2 k3 a0 t147 (x6_3.set (x7_1 : Int).toNat (ji45)) x7_1 x8_2 ji19 (wrap64 (x10_3 + 1))) = some r := by first | (rw [hji45] at H; exact H) | (simp only [hji45] at H ⊢; exact H)
                                                          have hji45_ : (if (rd x6_3 x7_1) < (wrap64 (1 + (rd x6_3 (ji42)))) then (wrap64 (1 + (rd x6_3 (ji42)))) else (rd x6_3 x7_1)) = ji45 := hji45
                                                          obtain ⟨y159, hy159⟩ : ∃ y_ : List Int, y_ = (x6_3.set (x7_1 : Int).toNat (ji45)) := ⟨_, rfl⟩
                                                          replace H : (kimberliteref04_Most.l2 k3 a0 t147 y159 x7_1 x8_2 ji19 (wrap64 (x10_3 + 1))) = some r := by first | (rw [hy159]; with_reducible exact H) | (have H2_ := (Option.bind_some _ _).symm.trans H; rw [hy159]; with_reducible exact H2_) | (have H2_ := (Option.bind_some _ _).symm.trans H; with_reducible exact H2_) | with_reducible exact H | (rw [hy159]; exact H) | exact H
                                                          have Ny159 := Aside0.mk hy159
                                                          clear hy159
                                                          have H' := Aside0.mk H
                                                          clear H
                                                          obtain ⟨Ao47, co47, eo47⟩ := Kd.S_slice HO_5.out
                                                          subst eo47
                                                          have p155 : 0 ≤ (x8_2 : Int) := of_decide_eq_true (by first | (with_reducible assumption) | assumption)
                                                          have q155 : x8_2 < (t147.length : Int) := of_decide_eq_true (by first | (with_reducible assumption) | assumption)
                                                          obtain ⟨ad155, A155_0, c155_0, e155, hx155_0, hl155_0, hi155_0⟩ := at_L5 (Kd.S_reads' HO_5.out).2.2 x8_2 p155 q155
                                                          cases e155
                                                          obtain ⟨ce155, hce155, hMe155, hcc155⟩ := Kd.S_get HO_5.out [] x8_2 p155 (by first | exact q155 | exact of_decide_eq_true (by first | (with_reducible assumption) | assumption) | (have e_ := (Kd.S_reads' HO_5.out).1; omega))
                                                          obtain ⟨ve155_0, rfl, ge155_0⟩ := hMe155
                                                          have hv155_0 := hcc155 0 _ rfl
                                                          rw [Nat.add_zero, show ((Kd.slice 4 Kd.bool)).sz = 1 from rfl, Nat.mul_one] at hv155_0
                                                          replace hv155_0 := Option.some.inj (hv155_0.symm.trans hx155_0)
                                                          rw [hv155_0] at ge155_0
                                                          have HL155_0 := Aside0.mk (show Kd.R Kd.bool 4 _ _ _ _ (rd_L5 t147 x8_2) from ge155_0)
                                                          clear hv155_0 ge155_0
                                                          clear hcc155 hce155
                                                          have HR155_0 := Aside0.mk hi155_0
                                                          have HC155_0 := Aside0.mk hl155_0
                                                          clear hi155_0 hl155_0
                                                          replace p155 := eq_true p155
                                                          replace q155 := eq_true q155
                                                          have p156 : 0 ≤ (x10_3 : Int) := of_decide_eq_true (by first | (with_reducible assumption) | assumption)
                                                          have q156 : x10_3 < ((rd_L5 t147 x8_2).length : Int) := of_decide_eq_true (by first | (with_reducible assumption) | assumption)
                                                          obtain ⟨ad156, e156, hx156_0⟩ := Kd.at_bool (by repeat (first | (with_reducible exact HR155_0.out) | (with_reducible refine Kd.C_alloc ?_ _) | (with_reducible refine Kd.C_drewN ?_ _) | (with_reducible refine Kd.C_drew ?_) | exact HR155_0.out)) x10_3 p156 q156
                                                          (try rw [← Nbq33.out] at hx156_0)
                                                          cases e156
                                                          replace p156 := eq_true p156
                                                          replace q156 := eq_true q156
                                                          try go_wp2
                                                          have n0_ := Aside0.mk (Kd.S_drew HO_5.out)
                                                          have n1_ := Aside0.mk (Kd.R_drew HO_6.out)
                                                          have n2_ := Aside0.mk (Kd.R_drew HL155_0.out)
                                                          have n3_ := Aside0.mk (Kd.C_drew HR155_0.out)
                                                          have n4_ := Aside0.mk (below_drew1 HB.out)
                                                          clear HO_5
                                                          clear HO_6
                                                          clear HL155_0
                                                          clear HR155_0
                                                          clear HB
                                                          have HO_5 := n0_
                                                          have HO_6 := n1_
                                                          have HL155_0 := n2_
                                                          have HR155_0 := n3_
                                                          have HB := n4_
                                                          clear n0_ n1_ n2_ n3_ n4_
                                                          have p157 : 0 ≤ (x7_1 : Int) := of_decide_eq_true (by first | (with_reducible assumption) | assumption)
                                                          have q157 : x7_1 < (x6_3.length : Int) := of_decide_eq_true (by first | (with_reducible assumption) | assumption)
                                                          obtain ⟨ad157, e157, hx157_0⟩ := Kd.at_int (Kd.R_reads' HO_6.out).2.2 x7_1 p157 q157
                                                          obtain rfl : (⟨go24, 0, none⟩ : Addr) = ad157 := (by injection e157)
                                                          (first | simp only [add_plain] at hx157_0 | simp only [add_at] at hx157_0 | simp only [Addr.add, Nat.zero_add] at hx157_0 | skip)
                                                          replace p157 := eq_true p157
                                                          replace q157 := eq_true q157
                                                          have p158 : 0 ≤ ((ji42) : Int) := of_decide_eq_true (by first | (with_reducible assumption) | assumption)
                                                          have q158 : (ji42) < (x6_3.length : Int) := of_decide_eq_true (by first | (with_reducible assumption) | assumption)
                                                          obtain ⟨ad158, e158, hx158_0⟩ := Kd.at_int (Kd.R_reads' HO_6.out).2.2 (ji42) p158 q158
                                                          obtain rfl : (⟨go24, 0, none⟩ : Addr) = ad158 := (by injection e158)
                                                          (first | simp only [add_plain] at hx158_0 | simp only [add_at] at hx158_0 | simp only [Addr.add, Nat.zero_add] at hx158_0 | skip)
                                                          replace p158 := eq_true p158
                                                          replace q158 := eq_true q158
                                                          have p46 : 0 ≤ (x7_1 : Int) := of_decide_eq_true (by first | (with_reducible assumption) | assumption)
                                                          have q46 : (x7_1 : Int) < ((x6_3.length : Int) : Int) := of_decide_eq_true (by first | (with_reducible assumption) | assumption)
                                                          obtain ⟨hx46_0, hf46_0⟩ := Kd.R_celln 0 HO_6.out (x7_1 : Int) p46 q46
                                                          replace p46 := eq_true p46
                                                          replace q46 := eq_true q46
                                                          have HP49 := Kd.R_putn HO_6.out (x7_1 : Int) ji45
                                                          rw [← Ny159.out] at HP49
                                                          have HQ49 := Aside0.mk HP49
                                                          clear HP49
                                                          refine start_ (n := 17) (S := fun w' => w'.cell? ⟨go24, (x7_1).toNat, none⟩ = some (.int .i64 (rd x6_3 x7_1)) ∧ w'.cell? ⟨go24, ((ji42)).toNat, none⟩ = some (.int .i64 (rd x6_3 (ji42)))) (ds := [16]) #[false, false, false, false, false, false, false, false, false, false, false, false, false, false, false, false, false] (by kernel_rfl) rfl rfl ⟨hx157_0, hx158_0⟩ (fun hHeld => ?_); refine with_tabW kimberliteref04_Most.tab15 kimberliteref04_Most.bits15 (fun HT_ HW_ => ?_)
                                                          obtain ⟨inner24_, ho24_, _⟩ := HO_6.out.2
                                                          obtain ⟨cl24_, gg24_⟩ := own_typed ho24_ go24 rfl
                                                          have GG24b := Aside0.mk (show wr.drew.heap[go24]? = _ from gg24_)
                                                          generalize wr.drew = w48 at GG24b HO_5 HO_6 HL155_0 HR155_0 HB HQ49 hf46_0 hx157_0 hx158_0 hx46_0 hHeld ⊢
                                                          refine pure_ (i := 0) (N := some 62) (v := ?_) (a' := ?_) #[true, false, false, false, false, false, false, false, false, false, false, false, false, false, false, false, false] rfl rfl (any_of HT_.out (by kernel_rfl)) (fun _ _ _ h => h) (Or.inl ⟨by rfl, ?_⟩) ?_ ?_
                                                          rotate_left
                                                          · intro w'
                                                            go_simp
                                                            with_reducible rfl
                                                          rotate_left
                                                          · simp only [Act.put, List.setIfInBounds_toArray, List.set_cons_zero, List.set_cons_succ, i64_w, i32_w]
                                                            rfl
                                                          refine pure_ (i := 1) (N := some 63) (v := ?_) (a' := ?_) #[true, true, false, false, false, false, false, false, false, false, false, false, false, false, false, false, false] rfl rfl (any_of HT_.out (by kernel_rfl)) (fun _ _ _ h => h) (Or.inl ⟨by rfl, ?_⟩) ?_ ?_
                                                          rotate_left
                                                          · intro w'
                                                            go_simp
                                                            with_reducible rfl
                                                          rotate_left
                                                          · simp only [Act.put, List.setIfInBounds_toArray, List.set_cons_zero, List.set_cons_succ, i64_w, i32_w]
                                                            rfl
                                                          refine pure_ (i := 2) (N := some 64) (v := ?_) (a' := ?_) #[true, true, true, false, false, false, false, false, false, false, false, false, false, false, false, false, false] rfl rfl (any_of HT_.out (by kernel_rfl)) (fun _ _ _ h => h) (Or.inl ⟨by rfl, ?_⟩) ?_ ?_
                                                          rotate_left
                                                          · intro w'
                                                            go_simp
                                                            with_reducible rfl
                                                          rotate_left
                                                          · simp only [Act.put, List.setIfInBounds_toArray, List.set_cons_zero, List.set_cons_succ, i64_w, i32_w]
                                                            rfl
                                                          refine pure_ (i := 3) (N := some 65) (v := ?_) (a' := ?_) #[true, true, true, true, false, false, false, false, false, false, false, false, false, false, false, false, false] rfl rfl (any_of HT_.out (by kernel_rfl)) (fun _ _ _ h => h) (Or.inl ⟨by rfl, ?_⟩) ?_ ?_
                                                          rotate_left
                                                          · intro w'
                                                            go_simp
                                                            with_reducible rfl
                                                          rotate_left
                                                          · simp only [Act.put, List.setIfInBounds_toArray, List.set_cons_zero, List.set_cons_succ, i64_w, i32_w]
                                                            rfl
                                                          refine pure_ (i := 4) (N := some 66) (v := ?_) (a' := ?_) #[true, true, true, true, true, false, false, false, false, false, false, false, false, false, false, false, false] rfl rfl (any_of HT_.out (by kernel_rfl)) (fun _ _ _ h => h) (Or.inl ⟨by rfl, ?_⟩) ?_ ?_
                                                          rotate_left
                                                          · intro w'
                                                            go_simp
                                                            with_reducible rfl
                                                          rotate_left
                                                          · simp only [Act.put, List.setIfInBounds_toArray, List.set_cons_zero, List.set_cons_succ, i64_w, i32_w]
                                                            rfl
                                                          refine pure_ (i := 6) (N := some 68) (v := ?_) (a' := ?_) #[true, true, true, true, true, false, true, false, false, false, false, false, false, false, false, false, false] rfl rfl (any_of HT_.out (by kernel_rfl)) (fun _ _ _ h => h) (Or.inl ⟨by rfl, ?_⟩) ?_ ?_
                                                          rotate_left
                                                          · intro w'
                                                            go_simp
                                                            with_reducible rfl
                                                          rotate_left
                                                          · simp only [Act.put, List.setIfInBounds_toArray, List.set_cons_zero, List.set_cons_succ, i64_w, i32_w]
                                                            rfl
                                                          refine pure_ (i := 7) (N := some 69) (v := ?_) (a' := ?_) #[true, true, true, true, true, false, true, true, false, false, false, false, false, false, false, false, false] rfl rfl (any_of HT_.out (by kernel_rfl)) (fun _ _ _ h => h) (Or.inl ⟨by rfl, ?_⟩) ?_ ?_
                                                          rotate_left
                                                          · intro w'
                                                            go_simp
                                                            with_reducible rfl
                                                          rotate_left
                                                          · simp only [Act.put, List.setIfInBounds_toArray, List.set_cons_zero, List.set_cons_succ, i64_w, i32_w]
                                                            rfl
                                                          refine pure_ (i := 8) (N := some 70) (v := ?_) (a' := ?_) #[true, true, true, true, true, false, true, true, true, false, false, false, false, false, false, false, false] rfl rfl (any_of HT_.out (by kernel_rfl)) (fun _ _ _ h => h) (Or.inl ⟨by rfl, ?_⟩) ?_ ?_
                                                          rotate_left
                                                          · intro w'
                                                            go_simp
                                                            with_reducible rfl
                                                          rotate_left
                                                          · simp only [Act.put, List.setIfInBounds_toArray, List.set_cons_zero, List.set_cons_succ, i64_w, i32_w]
                                                            rfl
                                                          refine pure_ (i := 9) (N := some 71) (v := ?_) (a' := ?_) #[true, true, true, true, true, false, true, true, true, true, false, false, false, false, false, false, false] rfl rfl (any_of HT_.out (by kernel_rfl)) (fun _ _ _ h => h) (Or.inl ⟨by rfl, ?_⟩) ?_ ?_
                                                          rotate_left
                                                          · intro w'
                                                            go_simp
                                                            with_reducible rfl
                                                          rotate_left
                                                          · simp only [Act.put, List.setIfInBounds_toArray, List.set_cons_zero, List.set_cons_succ, i64_w, i32_w]
                                                            rfl
                                                          refine pure_ (i := 10) (N := some 72) (v := ?_) (a' := ?_) #[true, true, true, true, true, false, true, true, true, true, true, false, false, false, false, false, false] rfl rfl (any_of HT_.out (by kernel_rfl)) (fun _ _ _ h => h) (Or.inl ⟨by rfl, ?_⟩) ?_ ?_
                                                          rotate_left
                                                          · intro w'
                                                            go_simp
                                                            with_reducible rfl
                                                          rotate_left
                                                          · simp only [Act.put, List.setIfInBounds_toArray, List.set_cons_zero, List.set_cons_succ, i64_w, i32_w]
                                                            rfl
                                                          refine pure_ (i := 11) (N := some 73) (v := ?_) (a' := ?_) #[true, true, true, true, true, false, true, true, true, true, true, true, false, false, false, false, false] rfl rfl (any_of HT_.out (by kernel_rfl)) (fun _ _ _ h => h) (Or.inl ⟨by rfl, ?_⟩) ?_ ?_
                                                          rotate_left
                                                          · intro w'
                                                            go_simp
                                                            with_reducible rfl
                                                          rotate_left
                                                          · simp only [Act.put, List.setIfInBounds_toArray, List.set_cons_zero, List.set_cons_succ, i64_w, i32_w]
                                                            rfl
                                                          refine take_ (i := 5) (N := some 67) (v := ?_) (a' := ?_) #[true, true, true, true, true, true, true, true, true, true, true, true, false, false, false, false, false] rfl rfl (take_ofW HT_.out HW_.out (by kernel_rfl)) (fun _ _ _ h => h) (Or.inl ⟨by rfl, ?_⟩) hHeld ?_ ?_
                                                          rotate_left
                                                          · rintro w' ⟨s0, s1⟩
                                                            go_simp
                                                            with_reducible rfl
                                                          rotate_left
                                                          · simp only [Act.put, List.setIfInBounds_toArray, List.set_cons_zero, List.set_cons_succ, i64_w, i32_w]
                                                            rfl
                                                          refine take_ (i := 12) (N := some 74) (v := ?_) (a' := ?_) #[true, true, true, true, true, true, true, true, true, true, true, true, true, false, false, false, false] rfl rfl (take_ofW HT_.out HW_.out (by kernel_rfl)) (fun _ _ _ h => h) (Or.inl ⟨by rfl, ?_⟩) hHeld ?_ ?_
                                                          rotate_left
                                                          · rintro w' ⟨s0, s1⟩
                                                            go_simp
                                                            with_reducible rfl
                                                          rotate_left
                                                          · simp only [Act.put, List.setIfInBounds_toArray, List.set_cons_zero, List.set_cons_succ, i64_w, i32_w]
                                                            rfl
                                                          refine pure_ (i := 13) (N := some 75) (v := ?_) (a' := ?_) #[true, true, true, true, true, true, true, true, true, true, true, true, true, true, false, false, false] rfl rfl (any_of HT_.out (by kernel_rfl)) (fun _ _ _ h => h) (Or.inl ⟨by rfl, ?_⟩) ?_ ?_
                                                          rotate_left
                                                          · intro w'
                                                            go_simp
                                                            with_reducible rfl
                                                          rotate_left
                                                          · simp only [Act.put, List.setIfInBounds_toArray, List.set_cons_zero, List.set_cons_succ, i64_w, i32_w]
                                                            rfl
                                                          refine pure_ (i := 14) (N := some 76) (v := ?_) (a' := ?_) #[true, true, true, true, true, true, true, true, true, true, true, true, true, true, true, false, false] rfl rfl (any_of HT_.out (by kernel_rfl)) (fun _ _ _ h => h) (Or.inl ⟨by rfl, ?_⟩) ?_ ?_
                                                          rotate_left
                                                          · intro w'
                                                            go_simp
                                                            with_reducible rfl
                                                          rotate_left
                                                          · simp only [Act.put, List.setIfInBounds_toArray, List.set_cons_zero, List.set_cons_succ, i64_w, i32_w]
                                                            rfl
                                                          refine pure_ (i := 15) (N := some 77) (v := ?_) (a' := ?_) #[true, true, true, true, true, true, true, true, true, true, true, true, true, true, true, true, false] rfl rfl (any_of HT_.out (by kernel_rfl)) (fun _ _ _ h => h) (Or.inl ⟨by rfl, ?_⟩) ?_ ?_
                                                          rotate_left
                                                          · intro w'
                                                            go_simp
                                                            with_reducible rfl
                                                          rotate_left
                                                          · simp only [Act.put, List.setIfInBounds_toArray, List.set_cons_zero, List.set_cons_succ, i64_w, i32_w]
                                                            rfl
                                                          refine last_ (i := 16) (N := none) #[true, true, true, true, true, true, true, true, true, true, true, true, true, true, true, true, true] rfl rfl (one_of HT_.out (by kernel_rfl)) (by decide) (fun K hK => ?_)
                                                          refine skip_ (w1 := ?_) (by rfl) rfl ?_ ?_
                                                          rotate_left
                                                          · go_simp
                                                            rfl
                                                          refine hK.out _ _ ?_
                                                          clear hK K
                                                          refine done_ (done_of HT_.out (by kernel_rfl)) ?_
                                                          try go_wp2
                                                          (try simp only [← hl6_3])
                                                          go_roundg k3
                                                          case measure => have := HK1.out; have := HK2.out; have := HK3.out; omega
                                                          case rel => exact ⟨(y159), (wrap64 (x10_3 + 1)), (by first | rfl | (simp; done) | (simp [*]; done)), H', ⟨by have := HK1.out; have := HK2.out; have := HK3.out; omega⟩, ⟨by (try simp only [hl6_3]); (with_reducible repeat (first | apply Kd.S_alloc | apply Kd.S_drewN | apply Kd.S_drew)); exact Kd.S_mono (Kd.S_far (p := ⟨go24, (x7_1 : Int).toNat, none⟩) (Kd.S_types HO_5.out GG24b.out (by decide)) (fun _ hk => hk.2) (.int .i64 ji45)) (fun _ hk => trivial)⟩, ⟨by (try simp only [hl6_3]); (with_reducible repeat (first | apply Kd.R_alloc | apply Kd.R_drewN | apply Kd.R_drew)); exact HQ49.out⟩, ⟨by repeat (first | (with_reducible first | exact HB.out | apply below_alloc | apply pw_below_drewN | apply below_drew1 | refine below_set ?_ GB24.out) | exact HB.out)⟩⟩
                                                        · rw [if_neg c44] at H
                                                          exact absurd H (by simp)
                                                      · rw [if_neg c43] at H
                                                        exact absurd H (by simp)
                                                    · rw [if_neg c39] at H
                                                      exact absurd H (by simp)
                                                  · rw [if_neg c38] at H
                                                    exact absurd H (by simp)
                                                · rw [if_neg c37] at H
                                                  have c37b0 : ((Int.tmod (ji36) 2) == 1) = false := beq_eq_false_iff_ne.mpr c37
                                                  have c37b1 : ((Int.tmod (ji36) 2) != 1) = true := bne_iff_ne.mpr c37
                                                  have H' := Aside0.mk H
                                                  clear H
                                                  obtain ⟨Ao50, co50, eo50⟩ := Kd.S_slice HO_5.out
                                                  subst eo50
                                                  have p155 : 0 ≤ (x8_2 : Int) := of_decide_eq_true (by first | (with_reducible assumption) | assumption)
                                                  have q155 : x8_2 < (t147.length : Int) := of_decide_eq_true (by first | (with_reducible assumption) | assumption)
                                                  obtain ⟨ad155, A155_0, c155_0, e155, hx155_0, hl155_0, hi155_0⟩ := at_L5 (Kd.S_reads' HO_5.out).2.2 x8_2 p155 q155
                                                  cases e155
                                                  obtain ⟨ce155, hce155, hMe155, hcc155⟩ := Kd.S_get HO_5.out [] x8_2 p155 (by first | exact q155 | exact of_decide_eq_true (by first | (with_reducible assumption) | assumption) | (have e_ := (Kd.S_reads' HO_5.out).1; omega))
                                                  obtain ⟨ve155_0, rfl, ge155_0⟩ := hMe155
                                                  have hv155_0 := hcc155 0 _ rfl
                                                  rw [Nat.add_zero, show ((Kd.slice 4 Kd.bool)).sz = 1 from rfl, Nat.mul_one] at hv155_0
                                                  replace hv155_0 := Option.some.inj (hv155_0.symm.trans hx155_0)
                                                  rw [hv155_0] at ge155_0
                                                  have HL155_0 := Aside0.mk (show Kd.R Kd.bool 4 _ _ _ _ (rd_L5 t147 x8_2) from ge155_0)
                                                  clear hv155_0 ge155_0
                                                  clear hcc155 hce155
                                                  have HR155_0 := Aside0.mk hi155_0
                                                  have HC155_0 := Aside0.mk hl155_0
                                                  clear hi155_0 hl155_0
                                                  replace p155 := eq_true p155
                                                  replace q155 := eq_true q155
                                                  have p156 : 0 ≤ (x10_3 : Int) := of_decide_eq_true (by first | (with_reducible assumption) | assumption)
                                                  have q156 : x10_3 < ((rd_L5 t147 x8_2).length : Int) := of_decide_eq_true (by first | (with_reducible assumption) | assumption)
                                                  obtain ⟨ad156, e156, hx156_0⟩ := Kd.at_bool (by repeat (first | (with_reducible exact HR155_0.out) | (with_reducible refine Kd.C_alloc ?_ _) | (with_reducible refine Kd.C_drewN ?_ _) | (with_reducible refine Kd.C_drew ?_) | exact HR155_0.out)) x10_3 p156 q156
                                                  (try rw [← Nbq33.out] at hx156_0)
                                                  cases e156
                                                  replace p156 := eq_true p156
                                                  replace q156 := eq_true q156
                                                  go_wp2
                                                  (try simp only [← hl6_3])
                                                  go_roundg k3
                                                  case measure => have := HK1.out; have := HK2.out; have := HK3.out; omega
                                                  case rel => exact ⟨(x6_3), (wrap64 (x10_3 + 1)), (by first | rfl | (simp; done) | (simp [*]; done)), H', ⟨by have := HK1.out; have := HK2.out; have := HK3.out; omega⟩, ⟨by (try simp only [hl6_3]); (with_reducible repeat (first | apply Kd.S_alloc | apply Kd.S_drewN | apply Kd.S_drew)); exact HO_5.out⟩, ⟨by (try simp only [hl6_3]); (with_reducible repeat (first | apply Kd.R_alloc | apply Kd.R_drewN | apply Kd.R_drew)); exact HO_6.out⟩, ⟨by repeat (first | (with_reducible first | exact HB.out | apply below_alloc | apply pw_below_drewN | apply below_drew1) | exact HB.out)⟩⟩
                                              · replace c34 := Bool.eq_false_iff.mpr c34
                                                subst c34
                                                have H1 : (kimberliteref04_Most.l2 k3 a0 t147 x6_3 x7_1 x8_2 ji19 (wrap64 (x10_3 + 1))) = some r := by rw [if_neg (show ¬ (false = true) by decide)] at H; exact H
                                                clear H
                                                have H := H1
                                                clear H1
                                                have H' := Aside0.mk H
                                                clear H
                                                obtain ⟨Ao51, co51, eo51⟩ := Kd.S_slice HO_5.out
                                                subst eo51
                                                have p155 : 0 ≤ (x8_2 : Int) := of_decide_eq_true (by first | (with_reducible assumption) | assumption)
                                                have q155 : x8_2 < (t147.length : Int) := of_decide_eq_true (by first | (with_reducible assumption) | assumption)
                                                obtain ⟨ad155, A155_0, c155_0, e155, hx155_0, hl155_0, hi155_0⟩ := at_L5 (Kd.S_reads' HO_5.out).2.2 x8_2 p155 q155
                                                cases e155
                                                obtain ⟨ce155, hce155, hMe155, hcc155⟩ := Kd.S_get HO_5.out [] x8_2 p155 (by first | exact q155 | exact of_decide_eq_true (by first | (with_reducible assumption) | assumption) | (have e_ := (Kd.S_reads' HO_5.out).1; omega))
                                                obtain ⟨ve155_0, rfl, ge155_0⟩ := hMe155
                                                have hv155_0 := hcc155 0 _ rfl
                                                rw [Nat.add_zero, show ((Kd.slice 4 Kd.bool)).sz = 1 from rfl, Nat.mul_one] at hv155_0
                                                replace hv155_0 := Option.some.inj (hv155_0.symm.trans hx155_0)
                                                rw [hv155_0] at ge155_0
                                                have HL155_0 := Aside0.mk (show Kd.R Kd.bool 4 _ _ _ _ (rd_L5 t147 x8_2) from ge155_0)
                                                clear hv155_0 ge155_0
                                                clear hcc155 hce155
                                                have HR155_0 := Aside0.mk hi155_0
                                                have HC155_0 := Aside0.mk hl155_0
                                                clear hi155_0 hl155_0
                                                replace p155 := eq_true p155
                                                replace q155 := eq_true q155
                                                have p156 : 0 ≤ (x10_3 : Int) := of_decide_eq_true (by first | (with_reducible assumption) | assumption)
                                                have q156 : x10_3 < ((rd_L5 t147 x8_2).length : Int) := of_decide_eq_true (by first | (with_reducible assumption) | assumption)
                                                obtain ⟨ad156, e156, hx156_0⟩ := Kd.at_bool (by repeat (first | (with_reducible exact HR155_0.out) | (with_reducible refine Kd.C_alloc ?_ _) | (with_reducible refine Kd.C_drewN ?_ _) | (with_reducible refine Kd.C_drew ?_) | exact HR155_0.out)) x10_3 p156 q156
                                                (try rw [← Nbq33.out] at hx156_0)
                                                cases e156
                                                replace p156 := eq_true p156
                                                replace q156 := eq_true q156
                                                go_wp2
                                                (try simp only [← hl6_3])
                                                go_roundg k3
                                                case measure => have := HK1.out; have := HK2.out; have := HK3.out; omega
                                                case rel => exact ⟨(x6_3), (wrap64 (x10_3 + 1)), (by first | rfl | (simp; done) | (simp [*]; done)), H', ⟨by have := HK1.out; have := HK2.out; have := HK3.out; omega⟩, ⟨by (try simp only [hl6_3]); (with_reducible repeat (first | apply Kd.S_alloc | apply Kd.S_drewN | apply Kd.S_drew)); exact HO_5.out⟩, ⟨by (try simp only [hl6_3]); (with_reducible repeat (first | apply Kd.R_alloc | apply Kd.R_drewN | apply Kd.R_drew)); exact HO_6.out⟩, ⟨by repeat (first | (with_reducible first | exact HB.out | apply below_alloc | apply pw_below_drewN | apply below_drew1) | exact HB.out)⟩⟩
                                            · rw [if_neg c32] at H
                                              exact absurd H (by simp)
                                          · rw [if_neg c31] at H
                                            exact absurd H (by simp)
                                        · rw [if_neg c30] at H
                                          exact absurd H (by simp)
                                      · rw [if_neg c29] at H
                                        exact absurd H (by simp)
                                    · rw [if_neg c28] at H
                                      have c28b0 : decide (x10_3 < a0) = false := decide_eq_false c28
                                      clear c28
                                      have H' := Aside0.mk H
                                      clear H
                                      go_wp2
                                      (try simp only [← hl6_3])
                                      go_roundg k3
                                      case measure => have := HK1.out; have := HK2.out; have := HK3.out; omega
                                      case rel => exact ⟨(x6_3), (wrap64 (x7_1 + 1)), (by first | rfl | (simp; done) | (simp [*]; done)), H', ⟨by have := HK1.out; have := HK2.out; have := HK3.out; omega⟩, ⟨by (try simp only [hl6_3]); (with_reducible repeat (first | apply Kd.S_alloc | apply Kd.S_drewN | apply Kd.S_drew)); exact HO_5.out⟩, ⟨by (try simp only [hl6_3]); (with_reducible repeat (first | apply Kd.R_alloc | apply Kd.R_drewN | apply Kd.R_drew)); exact HO_6.out⟩, ⟨by repeat (first | (with_reducible first | exact HB.out | apply below_alloc | apply pw_below_drewN | apply below_drew1) | exact HB.out)⟩⟩
                              · rw [if_neg c23] at H
                                exact absurd H (by simp)
                            · rw [if_neg c22] at H
                              exact absurd H (by simp)
                          · rw [if_neg c21] at H
                            exact absurd H (by simp)
                        · rw [if_neg c20] at H
                          exact absurd H (by simp)
                    · rw [if_neg c14] at H
                      exact absurd H (by simp)
              · rw [if_neg c13] at H
                have c13b0 : decide (x7_1 < (ji12)) = false := decide_eq_false c13
                clear c13
                obtain rfl := Option.some.inj H
                go_wp2
                go_ret
                exact ⟨_, by first | rfl | (simp [errW_none, errW_some] <;> rfl) | (simp only [← hji5, ← hji12]; first | rfl | (simp [errW_none, errW_some] <;> rfl)) | (simp [*, errW_none, errW_some] <;> rfl), by (with_reducible repeat (first | apply Kd.R_alloc | apply Kd.R_drewN | apply Kd.R_drew)); exact HO_6.out, by repeat (first | (with_reducible first | exact HB.out | apply below_alloc | apply pw_below_drewN | apply below_drew1) | exact HB.out)⟩
            · rw [if_neg c11] at H
              exact absurd H (by simp)
      · rw [if_neg c7] at H
        exact absurd H (by simp)
    · rw [if_neg c6] at H
      exact absurd H (by simp)
  · rw [if_neg c4] at H
    exact absurd H (by simp)

end Go.Proofs.Ythhgdndjnflklaa.PP
