-- PRINTED by print.py (a twelfth state) out of the translation. Not trusted: Lean checks it.
import Derived.Test.YthhgdndjnflklaaQ0
import Derived.Test.YthhgdndjnflklaaQ17
import Derived.Test.YthhgdndjnflklaaExt
namespace Go.Proofs.Ythhgdndjnflklaa.PP
open Go.RowKit Go.Proofs.YthhgdndjnflklaaW.PrintWords Go.Proofs.YthhgdndjnflklaaW.PrintLast Go.Proofs.YthhgdndjnflklaaW.PrintMore
attribute [local go_sem] max2_int min2_int max_two min_two max_three min_three max_four min_four   -- for this text's walks alone
set_option linter.unusedVariables false
set_option linter.unusedSimpArgs false

/-! ### kimberliteref04_Odd: function 33 -/
mutual
def kimberliteref04_Odd.l0 : Nat → Int → List Int → List (List Bool) → List Bool → Int → Option (Int)
  | 0, _, _, _, _, _ => none
  | k + 1, x0, x2, x7, x8, x9 => if x9 < (x2.length : Int) then (if 0 ≤ x9 then (if 0 ≤ (rd x2 x9) then (if (rd x2 x9) < (x8.length : Int) then (kimberliteref04_Odd.l0 k x0 x2 x7 (x8.set ((rd x2 x9) : Int).toNat true) (wrap64 (x9 + 1))) else (none)) else (none)) else (none)) else (kimberliteref04_Odd.l1 k x0 x7 x8 0 0)
def kimberliteref04_Odd.l1 : Nat → Int → List (List Bool) → List Bool → Int → Int → Option (Int)
  | 0, _, _, _, _, _ => none
  | k + 1, x0, x7, x8, x10, x11 => if x11 < x0 then (if 0 ≤ x11 then (if x11 < (x8.length : Int) then (if rdOf false x8 x11 = true then (kimberliteref04_Odd.l1 k x0 x7 x8 x10 (wrap64 (x11 + 1))) else (kimberliteref04_Odd.l2 k x0 x7 (x8.set (x11 : Int).toNat true) x10 x11 (([x11] : List Int)) 0)) else (none)) else (none)) else (some x10)
def kimberliteref04_Odd.l2 : Nat → Int → List (List Bool) → List Bool → Int → Int → List Int → Int → Option (Int)
  | 0, _, _, _, _, _, _, _ => none
  | k + 1, x0, x7, x8, x10, x11, x12, x13 => if x13 < (x12.length : Int) then (kimberliteref04_Odd.l3 k x0 x7 x8 x10 x11 x12 x13 0) else (kimberliteref04_Odd.l1 k x0 x7 x8 (wrap64 (x10 + ((x12.length : Int) % 2))) (wrap64 (x11 + 1)))
def kimberliteref04_Odd.l3 : Nat → Int → List (List Bool) → List Bool → Int → Int → List Int → Int → Int → Option (Int)
  | 0, _, _, _, _, _, _, _, _ => none
  | k + 1, x0, x7, x8, x10, x11, x12, x13, x14 => if x14 < x0 then (if 0 ≤ x14 then (if x14 < (x8.length : Int) then (if rdOf false x8 x14 = true then (kimberliteref04_Odd.l3 k x0 x7 x8 x10 x11 x12 x13 (wrap64 (x14 + 1))) else (if 0 ≤ x13 then (if x13 < (x12.length : Int) then (if 0 ≤ (rd x12 x13) then (if (rd x12 x13) < (x7.length : Int) then (if x14 < ((rd_L5 x7 (rd x12 x13)).length : Int) then (if rdOf false (rd_L5 x7 (rd x12 x13)) x14 = true then (if x12.length < 17592186044416 then (kimberliteref04_Odd.l3 k x0 x7 (x8.set (x14 : Int).toNat true) x10 x11 (x12 ++ [x14]) x13 (wrap64 (x14 + 1))) else (none)) else (kimberliteref04_Odd.l3 k x0 x7 x8 x10 x11 x12 x13 (wrap64 (x14 + 1)))) else (none)) else (none)) else (none)) else (none)) else (none))) else (none)) else (none)) else (kimberliteref04_Odd.l2 k x0 x7 x8 x10 x11 x12 (wrap64 (x13 + 1)))
end
def kimberliteref04_Odd.f (k : Nat) (a0 : Int) (l1 : List (S41)) (l2 : List Int) : Option (Int) := (kimberliteref04_Near.f k a0 l1).bind fun t472 => (if 0 ≤ a0 then (if (a0 : Int).toNat ≤ 281474976710656 then (kimberliteref04_Odd.l0 k a0 l2 t472 (List.replicate (a0 : Int).toNat false) 0) else (none)) else (none))
theorem kimberliteref04_Odd.mono_l : ∀ k, (∀ y0 y1 y2 y3 y4, LeO (kimberliteref04_Odd.l0 k y0 y1 y2 y3 y4) (kimberliteref04_Odd.l0 (k + 1) y0 y1 y2 y3 y4)) ∧ (∀ y0 y1 y2 y3 y4, LeO (kimberliteref04_Odd.l1 k y0 y1 y2 y3 y4) (kimberliteref04_Odd.l1 (k + 1) y0 y1 y2 y3 y4)) ∧ (∀ y0 y1 y2 y3 y4 y5 y6, LeO (kimberliteref04_Odd.l2 k y0 y1 y2 y3 y4 y5 y6) (kimberliteref04_Odd.l2 (k + 1) y0 y1 y2 y3 y4 y5 y6)) ∧ (∀ y0 y1 y2 y3 y4 y5 y6 y7, LeO (kimberliteref04_Odd.l3 k y0 y1 y2 y3 y4 y5 y6 y7) (kimberliteref04_Odd.l3 (k + 1) y0 y1 y2 y3 y4 y5 y6 y7))
  | 0 => ⟨fun _ _ _ _ _ r h => by simp [kimberliteref04_Odd.l0] at h, fun _ _ _ _ _ r h => by simp [kimberliteref04_Odd.l1] at h, fun _ _ _ _ _ _ _ r h => by simp [kimberliteref04_Odd.l2] at h, fun _ _ _ _ _ _ _ _ r h => by simp [kimberliteref04_Odd.l3] at h⟩
  | k + 1 => by
    obtain ⟨ih0, ih1, ih2, ih3⟩ := kimberliteref04_Odd.mono_l k
    refine ⟨?_, ?_, ?_, ?_⟩
    · intro y0 y1 y2 y3 y4
      unfold kimberliteref04_Odd.l0
      repeat' first
      | (with_reducible exact ih0 _ _ _ _ _)
      | (with_reducible exact ih1 _ _ _ _ _)
      | (with_reducible exact ih2 _ _ _ _ _ _ _)
      | (with_reducible exact ih3 _ _ _ _ _ _ _ _)
      | (with_reducible exact kimberliteref04_Near.mono _ _ _)
      | (with_reducible exact LeO.refl _)
      | (with_reducible exact LeO.none _)
      | (with_reducible refine LeO.ite ?_ ?_)
      | (with_reducible refine LeO.bind ?_ (fun _ => ?_))
      | exact ih0 _ _ _ _ _
      | exact ih1 _ _ _ _ _
      | exact ih2 _ _ _ _ _ _ _
      | exact ih3 _ _ _ _ _ _ _ _
      | exact kimberliteref04_Near.mono _ _ _
      | exact LeO.none _
      | refine LeO.ite ?_ ?_
      | refine LeO.bind ?_ (fun _ => ?_)
    · intro y0 y1 y2 y3 y4
      unfold kimberliteref04_Odd.l1
      repeat' first
      | (with_reducible exact ih0 _ _ _ _ _)
      | (with_reducible exact ih1 _ _ _ _ _)
      | (with_reducible exact ih2 _ _ _ _ _ _ _)
      | (with_reducible exact ih3 _ _ _ _ _ _ _ _)
      | (with_reducible exact kimberliteref04_Near.mono _ _ _)
      | (with_reducible exact LeO.refl _)
      | (with_reducible exact LeO.none _)
      | (with_reducible refine LeO.ite ?_ ?_)
      | (with_reducible refine LeO.bind ?_ (fun _ => ?_))
      | exact ih0 _ _ _ _ _
      | exact ih1 _ _ _ _ _
      | exact ih2 _ _ _ _ _ _ _
      | exact ih3 _ _ _ _ _ _ _ _
      | exact kimberliteref04_Near.mono _ _ _
      | exact LeO.none _
      | refine LeO.ite ?_ ?_
      | refine LeO.bind ?_ (fun _ => ?_)
    · intro y0 y1 y2 y3 y4 y5 y6
      unfold kimberliteref04_Odd.l2
      repeat' first
      | (with_reducible exact ih0 _ _ _ _ _)
      | (with_reducible exact ih1 _ _ _ _ _)
      | (with_reducible exact ih2 _ _ _ _ _ _ _)
      | (with_reducible exact ih3 _ _ _ _ _ _ _ _)
      | (with_reducible exact kimberliteref04_Near.mono _ _ _)
      | (with_reducible exact LeO.refl _)
      | (with_reducible exact LeO.none _)
      | (with_reducible refine LeO.ite ?_ ?_)
      | (with_reducible refine LeO.bind ?_ (fun _ => ?_))
      | exact ih0 _ _ _ _ _
      | exact ih1 _ _ _ _ _
      | exact ih2 _ _ _ _ _ _ _
      | exact ih3 _ _ _ _ _ _ _ _
      | exact kimberliteref04_Near.mono _ _ _
      | exact LeO.none _
      | refine LeO.ite ?_ ?_
      | refine LeO.bind ?_ (fun _ => ?_)
    · intro y0 y1 y2 y3 y4 y5 y6 y7
      unfold kimberliteref04_Odd.l3
      repeat' first
      | (with_reducible exact ih0 _ _ _ _ _)
      | (with_reducible exact ih1 _ _ _ _ _)
      | (with_reducible exact ih2 _ _ _ _ _ _ _)
      | (with_reducible exact ih3 _ _ _ _ _ _ _ _)
      | (with_reducible exact kimberliteref04_Near.mono _ _ _)
      | (with_reducible exact LeO.refl _)
      | (with_reducible exact LeO.none _)
      | (with_reducible refine LeO.ite ?_ ?_)
      | (with_reducible refine LeO.bind ?_ (fun _ => ?_))
      | exact ih0 _ _ _ _ _
      | exact ih1 _ _ _ _ _
      | exact ih2 _ _ _ _ _ _ _
      | exact ih3 _ _ _ _ _ _ _ _
      | exact kimberliteref04_Near.mono _ _ _
      | exact LeO.none _
      | refine LeO.ite ?_ ?_
      | refine LeO.bind ?_ (fun _ => ?_)
theorem kimberliteref04_Odd.mono : ∀ a0 a1 a2 k, LeO (kimberliteref04_Odd.f k a0 a1 a2) (kimberliteref04_Odd.f (k + 1) a0 a1 a2) := by
  intro a0 a1 a2 k
  obtain ⟨ih0, ih1, ih2, ih3⟩ := kimberliteref04_Odd.mono_l k
  unfold kimberliteref04_Odd.f
  repeat' first
      | (with_reducible exact ih0 _ _ _ _ _)
      | (with_reducible exact ih1 _ _ _ _ _)
      | (with_reducible exact ih2 _ _ _ _ _ _ _)
      | (with_reducible exact ih3 _ _ _ _ _ _ _ _)
      | (with_reducible exact kimberliteref04_Near.mono _ _ _)
      | (with_reducible exact LeO.refl _)
      | (with_reducible exact LeO.none _)
      | (with_reducible refine LeO.ite ?_ ?_)
      | (with_reducible refine LeO.bind ?_ (fun _ => ?_))
      | exact ih0 _ _ _ _ _
      | exact ih1 _ _ _ _ _
      | exact ih2 _ _ _ _ _ _ _
      | exact ih3 _ _ _ _ _ _ _ _
      | exact kimberliteref04_Near.mono _ _ _
      | exact LeO.none _
      | refine LeO.ite ?_ ?_
      | refine LeO.bind ?_ (fun _ => ?_)
set_option maxHeartbeats 8000000 in
set_option maxRecDepth 100000 in
theorem kimberliteref04_Odd.calls (k : Nat) (a0 : Int) (A1 : Option Addr) (c1 : Nat) (l1 : List (S41)) (A2 : Option Addr) (c2 : Nat) (l2 : List Int) (r : Int) (w : World) (hr1 : Kd.C k41 w A1 l1.length l1) (hc1 : l1.length ≤ c1) (hr2 : Kd.C (Kd.int .i64) w A2 l2.length l2) (hc2 : l2.length ≤ c2) (h : kimberliteref04_Odd.f k a0 l1 l2 = some r) :
    Calls Try.prog 33 #[.int .i64 a0, .slice A1 l1.length c1, .slice A2 l2.length c2] w fun e w' => e = .returned (.int .i64 r) ∧ Below w.heap.size w w' := by
  have HR1 := Aside0.mk hr1
  have HC1 := Aside0.mk hc1
  clear hr1 hc1
  have HR2 := Aside0.mk hr2
  have HC2 := Aside0.mk hc2
  clear hr2 hc2
  have HB := Aside0.mk (Below.refl w.heap.size w)
  have H : ((kimberliteref04_Near.f k a0 l1).bind fun t472 => (if 0 ≤ a0 then (if (a0 : Int).toNat ≤ 281474976710656 then (kimberliteref04_Odd.l0 k a0 l2 t472 (List.replicate (a0 : Int).toNat false) 0) else (none)) else (none))) = some r := h
  clear h
  replace H := Option.bind_eq_some_iff.mp H
  obtain ⟨t472, A40, H⟩ := H
  replace H : (if 0 ≤ a0 then (if (a0 : Int).toNat ≤ 281474976710656 then (kimberliteref04_Odd.l0 k a0 l2 t472 (List.replicate (a0 : Int).toNat false) 0) else (none)) else (none)) = some r := H
  have A4 := Aside0.mk A40
  clear A40
  by_cases c5 : 0 ≤ a0
  · rw [if_pos c5] at H
    have c5b0 := eq_true c5
    have c5b1 : decide (0 ≤ a0) = true := decide_eq_true c5
    clear c5
    by_cases c6 : (a0 : Int).toNat ≤ 281474976710656
    · rw [if_pos c6] at H
      have c6b0 := eq_true c6
      have c6b1 : decide ((a0 : Int).toNat ≤ 281474976710656) = true := decide_eq_true c6
      clear c6
      obtain ⟨y475, hy475⟩ : ∃ y_ : List Bool, y_ = (List.replicate (a0 : Int).toNat false) := ⟨_, rfl⟩
      replace H : (kimberliteref04_Odd.l0 k a0 l2 t472 y475 0) = some r := by first | (rw [hy475]; with_reducible exact H) | (have H2_ := (Option.bind_some _ _).symm.trans H; rw [hy475]; with_reducible exact H2_) | (have H2_ := (Option.bind_some _ _).symm.trans H; with_reducible exact H2_) | with_reducible exact H | (rw [hy475]; exact H) | exact H
      have Ny475 := Aside0.mk hy475
      clear hy475
      have H' := Aside0.mk H
      clear H
      go_enter Try.func33, Try.ntmps33
      go_wp2_with (first | ((with_reducible refine gate_callee (f := 21) rfl ?_); refine goesL_ (some 17) rfl rfl Try.func21 (by kernel_rfl) rfl #[.int .i64 a0, .slice A1 l1.length c1] rfl (by (try simp only [List.map_toArray, List.map_cons, List.map_nil]); first | done | rfl | (simp only [List.length_drop, List.length_take]; rfl)) ?_; (with_reducible refine (kimberliteref04_Near.calls k a0 _ _ l1 t472 _ ?side1 ?side2 A4.out).mono ?_); (case side1 => repeat (first | exact HR1.out | (with_reducible refine Kd.C_alloc ?_ _) | (with_reducible refine Kd.C_drewN ?_ _) | (with_reducible refine Kd.C_drew ?_))); (case side2 => exact HC1.out); rintro e w7 ⟨v473, rfl, ho0, hb⟩; refine ⟨_, rfl, ?_⟩; have n0_ := Aside0.mk (Kd.S_lower ho0 (below_size (by repeat (first | (with_reducible first | exact HB.out | apply below_alloc | apply pw_below_drewN | apply below_drew1) | exact HB.out)))); have n1_ := Aside0.mk (below_step (by repeat (first | (with_reducible first | exact HB.out | apply below_alloc | apply pw_below_drewN | apply below_drew1) | exact HB.out)) hb); clear HB; have HO474 := n0_; have HB := n1_; clear n0_ n1_; (try clear hb); (try clear hb2); (try clear hk); (try clear hi); (try clear ho0)) | ((with_reducible refine gate_dst (N := 19) rfl ?_); refine Kd.R_make Kd.bool _ 4 rfl (N := 19) rfl 39 _ _ rfl a0 rfl rfl Try.underlying39 (.bool false) 1 info4 rfl (by decide) (by omega) false (ok := fun _ => True) (okp := fun _ => True) rfl (fun _ hk => hk) trivial (of_decide_eq_true (by first | (with_reducible assumption) | assumption)) (Nat.le_trans (Nat.mul_le_mul_right _ (of_decide_eq_true (by first | (with_reducible assumption) | assumption) : a0.toNat ≤ 281474976710656)) (by omega)) (Below.refl _ _) (Nat.le_refl _) ?_; intro v476 w8 ho9 hb hg_ hnew_; clear hg_ hnew_; (first | rw [← Ny475.out] at ho9 | (simp only [Int.reduceToNat] at ho9; rw [← Ny475.out] at ho9)); have n0_ := Aside0.mk (Kd.S_elder' (by (with_reducible repeat (first | apply Kd.S_alloc | apply Kd.S_drewN | apply Kd.S_drew)); exact HO474.out) (Kd.R_base ho9) hb); have n1_ := Aside0.mk (Kd.R_lower ho9 (below_size (by repeat (first | (with_reducible first | exact HB.out | apply below_alloc | apply pw_below_drewN | apply below_drew1) | exact HB.out)))); have n2_ := Aside0.mk (below_step (by repeat (first | (with_reducible first | exact HB.out | apply below_alloc | apply pw_below_drewN | apply below_drew1) | exact HB.out)) hb); clear HO474; clear HB; have HO474 := n0_; have HO477 := n1_; have HB := n2_; clear n0_ n1_ n2_; clear hb ho9))
      go_loopg [9] k (fun kq v9 w' => ∃ (x8_1 : List Bool) (x9_1 : Int), v9 = .int .i64 x9_1 ∧ Aside0 (kimberliteref04_Odd.l0 kq a0 l2 t472 x8_1 x9_1 = some r) ∧ Aside0 (kq ≤ k) ∧ Aside0 (Kd.S (Kd.slice 4 Kd.bool) 39 w' w.heap.size (fun k_ => some k_ ≠ (v476 : Value).ownBlock) v473 t472) ∧ Aside0 (Kd.R Kd.bool 4 w' w.heap.size (fun _ => True) v476 x8_1) ∧ Aside0 (Below w.heap.size w w'))
      case atStart => exact ⟨(y475), (0), (by first | rfl | (simp; done) | (simp [*]; done)), H', ⟨Nat.le_refl _⟩, ⟨by (with_reducible repeat (first | apply Kd.S_alloc | apply Kd.S_drewN | apply Kd.S_drew)); exact Kd.S_mono HO474.out (fun _ hk => hk.2)⟩, ⟨by (with_reducible repeat (first | apply Kd.R_alloc | apply Kd.R_drewN | apply Kd.R_drew)); exact HO477.out⟩, ⟨by repeat (first | (with_reducible first | exact HB.out | apply below_alloc | apply pw_below_drewN | apply below_drew1) | exact HB.out)⟩⟩
      case round =>
        clear H'
        try clear c1
        try clear c2
        try clear p2
        try clear c3
        try clear c5
        try clear c5b0
        try clear c5b1
        try clear c6
        try clear c6b0
        try clear c6b1
        obtain ⟨x8_1, x9_1, rfl, HA, HK1, HO_7, HO_8, HB⟩ := hrel
        cases gk with
        | zero => exact absurd HA.out (by simp [kimberliteref04_Odd.l0])
        | succ k1 =>
          have H := HA.out
          clear HA
          simp only [kimberliteref04_Odd.l0] at H
          by_cases c10 : x9_1 < (l2.length : Int)
          · rw [if_pos c10] at H
            have c10b0 : decide (x9_1 < (l2.length : Int)) = true := decide_eq_true c10
            clear c10
            by_cases c11 : 0 ≤ x9_1
            · rw [if_pos c11] at H
              have c11b0 : decide (0 ≤ x9_1) = true := decide_eq_true c11
              clear c11
              by_cases c12 : 0 ≤ (rd l2 x9_1)
              · rw [if_pos c12] at H
                have c12b0 : decide (0 ≤ (rd l2 x9_1)) = true := decide_eq_true c12
                clear c12
                by_cases c13 : (rd l2 x9_1) < (x8_1.length : Int)
                · rw [if_pos c13] at H
                  have c13b0 : decide ((rd l2 x9_1) < (x8_1.length : Int)) = true := decide_eq_true c13
                  clear c13
                  obtain ⟨y479, hy479⟩ : ∃ y_ : List Bool, y_ = (x8_1.set ((rd l2 x9_1) : Int).toNat true) := ⟨_, rfl⟩
                  replace H : (kimberliteref04_Odd.l0 k1 a0 l2 t472 y479 (wrap64 (x9_1 + 1))) = some r := by first | (rw [hy479]; with_reducible exact H) | (have H2_ := (Option.bind_some _ _).symm.trans H; rw [hy479]; with_reducible exact H2_) | (have H2_ := (Option.bind_some _ _).symm.trans H; with_reducible exact H2_) | with_reducible exact H | (rw [hy479]; exact H) | exact H
                  have Ny479 := Aside0.mk hy479
                  clear hy479
                  have H' := Aside0.mk H
                  clear H
                  have p478 : 0 ≤ (x9_1 : Int) := of_decide_eq_true (by first | (with_reducible assumption) | assumption)
                  have q478 : x9_1 < (l2.length : Int) := of_decide_eq_true (by first | (with_reducible assumption) | assumption)
                  obtain ⟨ad478, e478, hx478_0⟩ := Kd.at_int HR2.out x9_1 p478 q478
                  cases e478
                  replace hx478_0 := (HB.out.cell (World.block_lt_of_cell? w _ hx478_0)).trans hx478_0
                  replace p478 := eq_true p478
                  replace q478 := eq_true q478
                  have p14 : 0 ≤ ((rd l2 x9_1) : Int) := of_decide_eq_true (by first | (with_reducible assumption) | assumption)
                  have q14 : ((rd l2 x9_1) : Int) < ((x8_1.length : Int) : Int) := of_decide_eq_true (by first | (with_reducible assumption) | assumption)
                  obtain ⟨go14, co14, eo14, gb14, gl14, cl14, HG14⟩ := Kd.R_form HO_8.out (by omega)
                  (first | cases eo14 | (injection eo14 with ea_ en_ ec_; (first | subst ea_ | (injection ea_ with ea_; subst ea_)); subst ec_; clear en_))
                  have GB14 := Aside0.mk gb14
                  have GG14 := Aside0.mk HG14
                  clear gb14 gl14 HG14
                  obtain ⟨hx14_0, hf14_0⟩ := Kd.R_celln false HO_8.out ((rd l2 x9_1) : Int) p14 q14
                  replace p14 := eq_true p14
                  replace q14 := eq_true q14
                  have HP15 := Kd.R_putg HO_8.out ((rd l2 x9_1) : Int) true
                  go_wp2_with (first | ((with_reducible refine gate_store (t := 4) (p := 31) rfl ?_); refine store_event (t := 4) (p := 31) (v := ?vo_w16) (w1 := (wr.setCell ⟨go14, ((rd l2 x9_1) : Int).toNat, none⟩ (.bool true))) ?hg ?ho ?hn ?hr ?_; (case ho => rfl); (case hg => rfl); (case hn => rfl); (case hr => first | (go_simp; done) | (go_simp; rfl)); intro w16 hw; have hg : wr.grownBy w16 (some go14) := (by rw [hw]; exact HP15.2); have hp_ : Kd.R Kd.bool 4 w16 w.heap.size (fun _ => True) (.slice (some ⟨go14, 0, none⟩) x8_1.length co14) y479 := (by rw [hw, Ny479.out]; exact HP15.1); clear HP15; have n0_ := Aside0.mk (Kd.S_after (v := (.slice (some ⟨go14, 0, none⟩) x8_1.length co14)) (v1 := (.slice (some ⟨go14, 0, none⟩) x8_1.length co14)) (ok := (fun _ => True)) (by (with_reducible repeat (first | apply Kd.S_alloc | apply Kd.S_drewN | apply Kd.S_drew)); exact Kd.S_mono HO_7.out (fun _ hk => ⟨trivial, hk⟩)) hg (.inl rfl)); have n1_ := Aside0.mk (hp_); have n2_ := Aside0.mk ((by rw [hw]; exact below_set (HB.out) GB14.out : Below w.heap.size w w16)); clear HO_7; clear HO_8; clear HB; have HO_7 := n0_; have HO_8 := n1_; have HB := n2_; clear n0_ n1_ n2_; clear hg hw hp_))
                  go_roundg k1
                  case measure => have := HK1.out; omega
                  case rel => exact ⟨(y479), (wrap64 (x9_1 + 1)), (by first | rfl | (simp; done) | (simp [*]; done)), H', ⟨by have := HK1.out; omega⟩, ⟨by (with_reducible repeat (first | apply Kd.S_alloc | apply Kd.S_drewN | apply Kd.S_drew)); exact Kd.S_mono HO_7.out (fun _ hk => hk.2)⟩, ⟨by (with_reducible repeat (first | apply Kd.R_alloc | apply Kd.R_drewN | apply Kd.R_drew)); exact HO_8.out⟩, ⟨by repeat (first | (with_reducible first | exact HB.out | apply below_alloc | apply pw_below_drewN | apply below_drew1) | exact HB.out)⟩⟩
                · rw [if_neg c13] at H
                  exact absurd H (by simp)
              · rw [if_neg c12] at H
                exact absurd H (by simp)
            · rw [if_neg c11] at H
              exact absurd H (by simp)
          · rw [if_neg c10] at H
            have c10b0 : decide (x9_1 < (l2.length : Int)) = false := decide_eq_false c10
            clear c10
            have H' := Aside0.mk H
            clear H
            go_wp2
            go_loopg [10, 11] k1 (fun kq v10 v11 w' => ∃ (x8_2 : List Bool) (x10_2 : Int) (x11_2 : Int), v10 = .int .i64 x10_2 ∧ v11 = .int .i64 x11_2 ∧ Aside0 (kimberliteref04_Odd.l1 kq a0 t472 x8_2 x10_2 x11_2 = some r) ∧ Aside0 (kq ≤ k1) ∧ Aside0 (Kd.S (Kd.slice 4 Kd.bool) 39 w' w.heap.size (fun k_ => some k_ ≠ (v476 : Value).ownBlock) v473 t472) ∧ Aside0 (Kd.R Kd.bool 4 w' w.heap.size (fun _ => True) v476 x8_2) ∧ Aside0 (Below w.heap.size w w'))
            case atStart => exact ⟨(x8_1), (0), (0), (by first | rfl | (simp; done) | (simp [*]; done)), (by first | rfl | (simp; done) | (simp [*]; done)), H', ⟨Nat.le_refl _⟩, ⟨by (with_reducible repeat (first | apply Kd.S_alloc | apply Kd.S_drewN | apply Kd.S_drew)); exact HO_7.out⟩, ⟨by (with_reducible repeat (first | apply Kd.R_alloc | apply Kd.R_drewN | apply Kd.R_drew)); exact HO_8.out⟩, ⟨by repeat (first | (with_reducible first | exact HB.out | apply below_alloc | apply pw_below_drewN | apply below_drew1) | exact HB.out)⟩⟩
            case round =>
              clear H'
              try clear c1
              try clear p1
              try clear q1
              try clear hx1
              try clear c2
              try clear p2
              try clear c3
              try clear p4
              try clear q4
              try clear hx4
              try clear c5
              try clear c5b0
              try clear c5b1
              try clear c6
              try clear c6b0
              try clear c6b1
              try clear p6
              try clear c10
              try clear c10b0
              try clear c11
              try clear c11b0
              try clear c12
              try clear c12b0
              try clear c13
              try clear c13b0
              try clear p14
              try clear q14
              try clear hx14
              try clear hf14
              try clear hx14_0
              try clear hx478_0
              try clear p14
              try clear p2
              try clear p478
              try clear q14
              try clear q478
              obtain ⟨x8_2, x10_2, x11_2, rfl, rfl, HA, HK2, HO_7, HO_8, HB⟩ := hrel
              cases gk with
              | zero => exact absurd HA.out (by simp [kimberliteref04_Odd.l1])
              | succ k2 =>
                have H := HA.out
                clear HA
                simp only [kimberliteref04_Odd.l1] at H
                by_cases c17 : x11_2 < a0
                · rw [if_pos c17] at H
                  have c17b0 : decide (x11_2 < a0) = true := decide_eq_true c17
                  clear c17
                  by_cases c18 : 0 ≤ x11_2
                  · rw [if_pos c18] at H
                    have c18b0 : decide (0 ≤ x11_2) = true := decide_eq_true c18
                    clear c18
                    by_cases c19 : x11_2 < (x8_2.length : Int)
                    · rw [if_pos c19] at H
                      have c19b0 : decide (x11_2 < (x8_2.length : Int)) = true := decide_eq_true c19
                      clear c19
                      obtain ⟨bq20, hbq20⟩ : ∃ b_ : Bool, b_ = (rdOf false x8_2 x11_2) := ⟨_, rfl⟩
                      replace H : (if bq20 = true then (kimberliteref04_Odd.l1 k2 a0 t472 x8_2 x10_2 (wrap64 (x11_2 + 1))) else (kimberliteref04_Odd.l2 k2 a0 t472 (x8_2.set (x11_2 : Int).toNat true) x10_2 x11_2 (([x11_2] : List Int)) 0)) = some r := by rw [← hbq20] at H; exact H
                      have Nbq20 := Aside0.mk hbq20
                      clear hbq20
                      by_cases c21 : bq20 = true
                      · subst c21
                        have H1 : (kimberliteref04_Odd.l1 k2 a0 t472 x8_2 x10_2 (wrap64 (x11_2 + 1))) = some r := by rw [if_pos rfl] at H; exact H
                        clear H
                        have H := H1
                        clear H1
                        have H' := Aside0.mk H
                        clear H
                        obtain ⟨Ao22, co22, eo22⟩ := Kd.R_slice HO_8.out
                        subst eo22
                        have p480 : 0 ≤ (x11_2 : Int) := of_decide_eq_true (by first | (with_reducible assumption) | assumption)
                        have q480 : x11_2 < (x8_2.length : Int) := of_decide_eq_true (by first | (with_reducible assumption) | assumption)
                        obtain ⟨ad480, e480, hx480_0⟩ := Kd.at_bool (Kd.R_reads' HO_8.out).2.2 x11_2 p480 q480
                        (try rw [← Nbq20.out] at hx480_0)
                        cases e480
                        replace p480 := eq_true p480
                        replace q480 := eq_true q480
                        go_wp2
                        go_roundg k2
                        case measure => have := HK1.out; have := HK2.out; omega
                        case rel => exact ⟨(x8_2), (x10_2), (wrap64 (x11_2 + 1)), (by first | rfl | (simp; done) | (simp [*]; done)), (by first | rfl | (simp; done) | (simp [*]; done)), H', ⟨by have := HK1.out; have := HK2.out; omega⟩, ⟨by (with_reducible repeat (first | apply Kd.S_alloc | apply Kd.S_drewN | apply Kd.S_drew)); exact HO_7.out⟩, ⟨by (with_reducible repeat (first | apply Kd.R_alloc | apply Kd.R_drewN | apply Kd.R_drew)); exact HO_8.out⟩, ⟨by repeat (first | (with_reducible first | exact HB.out | apply below_alloc | apply pw_below_drewN | apply below_drew1) | exact HB.out)⟩⟩
                      · replace c21 := Bool.eq_false_iff.mpr c21
                        subst c21
                        have H1 : (kimberliteref04_Odd.l2 k2 a0 t472 (x8_2.set (x11_2 : Int).toNat true) x10_2 x11_2 (([x11_2] : List Int)) 0) = some r := by rw [if_neg (show ¬ (false = true) by decide)] at H; exact H
                        clear H
                        have H := H1
                        clear H1
                        obtain ⟨y481, hy481⟩ : ∃ y_ : List Int, y_ = (([x11_2] : List Int)) := ⟨_, rfl⟩
                        replace H : (kimberliteref04_Odd.l2 k2 a0 t472 (x8_2.set (x11_2 : Int).toNat true) x10_2 x11_2 y481 0) = some r := by first | (rw [hy481]; with_reducible exact H) | (have H2_ := (Option.bind_some _ _).symm.trans H; rw [hy481]; with_reducible exact H2_) | (have H2_ := (Option.bind_some _ _).symm.trans H; with_reducible exact H2_) | with_reducible exact H | (rw [hy481]; exact H) | exact H
                        have Ny481 := Aside0.mk hy481
                        clear hy481
                        obtain ⟨y484, hy484⟩ : ∃ y_ : List Bool, y_ = (x8_2.set (x11_2 : Int).toNat true) := ⟨_, rfl⟩
                        replace H : (kimberliteref04_Odd.l2 k2 a0 t472 y484 x10_2 x11_2 y481 0) = some r := by first | (rw [hy484]; with_reducible exact H) | (have H2_ := (Option.bind_some _ _).symm.trans H; rw [hy484]; with_reducible exact H2_) | (have H2_ := (Option.bind_some _ _).symm.trans H; with_reducible exact H2_) | with_reducible exact H | (rw [hy484]; exact H) | exact H
                        have Ny484 := Aside0.mk hy484
                        clear hy484
                        have H' := Aside0.mk H
                        clear H
                        obtain ⟨Ao24, co24, eo24⟩ := Kd.R_slice HO_8.out
                        subst eo24
                        have p480 : 0 ≤ (x11_2 : Int) := of_decide_eq_true (by first | (with_reducible assumption) | assumption)
                        have q480 : x11_2 < (x8_2.length : Int) := of_decide_eq_true (by first | (with_reducible assumption) | assumption)
                        obtain ⟨ad480, e480, hx480_0⟩ := Kd.at_bool (Kd.R_reads' HO_8.out).2.2 x11_2 p480 q480
                        (try rw [← Nbq20.out] at hx480_0)
                        cases e480
                        replace p480 := eq_true p480
                        replace q480 := eq_true q480
                        go_wp2_with (first | ((with_reducible refine gate_dst (N := 42) rfl ?_); refine Kd.R_lit (Kd.int .i64) _ 3 ?hg (N := 42) ?hd (xs := ([x11_2] : List Int)) (inner := [.int .i64 x11_2]) (ok := fun _ => True) (okp := fun _ => True) ?hr ?hp (fun _ hk => hk) trivial (Below.refl _ _) (Nat.le_refl _) (by simp) ?_; (case hd => rfl); (case hg => rfl); (case hr => first | (go_simp; done) | (go_simp; rfl)); (case hp => exact (Reps.one (show Kd.M (Kd.int .i64) _ _ _ x11_2 [.int .i64 x11_2] from rfl) (Reps.none _ _))); intro v482 w25 ho26 hb hg_ hnew_; clear hg_ hnew_; (first | rw [← Ny481.out] at ho26 | (simp only [Int.reduceToNat] at ho26; rw [← Ny481.out] at ho26)); have n0_ := Aside0.mk (Kd.S_below (by (with_reducible repeat (first | apply Kd.S_alloc | apply Kd.S_drewN | apply Kd.S_drew)); exact HO_7.out) hb); have n1_ := Aside0.mk (Kd.R_below (by (with_reducible repeat (first | apply Kd.R_alloc | apply Kd.R_drewN | apply Kd.R_drew)); exact HO_8.out) hb); have n2_ := Aside0.mk (Kd.R_lower ho26 (below_size (by repeat (first | (with_reducible first | exact HB.out | apply below_alloc | apply pw_below_drewN | apply below_drew1) | exact HB.out)))); have n3_ := Aside0.mk (below_step (by repeat (first | (with_reducible first | exact HB.out | apply below_alloc | apply pw_below_drewN | apply below_drew1) | exact HB.out)) hb); clear HO_7; clear HO_8; clear HB; have HO_7 := n0_; have HO_8 := n1_; have HO483 := n2_; have HB := n3_; clear n0_ n1_ n2_ n3_; clear hb ho26; have p23 : 0 ≤ (x11_2 : Int) := of_decide_eq_true (by first | (with_reducible assumption) | assumption); have q23 : (x11_2 : Int) < ((x8_2.length : Int) : Int) := of_decide_eq_true (by first | (with_reducible assumption) | assumption); obtain ⟨go23, co23, eo23, gb23, gl23, cl23, HG23⟩ := Kd.R_form HO_8.out (by omega); (first | cases eo23 | (injection eo23 with ea_ en_ ec_; (first | subst ea_ | (injection ea_ with ea_; subst ea_)); subst ec_; clear en_)); have GB23 := Aside0.mk gb23; have GG23 := Aside0.mk HG23; clear gb23 gl23 HG23; (first | simp only [add_plain] at hx480_0 | skip); obtain ⟨hx23_0, hf23_0⟩ := Kd.R_celln false HO_8.out (x11_2 : Int) p23 q23; replace p23 := eq_true p23; replace q23 := eq_true q23; obtain ⟨hy27_, hz27_⟩ := Kd.R_celln false HO_8.out (x11_2 : Int) (of_decide_eq_true (by first | (with_reducible assumption) | assumption)) (of_decide_eq_true (by first | (with_reducible assumption) | assumption)); have HP27 := Kd.R_putg HO_8.out (x11_2 : Int) true) | ((with_reducible refine gate_store (t := 4) (p := 45) rfl ?_); refine store_event (t := 4) (p := 45) (v := ?vo_w28) (w1 := (w25.setCell ⟨go23, (x11_2 : Int).toNat, none⟩ (.bool true))) ?hg ?ho ?hn ?hr ?_; (case ho => rfl); (case hg => rfl); (case hn => rfl); (case hr => first | (go_simp; done) | (go_simp; rfl)); intro w28 hw; have hg : w25.grownBy w28 (some go23) := (by rw [hw]; exact HP27.2); have hp_ : Kd.R Kd.bool 4 w28 w.heap.size (fun _ => True) (.slice (some ⟨go23, 0, none⟩) x8_2.length co24) y484 := (by rw [hw, Ny484.out]; exact HP27.1); clear HP27; have n0_ := Aside0.mk (Kd.S_after (v := (.slice (some ⟨go23, 0, none⟩) x8_2.length co24)) (v1 := (.slice (some ⟨go23, 0, none⟩) x8_2.length co24)) (ok := (fun _ => True)) (by (with_reducible repeat (first | apply Kd.S_alloc | apply Kd.S_drewN | apply Kd.S_drew)); exact Kd.S_mono HO_7.out (fun _ hk => ⟨trivial, hk⟩)) hg (.inl rfl)); have n1_ := Aside0.mk (hp_); have n2_ := Aside0.mk (Kd.R_over' (v := (.slice (some ⟨go23, 0, none⟩) x8_2.length co24)) (by (with_reducible repeat (first | apply Kd.R_alloc | apply Kd.R_drewN | apply Kd.R_drew)); exact HO483.out) (Kd.R_typed HO_8.out) (by decide) hg); have n3_ := Aside0.mk ((by rw [hw]; exact below_set (HB.out) GB23.out : Below w.heap.size w w28)); clear HO_7; clear HO_8; clear HO483; clear HB; have HO_7 := n0_; have HO_8 := n1_; have HO483 := n2_; have HB := n3_; clear n0_ n1_ n2_ n3_; clear hg hw hp_))
                        go_loopg [12, 13] k2 (fun kq v12 v13 w' => ∃ (x8_3 : List Bool) (x12_3 : List Int) (x13_3 : Int), v13 = .int .i64 x13_3 ∧ Aside0 (kimberliteref04_Odd.l2 kq a0 t472 x8_3 x10_2 x11_2 x12_3 x13_3 = some r) ∧ Aside0 (kq ≤ k2) ∧ Aside0 (Kd.S (Kd.slice 4 Kd.bool) 39 w' w.heap.size (fun k_ => some k_ ≠ ((.slice (some ⟨go23, 0, none⟩) x8_2.length co24) : Value).ownBlock) v473 t472) ∧ Aside0 (Kd.R Kd.bool 4 w' w.heap.size (fun _ => True) (.slice (some ⟨go23, 0, none⟩) x8_2.length co24) x8_3) ∧ Aside0 (Kd.R (Kd.int .i64) 3 w' w.heap.size (fun _ => True) v12 x12_3) ∧ Aside0 (Below w.heap.size w w'))
                        case atStart => exact ⟨(y484), (y481), (0), (by first | rfl | (simp; done) | (simp [*]; done)), H', ⟨Nat.le_refl _⟩, ⟨by (with_reducible repeat (first | apply Kd.S_alloc | apply Kd.S_drewN | apply Kd.S_drew)); exact Kd.S_mono HO_7.out (fun _ hk => hk.2)⟩, ⟨by (with_reducible repeat (first | apply Kd.R_alloc | apply Kd.R_drewN | apply Kd.R_drew)); exact HO_8.out⟩, ⟨by (with_reducible repeat (first | apply Kd.R_alloc | apply Kd.R_drewN | apply Kd.R_drew)); exact HO483.out⟩, ⟨by repeat (first | (with_reducible first | exact HB.out | apply below_alloc | apply pw_below_drewN | apply below_drew1) | exact HB.out)⟩⟩
                        case round =>
                          clear H'
                          try clear c1
                          try clear p1
                          try clear q1
                          try clear hx1
                          try clear c2
                          try clear p2
                          try clear q2
                          try clear hx2
                          try clear c3
                          try clear p4
                          try clear q4
                          try clear hx4
                          try clear c5
                          try clear c5b0
                          try clear c5b1
                          try clear c6
                          try clear c6b0
                          try clear c6b1
                          try clear p6
                          try clear c10
                          try clear c10b0
                          try clear c11
                          try clear c11b0
                          try clear c12
                          try clear c12b0
                          try clear c13
                          try clear c13b0
                          try clear p14
                          try clear q14
                          try clear hx14
                          try clear hf14
                          try clear c17
                          try clear c17b0
                          try clear c18
                          try clear c18b0
                          try clear c19
                          try clear c19b0
                          try clear q20
                          try clear c21
                          try clear p23
                          try clear q23
                          try clear hx23
                          try clear hf23
                          try clear hx14_0
                          try clear hx23_0
                          try clear hx478_0
                          try clear hx480_0
                          try clear p1
                          try clear p14
                          try clear p2
                          try clear p23
                          try clear p4
                          try clear p478
                          try clear p480
                          try clear p6
                          try clear q1
                          try clear q14
                          try clear q23
                          try clear q4
                          try clear q478
                          try clear q480
                          obtain ⟨x8_3, x12_3, x13_3, rfl, HA, HK3, HO_7, HO_8, HO_12, HB⟩ := hrel
                          have hl8_3 := (Kd.R_reads' HO_8.out).1
                          rw [hl8_3] at HO_8
                          (try simp only [hl8_3])
                          (try simp only [hl8_3] at HO_7)
                          (try simp only [hl8_3] at HO_12)
                          cases gk with
                          | zero => exact absurd HA.out (by simp [kimberliteref04_Odd.l2])
                          | succ k3 =>
                            have H := HA.out
                            clear HA
                            simp only [kimberliteref04_Odd.l2] at H
                            by_cases c29 : x13_3 < (x12_3.length : Int)
                            · rw [if_pos c29] at H
                              have c29b0 : decide (x13_3 < (x12_3.length : Int)) = true := decide_eq_true c29
                              clear c29
                              have H' := Aside0.mk H
                              clear H
                              obtain ⟨Ao30, co30, eo30⟩ := Kd.R_slice HO_12.out
                              subst eo30
                              go_wp2
                              go_loopg [12, 14] k3 (fun kq v12 v14 w' => ∃ (x8_4 : List Bool) (x12_4 : List Int) (x14_4 : Int), v14 = .int .i64 x14_4 ∧ Aside0 (kimberliteref04_Odd.l3 kq a0 t472 x8_4 x10_2 x11_2 x12_4 x13_3 x14_4 = some r) ∧ Aside0 (kq ≤ k3) ∧ Aside0 (Kd.S (Kd.slice 4 Kd.bool) 39 w' w.heap.size (fun k_ => some k_ ≠ ((.slice (some ⟨go23, 0, none⟩) x8_3.length co24) : Value).ownBlock) v473 t472) ∧ Aside0 (Kd.R Kd.bool 4 w' w.heap.size (fun _ => True) (.slice (some ⟨go23, 0, none⟩) x8_3.length co24) x8_4) ∧ Aside0 (Kd.R (Kd.int .i64) 3 w' w.heap.size (fun _ => True) v12 x12_4) ∧ Aside0 (Below w.heap.size w w'))
                              case atStart => exact ⟨(x8_3), (x12_3), (0), (by first | rfl | (simp; done) | (simp [*]; done)), H', ⟨Nat.le_refl _⟩, ⟨by (try simp only [hl8_3]); (with_reducible repeat (first | apply Kd.S_alloc | apply Kd.S_drewN | apply Kd.S_drew)); exact HO_7.out⟩, ⟨by (try simp only [hl8_3]); (with_reducible repeat (first | apply Kd.R_alloc | apply Kd.R_drewN | apply Kd.R_drew)); exact HO_8.out⟩, ⟨by (try simp only [hl8_3]); (with_reducible repeat (first | apply Kd.R_alloc | apply Kd.R_drewN | apply Kd.R_drew)); exact HO_12.out⟩, ⟨by repeat (first | (with_reducible first | exact HB.out | apply below_alloc | apply pw_below_drewN | apply below_drew1) | exact HB.out)⟩⟩
                              case round =>
                                clear H'
                                try clear c1
                                try clear p1
                                try clear q1
                                try clear hx1
                                try clear c2
                                try clear p2
                                try clear q2
                                try clear hx2
                                try clear c3
                                try clear p4
                                try clear q4
                                try clear hx4
                                try clear c5
                                try clear c5b0
                                try clear c5b1
                                try clear c6
                                try clear c6b0
                                try clear c6b1
                                try clear p6
                                try clear c10
                                try clear c10b0
                                try clear c11
                                try clear c11b0
                                try clear c12
                                try clear c12b0
                                try clear c13
                                try clear c13b0
                                try clear p14
                                try clear q14
                                try clear hx14
                                try clear hf14
                                try clear c17
                                try clear c17b0
                                try clear c18
                                try clear c18b0
                                try clear c19
                                try clear c19b0
                                try clear q20
                                try clear c21
                                try clear p23
                                try clear q23
                                try clear hx23
                                try clear hf23
                                try clear c29
                                try clear c29b0
                                try clear hx14_0
                                try clear hx23_0
                                try clear hx478_0
                                try clear hx480_0
                                try clear p1
                                try clear p14
                                try clear p2
                                try clear p23
                                try clear p4
                                try clear p478
                                try clear p480
                                try clear p6
                                try clear q1
                                try clear q14
                                try clear q2
                                try clear q20
                                try clear q23
                                try clear q4
                                try clear q478
                                try clear q480
                                obtain ⟨x8_4, x12_4, x14_4, rfl, HA, HK4, HO_7, HO_8, HO_12, HB⟩ := hrel
                                have hl8_4 := (Kd.R_reads' HO_8.out).1
                                rw [hl8_4] at HO_8
                                (try simp only [hl8_4])
                                (try simp only [hl8_4] at HO_7)
                                (try simp only [hl8_4] at HO_12)
                                cases gk with
                                | zero => exact absurd HA.out (by simp [kimberliteref04_Odd.l3])
                                | succ k4 =>
                                  have H := HA.out
                                  clear HA
                                  simp only [kimberliteref04_Odd.l3] at H
                                  by_cases c31 : x14_4 < a0
                                  · rw [if_pos c31] at H
                                    have c31b0 : decide (x14_4 < a0) = true := decide_eq_true c31
                                    clear c31
                                    by_cases c32 : 0 ≤ x14_4
                                    · rw [if_pos c32] at H
                                      have c32b0 : decide (0 ≤ x14_4) = true := decide_eq_true c32
                                      clear c32
                                      by_cases c33 : x14_4 < (x8_4.length : Int)
                                      · rw [if_pos c33] at H
                                        have c33b0 : decide (x14_4 < (x8_4.length : Int)) = true := decide_eq_true c33
                                        clear c33
                                        obtain ⟨bq34, hbq34⟩ : ∃ b_ : Bool, b_ = (rdOf false x8_4 x14_4) := ⟨_, rfl⟩
                                        replace H : (if bq34 = true then (kimberliteref04_Odd.l3 k4 a0 t472 x8_4 x10_2 x11_2 x12_4 x13_3 (wrap64 (x14_4 + 1))) else (if 0 ≤ x13_3 then (if x13_3 < (x12_4.length : Int) then (if 0 ≤ (rd x12_4 x13_3) then (if (rd x12_4 x13_3) < (t472.length : Int) then (if x14_4 < ((rd_L5 t472 (rd x12_4 x13_3)).length : Int) then (if rdOf false (rd_L5 t472 (rd x12_4 x13_3)) x14_4 = true then (if x12_4.length < 17592186044416 then (kimberliteref04_Odd.l3 k4 a0 t472 (x8_4.set (x14_4 : Int).toNat true) x10_2 x11_2 (x12_4 ++ [x14_4]) x13_3 (wrap64 (x14_4 + 1))) else (none)) else (kimberliteref04_Odd.l3 k4 a0 t472 x8_4 x10_2 x11_2 x12_4 x13_3 (wrap64 (x14_4 + 1)))) else (none)) else (none)) else (none)) else (none)) else (none))) = some r := by rw [← hbq34] at H; exact H
                                        have Nbq34 := Aside0.mk hbq34
                                        clear hbq34
                                        by_cases c35 : bq34 = true
                                        · subst c35
                                          have H1 : (kimberliteref04_Odd.l3 k4 a0 t472 x8_4 x10_2 x11_2 x12_4 x13_3 (wrap64 (x14_4 + 1))) = some r := by rw [if_pos rfl] at H; exact H
                                          clear H
                                          have H := H1
                                          clear H1
                                          have H' := Aside0.mk H
                                          clear H
                                          have p485 : 0 ≤ (x14_4 : Int) := of_decide_eq_true (by first | (with_reducible assumption) | assumption)
                                          have q485 : x14_4 < (x8_4.length : Int) := of_decide_eq_true (by first | (with_reducible assumption) | assumption)
                                          obtain ⟨ad485, e485, hx485_0⟩ := Kd.at_bool (Kd.R_reads' HO_8.out).2.2 x14_4 p485 q485
                                          (try rw [← Nbq20.out] at hx485_0)
                                          (try rw [← Nbq34.out] at hx485_0)
                                          obtain rfl : (⟨go23, 0, none⟩ : Addr) = ad485 := (by injection e485)
                                          (first | simp only [add_plain] at hx485_0 | simp only [add_at] at hx485_0 | simp only [Addr.add, Nat.zero_add] at hx485_0 | skip)
                                          replace p485 := eq_true p485
                                          replace q485 := eq_true q485
                                          go_wp2
                                          (try simp only [← hl8_4])
                                          go_roundg k4
                                          case measure => have := HK1.out; have := HK2.out; have := HK3.out; have := HK4.out; omega
                                          case rel => exact ⟨(x8_4), (x12_4), (wrap64 (x14_4 + 1)), (by first | rfl | (simp; done) | (simp [*]; done)), H', ⟨by have := HK1.out; have := HK2.out; have := HK3.out; have := HK4.out; omega⟩, ⟨by (try simp only [hl8_3]); (try simp only [hl8_4]); (with_reducible repeat (first | apply Kd.S_alloc | apply Kd.S_drewN | apply Kd.S_drew)); exact HO_7.out⟩, ⟨by (try simp only [hl8_3]); (try simp only [hl8_4]); (with_reducible repeat (first | apply Kd.R_alloc | apply Kd.R_drewN | apply Kd.R_drew)); exact HO_8.out⟩, ⟨by (try simp only [hl8_3]); (try simp only [hl8_4]); (with_reducible repeat (first | apply Kd.R_alloc | apply Kd.R_drewN | apply Kd.R_drew)); exact HO_12.out⟩, ⟨by repeat (first | (with_reducible first | exact HB.out | apply below_alloc | apply pw_below_drewN | apply below_drew1) | exact HB.out)⟩⟩
                                        · replace c35 := Bool.eq_false_iff.mpr c35
                                          subst c35
                                          have H1 : (if 0 ≤ x13_3 then (if x13_3 < (x12_4.length : Int) then (if 0 ≤ (rd x12_4 x13_3) then (if (rd x12_4 x13_3) < (t472.length : Int) then (if x14_4 < ((rd_L5 t472 (rd x12_4 x13_3)).length : Int) then (if rdOf false (rd_L5 t472 (rd x12_4 x13_3)) x14_4 = true then (if x12_4.length < 17592186044416 then (kimberliteref04_Odd.l3 k4 a0 t472 (x8_4.set (x14_4 : Int).toNat true) x10_2 x11_2 (x12_4 ++ [x14_4]) x13_3 (wrap64 (x14_4 + 1))) else (none)) else (kimberliteref04_Odd.l3 k4 a0 t472 x8_4 x10_2 x11_2 x12_4 x13_3 (wrap64 (x14_4 + 1)))) else (none)) else (none)) else (none)) else (none)) else (none)) = some r := by rw [if_neg (show ¬ (false = true) by decide)] at H; exact H
                                          clear H
                                          have H := H1
                                          clear H1
                                          by_cases c36 : 0 ≤ x13_3
                                          · rw [if_pos c36] at H
                                            have c36b0 : decide (0 ≤ x13_3) = true := decide_eq_true c36
                                            clear c36
                                            by_cases c37 : x13_3 < (x12_4.length : Int)
                                            · rw [if_pos c37] at H
                                              have c37b0 : decide (x13_3 < (x12_4.length : Int)) = true := decide_eq_true c37
                                              clear c37
                                              by_cases c38 : 0 ≤ (rd x12_4 x13_3)
                                              · rw [if_pos c38] at H
                                                have c38b0 : decide (0 ≤ (rd x12_4 x13_3)) = true := decide_eq_true c38
                                                clear c38
                                                by_cases c39 : (rd x12_4 x13_3) < (t472.length : Int)
                                                · rw [if_pos c39] at H
                                                  have c39b0 : decide ((rd x12_4 x13_3) < (t472.length : Int)) = true := decide_eq_true c39
                                                  clear c39
                                                  by_cases c40 : x14_4 < ((rd_L5 t472 (rd x12_4 x13_3)).length : Int)
                                                  · rw [if_pos c40] at H
                                                    have c40b0 : decide (x14_4 < ((rd_L5 t472 (rd x12_4 x13_3)).length : Int)) = true := decide_eq_true c40
                                                    clear c40
                                                    obtain ⟨bq41, hbq41⟩ : ∃ b_ : Bool, b_ = (rdOf false (rd_L5 t472 (rd x12_4 x13_3)) x14_4) := ⟨_, rfl⟩
                                                    replace H : (if bq41 = true then (if x12_4.length < 17592186044416 then (kimberliteref04_Odd.l3 k4 a0 t472 (x8_4.set (x14_4 : Int).toNat true) x10_2 x11_2 (x12_4 ++ [x14_4]) x13_3 (wrap64 (x14_4 + 1))) else (none)) else (kimberliteref04_Odd.l3 k4 a0 t472 x8_4 x10_2 x11_2 x12_4 x13_3 (wrap64 (x14_4 + 1)))) = some r := by rw [← hbq41] at H; exact H
                                                    have Nbq41 := Aside0.mk hbq41
                                                    clear hbq41
                                                    by_cases c42 : bq41 = true
                                                    · subst c42
                                                      have H1 : (if x12_4.length < 17592186044416 then (kimberliteref04_Odd.l3 k4 a0 t472 (x8_4.set (x14_4 : Int).toNat true) x10_2 x11_2 (x12_4 ++ [x14_4]) x13_3 (wrap64 (x14_4 + 1))) else (none)) = some r := by rw [if_pos rfl] at H; exact H
                                                      clear H
                                                      have H := H1
                                                      clear H1
                                                      obtain ⟨y489, hy489⟩ : ∃ y_ : List Bool, y_ = (x8_4.set (x14_4 : Int).toNat true) := ⟨_, rfl⟩
                                                      replace H : (if x12_4.length < 17592186044416 then (kimberliteref04_Odd.l3 k4 a0 t472 y489 x10_2 x11_2 (x12_4 ++ [x14_4]) x13_3 (wrap64 (x14_4 + 1))) else (none)) = some r := by first | (rw [hy489]; with_reducible exact H) | (have H2_ := (Option.bind_some _ _).symm.trans H; rw [hy489]; with_reducible exact H2_) | (have H2_ := (Option.bind_some _ _).symm.trans H; with_reducible exact H2_) | with_reducible exact H | (rw [hy489]; exact H) | exact H
                                                      have Ny489 := Aside0.mk hy489
                                                      clear hy489
                                                      by_cases c44 : x12_4.length < 17592186044416
                                                      · rw [if_pos c44] at H
                                                        have LMc44 := Aside0.mk c44
                                                        clear c44
                                                        obtain ⟨y490, hy490⟩ : ∃ y_ : List Int, y_ = (x12_4 ++ [x14_4]) := ⟨_, rfl⟩
                                                        replace H : (kimberliteref04_Odd.l3 k4 a0 t472 y489 x10_2 x11_2 y490 x13_3 (wrap64 (x14_4 + 1))) = some r := by first | (rw [hy490]; with_reducible exact H) | (have H2_ := (Option.bind_some _ _).symm.trans H; rw [hy490]; with_reducible exact H2_) | (have H2_ := (Option.bind_some _ _).symm.trans H; with_reducible exact H2_) | with_reducible exact H | (rw [hy490]; exact H) | exact H
                                                        have Ny490 := Aside0.mk hy490
                                                        clear hy490
                                                        have H' := Aside0.mk H
                                                        clear H
                                                        have p485 : 0 ≤ (x14_4 : Int) := of_decide_eq_true (by first | (with_reducible assumption) | assumption)
                                                        have q485 : x14_4 < (x8_4.length : Int) := of_decide_eq_true (by first | (with_reducible assumption) | assumption)
                                                        obtain ⟨ad485, e485, hx485_0⟩ := Kd.at_bool (Kd.R_reads' HO_8.out).2.2 x14_4 p485 q485
                                                        (try rw [← Nbq20.out] at hx485_0)
                                                        (try rw [← Nbq34.out] at hx485_0)
                                                        (try rw [← Nbq41.out] at hx485_0)
                                                        obtain rfl : (⟨go23, 0, none⟩ : Addr) = ad485 := (by injection e485)
                                                        (first | simp only [add_plain] at hx485_0 | simp only [add_at] at hx485_0 | simp only [Addr.add, Nat.zero_add] at hx485_0 | skip)
                                                        replace p485 := eq_true p485
                                                        replace q485 := eq_true q485
                                                        obtain ⟨Ao45, co45, eo45⟩ := Kd.R_slice HO_12.out
                                                        subst eo45
                                                        have p486 : 0 ≤ (x13_3 : Int) := of_decide_eq_true (by first | (with_reducible assumption) | assumption)
                                                        have q486 : x13_3 < (x12_4.length : Int) := of_decide_eq_true (by first | (with_reducible assumption) | assumption)
                                                        obtain ⟨ad486, e486, hx486_0⟩ := Kd.at_int (Kd.R_reads' HO_12.out).2.2 x13_3 p486 q486
                                                        cases e486
                                                        replace p486 := eq_true p486
                                                        replace q486 := eq_true q486
                                                        obtain ⟨Ao46, co46, eo46⟩ := Kd.S_slice HO_7.out
                                                        subst eo46
                                                        have p487 : 0 ≤ ((rd x12_4 x13_3) : Int) := of_decide_eq_true (by first | (with_reducible assumption) | assumption)
                                                        have q487 : (rd x12_4 x13_3) < (t472.length : Int) := of_decide_eq_true (by first | (with_reducible assumption) | assumption)
                                                        obtain ⟨ad487, A487_0, c487_0, e487, hx487_0, hl487_0, hi487_0⟩ := at_L5 (Kd.S_reads' HO_7.out).2.2 (rd x12_4 x13_3) p487 q487
                                                        cases e487
                                                        obtain ⟨ce487, hce487, hMe487, hcc487⟩ := Kd.S_get HO_7.out [] (rd x12_4 x13_3) p487 (by first | exact q487 | exact of_decide_eq_true (by first | (with_reducible assumption) | assumption) | (have e_ := (Kd.S_reads' HO_7.out).1; omega))
                                                        obtain ⟨ve487_0, rfl, ge487_0⟩ := hMe487
                                                        have hv487_0 := hcc487 0 _ rfl
                                                        rw [Nat.add_zero, show ((Kd.slice 4 Kd.bool)).sz = 1 from rfl, Nat.mul_one] at hv487_0
                                                        replace hv487_0 := Option.some.inj (hv487_0.symm.trans hx487_0)
                                                        rw [hv487_0] at ge487_0
                                                        have HL487_0 := Aside0.mk (show Kd.R Kd.bool 4 _ _ _ _ (rd_L5 t472 (rd x12_4 x13_3)) from ge487_0)
                                                        clear hv487_0 ge487_0
                                                        clear hcc487 hce487
                                                        have HR487_0 := Aside0.mk hi487_0
                                                        have HC487_0 := Aside0.mk hl487_0
                                                        clear hi487_0 hl487_0
                                                        replace p487 := eq_true p487
                                                        replace q487 := eq_true q487
                                                        have p488 : 0 ≤ (x14_4 : Int) := of_decide_eq_true (by first | (with_reducible assumption) | assumption)
                                                        have q488 : x14_4 < ((rd_L5 t472 (rd x12_4 x13_3)).length : Int) := of_decide_eq_true (by first | (with_reducible assumption) | assumption)
                                                        obtain ⟨ad488, e488, hx488_0⟩ := Kd.at_bool (by repeat (first | (with_reducible exact HR487_0.out) | (with_reducible refine Kd.C_alloc ?_ _) | (with_reducible refine Kd.C_drewN ?_ _) | (with_reducible refine Kd.C_drew ?_) | exact HR487_0.out)) x14_4 p488 q488
                                                        (try rw [← Nbq20.out] at hx488_0)
                                                        (try rw [← Nbq34.out] at hx488_0)
                                                        (try rw [← Nbq41.out] at hx488_0)
                                                        cases e488
                                                        replace p488 := eq_true p488
                                                        replace q488 := eq_true q488
                                                        have p43 : 0 ≤ (x14_4 : Int) := of_decide_eq_true (by first | (with_reducible assumption) | assumption)
                                                        have q43 : (x14_4 : Int) < ((x8_4.length : Int) : Int) := of_decide_eq_true (by first | (with_reducible assumption) | assumption)
                                                        obtain ⟨hx43_0, hf43_0⟩ := Kd.R_celln false HO_8.out (x14_4 : Int) p43 q43
                                                        replace p43 := eq_true p43
                                                        replace q43 := eq_true q43
                                                        have HP47 := Kd.R_putg HO_8.out (x14_4 : Int) true
                                                        go_wp2_with (first | ((with_reducible refine gate_store (t := 4) (p := 76) rfl ?_); refine store_event (t := 4) (p := 76) (v := ?vo_w48) (w1 := (wr.setCell ⟨go23, (x14_4 : Int).toNat, none⟩ (.bool true))) ?hg ?ho ?hn ?hr ?_; (case ho => rfl); (case hg => rfl); (case hn => rfl); (case hr => first | (go_simp; done) | (go_simp; rfl)); intro w48 hw; have hg : wr.grownBy w48 (some go23) := (by rw [hw]; exact HP47.2); have hp_ : Kd.R Kd.bool 4 w48 w.heap.size (fun _ => True) (.slice (some ⟨go23, 0, none⟩) x8_4.length co24) y489 := (by rw [hw, Ny489.out]; exact HP47.1); clear HP47; have n0_ := Aside0.mk (Kd.S_after (v := (.slice (some ⟨go23, 0, none⟩) x8_4.length co24)) (v1 := (.slice (some ⟨go23, 0, none⟩) x8_4.length co24)) (ok := (fun _ => True)) (by (with_reducible repeat (first | apply Kd.S_alloc | apply Kd.S_drewN | apply Kd.S_drew)); exact Kd.S_mono HO_7.out (fun _ hk => ⟨trivial, hk⟩)) hg (.inl rfl)); have n1_ := Aside0.mk (hp_); have n2_ := Aside0.mk (Kd.R_over' (v := (.slice (some ⟨go23, 0, none⟩) x8_4.length co24)) (by (with_reducible repeat (first | apply Kd.R_alloc | apply Kd.R_drewN | apply Kd.R_drew)); exact HO_12.out) (Kd.R_typed HO_8.out) (by decide) hg); have n3_ := Aside0.mk (Kd.R_after (v := (.slice (some ⟨go23, 0, none⟩) x8_4.length co24)) (v1 := (.slice (some ⟨go23, 0, none⟩) x8_4.length co24)) (ok := (fun k_ => some k_ ≠ (.slice (some ad487) t472.length co46 : Value).ownBlock)) (by (with_reducible repeat (first | apply Kd.R_alloc | apply Kd.R_drewN | apply Kd.R_drew)); exact Kd.R_mono HL487_0.out (fun _ hk => ⟨hk.2, hk.1⟩)) hg (.inl rfl)); have n4_ := Aside0.mk ((by rw [hw]; exact below_set (HB.out) GB23.out : Below w.heap.size w w48)); clear HO_7; clear HO_8; clear HO_12; clear HL487_0; clear HB; have HO_7 := n0_; have HO_8 := n1_; have HO_12 := n2_; have HL487_0 := n3_; have HB := n4_; clear n0_ n1_ n2_ n3_ n4_; clear hg hw hp_) | ((with_reducible refine gate_builtin (b := .append) (xs := #[.tmp 77, .tmp 79]) rfl ?_); at_builtin; refine Kd.R_append (Kd.int .i64) (w0 := w) w.heap.size rfl (.tmp 77) (.tmp 79) 25 3 (.int .i64 0) 8 rfl Try.underlying25 info3 rfl (by decide) (by omega) (.slice (some ad486) x12_4.length co45) x12_4 x14_4 [.int .i64 x14_4] (fun _ => True) (fun _ => False) rfl rfl ?aP (fun _ hk => hk.elim) ?aF ?aO ?aB ?aS ?aL ?_; (case aP => exact rfl); (case aB => exact (by repeat (first | (with_reducible first | exact HB.out | apply below_alloc | apply pw_below_drewN | apply below_drew1) | exact HB.out))); (case aF => exact (fun _ _ => trivial)); (case aO => exact (by (with_reducible repeat (first | apply Kd.R_alloc | apply Kd.R_drewN | apply Kd.R_drew)); exact HO_12.out)); (case aS => exact (below_size (by repeat (first | (with_reducible first | exact HB.out | apply below_alloc | apply pw_below_drewN | apply below_drew1) | exact HB.out)))); (case aL => have := LMc44.out; omega); intro v491 w49 ho hb hg hat; rw [← Ny490.out] at ho; have n0_ := Aside0.mk (Kd.S_over' (by (with_reducible repeat (first | apply Kd.S_alloc | apply Kd.S_drewN | apply Kd.S_drew)); exact HO_7.out) (Kd.R_typed (by (with_reducible repeat (first | apply Kd.R_alloc | apply Kd.R_drewN | apply Kd.R_drew)); exact HO_12.out)) (by decide) hg); have n1_ := Aside0.mk (Kd.R_over' (by (with_reducible repeat (first | apply Kd.R_alloc | apply Kd.R_drewN | apply Kd.R_drew)); exact HO_8.out) (Kd.R_typed (by (with_reducible repeat (first | apply Kd.R_alloc | apply Kd.R_drewN | apply Kd.R_drew)); exact HO_12.out)) (by decide) hg); have n2_ := Aside0.mk (Kd.R_over' (by (with_reducible repeat (first | apply Kd.R_alloc | apply Kd.R_drewN | apply Kd.R_drew)); exact HL487_0.out) (Kd.R_typed (by (with_reducible repeat (first | apply Kd.R_alloc | apply Kd.R_drewN | apply Kd.R_drew)); exact HO_12.out)) (by decide) hg); have n3_ := Aside0.mk (hb); have n4_ := Aside0.mk (ho); clear HO_7; clear HO_8; clear HL487_0; clear HB; clear HO_12; have HO_7 := n0_; have HO_8 := n1_; have HL487_0 := n2_; have HB := n3_; have HO492 := n4_; clear n0_ n1_ n2_ n3_ n4_; clear ho hb hg hat))
                                                        (try simp only [← hl8_4])
                                                        go_roundg k4
                                                        case measure => have := HK1.out; have := HK2.out; have := HK3.out; have := HK4.out; omega
                                                        case rel => exact ⟨(y489), (y490), (wrap64 (x14_4 + 1)), (by first | rfl | (simp; done) | (simp [*]; done)), H', ⟨by have := HK1.out; have := HK2.out; have := HK3.out; have := HK4.out; omega⟩, ⟨by (try simp only [hl8_3]); (try simp only [hl8_4]); (with_reducible repeat (first | apply Kd.S_alloc | apply Kd.S_drewN | apply Kd.S_drew)); exact Kd.S_mono HO_7.out (fun _ hk => hk.2)⟩, ⟨by (try simp only [hl8_3]); (try simp only [hl8_4]); (with_reducible repeat (first | apply Kd.R_alloc | apply Kd.R_drewN | apply Kd.R_drew)); exact HO_8.out⟩, ⟨by (try simp only [hl8_3]); (try simp only [hl8_4]); (with_reducible repeat (first | apply Kd.R_alloc | apply Kd.R_drewN | apply Kd.R_drew)); exact HO492.out⟩, ⟨by repeat (first | (with_reducible first | exact HB.out | apply below_alloc | apply pw_below_drewN | apply below_drew1) | exact HB.out)⟩⟩
                                                      · rw [if_neg c44] at H
                                                        exact absurd H (by simp)
                                                    · replace c42 := Bool.eq_false_iff.mpr c42
                                                      subst c42
                                                      have H1 : (kimberliteref04_Odd.l3 k4 a0 t472 x8_4 x10_2 x11_2 x12_4 x13_3 (wrap64 (x14_4 + 1))) = some r := by rw [if_neg (show ¬ (false = true) by decide)] at H; exact H
                                                      clear H
                                                      have H := H1
                                                      clear H1
                                                      have H' := Aside0.mk H
                                                      clear H
                                                      have p485 : 0 ≤ (x14_4 : Int) := of_decide_eq_true (by first | (with_reducible assumption) | assumption)
                                                      have q485 : x14_4 < (x8_4.length : Int) := of_decide_eq_true (by first | (with_reducible assumption) | assumption)
                                                      obtain ⟨ad485, e485, hx485_0⟩ := Kd.at_bool (Kd.R_reads' HO_8.out).2.2 x14_4 p485 q485
                                                      (try rw [← Nbq20.out] at hx485_0)
                                                      (try rw [← Nbq34.out] at hx485_0)
                                                      (try rw [← Nbq41.out] at hx485_0)
                                                      obtain rfl : (⟨go23, 0, none⟩ : Addr) = ad485 := (by injection e485)
                                                      (first | simp only [add_plain] at hx485_0 | simp only [add_at] at hx485_0 | simp only [Addr.add, Nat.zero_add] at hx485_0 | skip)
                                                      replace p485 := eq_true p485
                                                      replace q485 := eq_true q485
                                                      obtain ⟨Ao50, co50, eo50⟩ := Kd.R_slice HO_12.out
                                                      subst eo50
                                                      have p486 : 0 ≤ (x13_3 : Int) := of_decide_eq_true (by first | (with_reducible assumption) | assumption)
                                                      have q486 : x13_3 < (x12_4.length : Int) := of_decide_eq_true (by first | (with_reducible assumption) | assumption)
                                                      obtain ⟨ad486, e486, hx486_0⟩ := Kd.at_int (Kd.R_reads' HO_12.out).2.2 x13_3 p486 q486
                                                      cases e486
                                                      replace p486 := eq_true p486
                                                      replace q486 := eq_true q486
                                                      obtain ⟨Ao51, co51, eo51⟩ := Kd.S_slice HO_7.out
                                                      subst eo51
                                                      have p487 : 0 ≤ ((rd x12_4 x13_3) : Int) := of_decide_eq_true (by first | (with_reducible assumption) | assumption)
                                                      have q487 : (rd x12_4 x13_3) < (t472.length : Int) := of_decide_eq_true (by first | (with_reducible assumption) | assumption)
                                                      obtain ⟨ad487, A487_0, c487_0, e487, hx487_0, hl487_0, hi487_0⟩ := at_L5 (Kd.S_reads' HO_7.out).2.2 (rd x12_4 x13_3) p487 q487
                                                      cases e487
                                                      obtain ⟨ce487, hce487, hMe487, hcc487⟩ := Kd.S_get HO_7.out [] (rd x12_4 x13_3) p487 (by first | exact q487 | exact of_decide_eq_true (by first | (with_reducible assumption) | assumption) | (have e_ := (Kd.S_reads' HO_7.out).1; omega))
                                                      obtain ⟨ve487_0, rfl, ge487_0⟩ := hMe487
                                                      have hv487_0 := hcc487 0 _ rfl
                                                      rw [Nat.add_zero, show ((Kd.slice 4 Kd.bool)).sz = 1 from rfl, Nat.mul_one] at hv487_0
                                                      replace hv487_0 := Option.some.inj (hv487_0.symm.trans hx487_0)
                                                      rw [hv487_0] at ge487_0
                                                      have HL487_0 := Aside0.mk (show Kd.R Kd.bool 4 _ _ _ _ (rd_L5 t472 (rd x12_4 x13_3)) from ge487_0)
                                                      clear hv487_0 ge487_0
                                                      clear hcc487 hce487
                                                      have HR487_0 := Aside0.mk hi487_0
                                                      have HC487_0 := Aside0.mk hl487_0
                                                      clear hi487_0 hl487_0
                                                      replace p487 := eq_true p487
                                                      replace q487 := eq_true q487
                                                      have p488 : 0 ≤ (x14_4 : Int) := of_decide_eq_true (by first | (with_reducible assumption) | assumption)
                                                      have q488 : x14_4 < ((rd_L5 t472 (rd x12_4 x13_3)).length : Int) := of_decide_eq_true (by first | (with_reducible assumption) | assumption)
                                                      obtain ⟨ad488, e488, hx488_0⟩ := Kd.at_bool (by repeat (first | (with_reducible exact HR487_0.out) | (with_reducible refine Kd.C_alloc ?_ _) | (with_reducible refine Kd.C_drewN ?_ _) | (with_reducible refine Kd.C_drew ?_) | exact HR487_0.out)) x14_4 p488 q488
                                                      (try rw [← Nbq20.out] at hx488_0)
                                                      (try rw [← Nbq34.out] at hx488_0)
                                                      (try rw [← Nbq41.out] at hx488_0)
                                                      cases e488
                                                      replace p488 := eq_true p488
                                                      replace q488 := eq_true q488
                                                      go_wp2
                                                      (try simp only [← hl8_4])
                                                      go_roundg k4
                                                      case measure => have := HK1.out; have := HK2.out; have := HK3.out; have := HK4.out; omega
                                                      case rel => exact ⟨(x8_4), (x12_4), (wrap64 (x14_4 + 1)), (by first | rfl | (simp; done) | (simp [*]; done)), H', ⟨by have := HK1.out; have := HK2.out; have := HK3.out; have := HK4.out; omega⟩, ⟨by (try simp only [hl8_3]); (try simp only [hl8_4]); (with_reducible repeat (first | apply Kd.S_alloc | apply Kd.S_drewN | apply Kd.S_drew)); exact HO_7.out⟩, ⟨by (try simp only [hl8_3]); (try simp only [hl8_4]); (with_reducible repeat (first | apply Kd.R_alloc | apply Kd.R_drewN | apply Kd.R_drew)); exact HO_8.out⟩, ⟨by (try simp only [hl8_3]); (try simp only [hl8_4]); (with_reducible repeat (first | apply Kd.R_alloc | apply Kd.R_drewN | apply Kd.R_drew)); exact HO_12.out⟩, ⟨by repeat (first | (with_reducible first | exact HB.out | apply below_alloc | apply pw_below_drewN | apply below_drew1) | exact HB.out)⟩⟩
                                                  · rw [if_neg c40] at H
                                                    exact absurd H (by simp)
                                                · rw [if_neg c39] at H
                                                  exact absurd H (by simp)
                                              · rw [if_neg c38] at H
                                                exact absurd H (by simp)
                                            · rw [if_neg c37] at H
                                              exact absurd H (by simp)
                                          · rw [if_neg c36] at H
                                            exact absurd H (by simp)
                                      · rw [if_neg c33] at H
                                        exact absurd H (by simp)
                                    · rw [if_neg c32] at H
                                      exact absurd H (by simp)
                                  · rw [if_neg c31] at H
                                    have c31b0 : decide (x14_4 < a0) = false := decide_eq_false c31
                                    clear c31
                                    have H' := Aside0.mk H
                                    clear H
                                    go_wp2
                                    (try simp only [← hl8_3, ← hl8_4])
                                    go_roundg k4
                                    case measure => have := HK1.out; have := HK2.out; have := HK3.out; have := HK4.out; omega
                                    case rel => exact ⟨(x8_4), (x12_4), (wrap64 (x13_3 + 1)), (by first | rfl | (simp; done) | (simp [*]; done)), H', ⟨by have := HK1.out; have := HK2.out; have := HK3.out; have := HK4.out; omega⟩, ⟨by (try simp only [hl8_3]); (try simp only [hl8_4]); (with_reducible repeat (first | apply Kd.S_alloc | apply Kd.S_drewN | apply Kd.S_drew)); exact HO_7.out⟩, ⟨by (try simp only [hl8_3]); (try simp only [hl8_4]); (with_reducible repeat (first | apply Kd.R_alloc | apply Kd.R_drewN | apply Kd.R_drew)); exact HO_8.out⟩, ⟨by (try simp only [hl8_3]); (try simp only [hl8_4]); (with_reducible repeat (first | apply Kd.R_alloc | apply Kd.R_drewN | apply Kd.R_drew)); exact HO_12.out⟩, ⟨by repeat (first | (with_reducible first | exact HB.out | apply below_alloc | apply pw_below_drewN | apply below_drew1) | exact HB.out)⟩⟩
                            · rw [if_neg c29] at H
                              have c29b0 : decide (x13_3 < (x12_3.length : Int)) = false := decide_eq_false c29
                              clear c29
                              have H' := Aside0.mk H
                              clear H
                              obtain ⟨Ao52, co52, eo52⟩ := Kd.R_slice HO_12.out
                              subst eo52
                              go_wp2
                              (try simp only [← hl8_3])
                              go_roundg k3
                              case measure => have := HK1.out; have := HK2.out; have := HK3.out; omega
                              case rel => exact ⟨(x8_3), (wrap64 (x10_2 + ((x12_3.length : Int) % 2))), (wrap64 (x11_2 + 1)), (by first | rfl | (simp; done) | (simp [*]; done)), (by first | rfl | (simp; done) | (simp [*]; done)), H', ⟨by have := HK1.out; have := HK2.out; have := HK3.out; omega⟩, ⟨by (try simp only [hl8_3]); (with_reducible repeat (first | apply Kd.S_alloc | apply Kd.S_drewN | apply Kd.S_drew)); exact HO_7.out⟩, ⟨by (try simp only [hl8_3]); (with_reducible repeat (first | apply Kd.R_alloc | apply Kd.R_drewN | apply Kd.R_drew)); exact HO_8.out⟩, ⟨by repeat (first | (with_reducible first | exact HB.out | apply below_alloc | apply pw_below_drewN | apply below_drew1) | exact HB.out)⟩⟩
                    · rw [if_neg c19] at H
                      exact absurd H (by simp)
                  · rw [if_neg c18] at H
                    exact absurd H (by simp)
                · rw [if_neg c17] at H
                  have c17b0 : decide (x11_2 < a0) = false := decide_eq_false c17
                  clear c17
                  obtain rfl := Option.some.inj H
                  go_wp2
                  go_ret
                  exact ⟨by first | rfl | (simp [errW_none, errW_some] <;> rfl) | (simp [*, errW_none, errW_some] <;> rfl), by repeat (first | (with_reducible first | exact HB.out | apply below_alloc | apply pw_below_drewN | apply below_drew1) | exact HB.out)⟩
    · rw [if_neg c6] at H
      exact absurd H (by simp)
  · rw [if_neg c5] at H
    exact absurd H (by simp)

end Go.Proofs.Ythhgdndjnflklaa.PP
