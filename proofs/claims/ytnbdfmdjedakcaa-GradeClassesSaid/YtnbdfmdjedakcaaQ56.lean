/- No conditions. -/
import Derived.Test.YtnbdfmdjedakcaaQ0
import Derived.Test.YtnbdfmdjedakcaaQ91
import Derived.Test.YtnbdfmdjedakcaaExt3
namespace Go.Proofs.Ytnbdfmdjedakcaa.PP
open Go.RowKit Go.Proofs.YtnbdfmdjedakcaaW.PrintWords Go.Proofs.YtnbdfmdjedakcaaW.PrintLast Go.Proofs.YtnbdfmdjedakcaaW.PrintMore
attribute [local go_sem] max2_int min2_int max_two min_two max_three min_three max_four min_four
set_option linter.unusedVariables false
set_option linter.unusedSimpArgs false
mutual
def kimberliteref02_Two.j0 : Nat → Bool → List Bool → List Bool → Bool → Option ((List (S36)) × Int)
 | 0, _, _, _, _ => none
 | k + 1, x2, x8, x10, x28 => if x28 = true then (some (([] : List (S36)), 2)) else (kimberliteref02_Two.l0 k x2 x8 x10 0)
def kimberliteref02_Two.l0 : Nat → Bool → List Bool → List Bool → Int → Option ((List (S36)) × Int)
 | 0, _, _, _, _ => none
 | k + 1, x2, x8, x10, x12 => if x12 < 1728 then (if x2 = true then (if 0 ≤ x12 then (if x12 < (x8.length : Int) then (if rdOf false x8 x12 = true then (if x12 < (x10.length : Int) then (kimberliteref02_Two.l0 k x2 (x8.set (x12 : Int).toNat (rdOf false x10 x12)) x10 (wrap64 (x12 + 1))) else (none)) else (kimberliteref02_Two.l0 k x2 (x8.set (x12 : Int).toNat false) x10 (wrap64 (x12 + 1)))) else (none)) else (none)) else (if 0 ≤ x12 then (if x12 < (x8.length : Int) then (if rdOf false x8 x12 = true then (kimberliteref02_Two.l0 k x2 (x8.set (x12 : Int).toNat true) x10 (wrap64 (x12 + 1))) else (if x12 < (x10.length : Int) then (kimberliteref02_Two.l0 k x2 (x8.set (x12 : Int).toNat (rdOf false x10 x12)) x10 (wrap64 (x12 + 1))) else (none))) else (none)) else (none))) else ((kimberliteref02_edge.f x8 false).bind fun t749 => (some (t749, 0)))
end
def kimberliteref02_Two.f (k : Nat) (l0 : List (S36)) (l1 : List (S36)) (a2 : Bool) : Option ((List (S36)) × Int) := (kimberliteref02_Row.f k l0).bind fun bt733 => ((kimberliteref02_Row.f k l1).bind fun bt737 => (if bt733.2 = true then (kimberliteref02_Two.j0 k a2 bt733.1 bt737.1 (!bt737.2)) else (kimberliteref02_Two.j0 k a2 bt733.1 bt737.1 true)))
theorem kimberliteref02_Two.mono_l : ∀ k, (∀ y0 y1 y2 y3, LeO (kimberliteref02_Two.j0 k y0 y1 y2 y3) (kimberliteref02_Two.j0 (k + 1) y0 y1 y2 y3)) ∧ (∀ y0 y1 y2 y3, LeO (kimberliteref02_Two.l0 k y0 y1 y2 y3) (kimberliteref02_Two.l0 (k + 1) y0 y1 y2 y3))
 | 0 => ⟨fun _ _ _ _ r h => by simp [kimberliteref02_Two.j0] at h, fun _ _ _ _ r h => by simp [kimberliteref02_Two.l0] at h⟩
 | k + 1 => by
  obtain ⟨ih0, ih1⟩ := kimberliteref02_Two.mono_l k
  refine ⟨?_, ?_⟩
  ·intro y0 y1 y2 y3
   unfold kimberliteref02_Two.j0
   repeat' first
   | (with_reducible exact ih0 _ _ _ _)
   | (with_reducible exact ih1 _ _ _ _)
   | (with_reducible exact kimberliteref02_Row.mono _ _)
   | (with_reducible exact LeO.refl _)
   | (with_reducible exact LeO.none _)
   | (with_reducible refine LeO.ite ?_ ?_)
   | (with_reducible refine LeO.bind ?_ (fun _ => ?_))
   | exact ih0 _ _ _ _
   | exact ih1 _ _ _ _
   | exact kimberliteref02_Row.mono _ _
   | exact LeO.none _
   | refine LeO.ite ?_ ?_
   | refine LeO.bind ?_ (fun _ => ?_)
  ·intro y0 y1 y2 y3
   unfold kimberliteref02_Two.l0
   repeat' first
   | (with_reducible exact ih0 _ _ _ _)
   | (with_reducible exact ih1 _ _ _ _)
   | (with_reducible exact kimberliteref02_Row.mono _ _)
   | (with_reducible exact LeO.refl _)
   | (with_reducible exact LeO.none _)
   | (with_reducible refine LeO.ite ?_ ?_)
   | (with_reducible refine LeO.bind ?_ (fun _ => ?_))
   | exact ih0 _ _ _ _
   | exact ih1 _ _ _ _
   | exact kimberliteref02_Row.mono _ _
   | exact LeO.none _
   | refine LeO.ite ?_ ?_
   | refine LeO.bind ?_ (fun _ => ?_)
theorem kimberliteref02_Two.mono : ∀ a0 a1 a2 k, LeO (kimberliteref02_Two.f k a0 a1 a2) (kimberliteref02_Two.f (k + 1) a0 a1 a2) := by
 intro a0 a1 a2 k
 obtain ⟨ih0, ih1⟩ := kimberliteref02_Two.mono_l k
 unfold kimberliteref02_Two.f
 repeat' first
   | (with_reducible exact ih0 _ _ _ _)
   | (with_reducible exact ih1 _ _ _ _)
   | (with_reducible exact kimberliteref02_Row.mono _ _)
   | (with_reducible exact LeO.refl _)
   | (with_reducible exact LeO.none _)
   | (with_reducible refine LeO.ite ?_ ?_)
   | (with_reducible refine LeO.bind ?_ (fun _ => ?_))
   | exact ih0 _ _ _ _
   | exact ih1 _ _ _ _
   | exact kimberliteref02_Row.mono _ _
   | exact LeO.none _
   | refine LeO.ite ?_ ?_
   | refine LeO.bind ?_ (fun _ => ?_)
set_option maxHeartbeats 8000000 in
set_option maxRecDepth 100000 in
theorem kimberliteref02_Two.calls (k : Nat) (A0 : Option Addr) (c0 : Nat) (l0 : List (S36)) (A1 : Option Addr) (c1 : Nat) (l1 : List (S36)) (a2 : Bool) (r1 : List (S36)) (r2 : Int) (w : World) (hr0 : Kd.C k36 w A0 l0.length l0) (hc0 : l0.length ≤ c0) (hr1 : Kd.C k36 w A1 l1.length l1) (hc1 : l1.length ≤ c1) (h : kimberliteref02_Two.f k l0 l1 a2 = some (r1, r2)) :
  Calls Try.prog 56 #[.slice A0 l0.length c0, .slice A1 l1.length c1, .bool a2] w fun e w' => ∃ v0_ : Value, e = .returned (.tuple #[v0_, .int .i64 r2]) ∧ Kd.R k36 36 w' w.heap.size (fun _ => True) v0_ r1 ∧ Below w.heap.size w w' := by
 have HR0 := Aside0.mk hr0
 have HC0 := Aside0.mk hc0
 clear hr0 hc0
 have HR1 := Aside0.mk hr1
 have HC1 := Aside0.mk hc1
 clear hr1 hc1
 have HB := Aside0.mk (Below.refl w.heap.size w)
 have H : ((kimberliteref02_Row.f k l0).bind fun bt733 => ((kimberliteref02_Row.f k l1).bind fun bt737 => (if bt733.2 = true then (kimberliteref02_Two.j0 k a2 bt733.1 bt737.1 (!bt737.2)) else (kimberliteref02_Two.j0 k a2 bt733.1 bt737.1 true)))) = some (r1, r2) := h
 clear h
 replace H := Option.bind_eq_some_iff.mp H
 obtain ⟨⟨t733, t734⟩, A40, H⟩ := H
 replace H : ((kimberliteref02_Row.f k l1).bind fun bt737 => (if t734 = true then (kimberliteref02_Two.j0 k a2 t733 bt737.1 (!bt737.2)) else (kimberliteref02_Two.j0 k a2 t733 bt737.1 true))) = some (r1, r2) := H
 have A4 := Aside0.mk A40
 clear A40
 replace H := Option.bind_eq_some_iff.mp H
 obtain ⟨⟨t737, t738⟩, A50, H⟩ := H
 replace H : (if t734 = true then (kimberliteref02_Two.j0 k a2 t733 t737 (!t738)) else (kimberliteref02_Two.j0 k a2 t733 t737 true)) = some (r1, r2) := H
 have A5 := Aside0.mk A50
 clear A50
 have HC6 := Aside0.mk H
 clear H
 go_enter Try.func56, Try.ntmps56
 go_upto_region 3 with (first | ((with_reducible refine gate_callee (f := 91) rfl ?_); refine goesL_ (some 15) rfl rfl Try.func91 (by kernel_rfl) rfl #[.slice A0 l0.length c0] rfl (by (try simp only [List.map_toArray, List.map_cons, List.map_nil]); first | done | rfl | (simp only [List.length_drop, List.length_take]; rfl)) ?_; (with_reducible refine (kimberliteref02_Row.calls k _ _ l0 t733 t734 _ ?side1 ?side2 A4.out).mono ?_); (case side1 => repeat (first | exact HR0.out | (with_reducible refine Kd.C_alloc ?_ _) | (with_reducible refine Kd.C_drewN ?_ _) | (with_reducible refine Kd.C_drew ?_))); (case side2 => exact HC0.out); rintro e w7 ⟨v735, rfl, ho0, hb⟩; refine ⟨_, rfl, ?_⟩; have n0_ := Aside0.mk (Kd.R_lower ho0 (below_size (by repeat (first | (with_reducible first | exact HB.out | apply below_alloc | apply pw_below_drewN | apply below_drew1) | exact HB.out)))); have n1_ := Aside0.mk (below_step (by repeat (first | (with_reducible first | exact HB.out | apply below_alloc | apply pw_below_drewN | apply below_drew1) | exact HB.out)) hb); clear HB; have HO736 := n0_; have HB := n1_; clear n0_ n1_; (try clear hb); (try clear hb2); (try clear hk); (try clear hi); (try clear ho0)) | ((with_reducible refine gate_callee (f := 91) rfl ?_); refine goesL_ (some 20) rfl rfl Try.func91 (by kernel_rfl) rfl #[.slice A1 l1.length c1] rfl (by (try simp only [List.map_toArray, List.map_cons, List.map_nil]); first | done | rfl | (simp only [List.length_drop, List.length_take]; rfl)) ?_; (with_reducible refine (kimberliteref02_Row.calls k _ _ l1 t737 t738 _ ?side1 ?side2 A5.out).mono ?_); (case side1 => repeat (first | exact (Kd.C_below HR1.out HB.out) | (with_reducible refine Kd.C_alloc ?_ _) | (with_reducible refine Kd.C_drewN ?_ _) | (with_reducible refine Kd.C_drew ?_))); (case side2 => exact HC1.out); rintro e w8 ⟨v739, rfl, ho0, hb⟩; refine ⟨_, rfl, ?_⟩; have n0_ := Aside0.mk (Kd.R_elder' (by (with_reducible repeat (first | apply Kd.R_alloc | apply Kd.R_drewN | apply Kd.R_drew)); exact HO736.out) (Kd.R_base ho0) hb); have n1_ := Aside0.mk (Kd.R_lower (Kd.R_new' ho0 (Kd.R_lt (by (with_reducible repeat (first | apply Kd.R_alloc | apply Kd.R_drewN | apply Kd.R_drew)); exact HO736.out))) (below_size (by repeat (first | (with_reducible first | exact HB.out | apply below_alloc | apply pw_below_drewN | apply below_drew1) | exact HB.out)))); have n2_ := Aside0.mk (below_step (by repeat (first | (with_reducible first | exact HB.out | apply below_alloc | apply pw_below_drewN | apply below_drew1) | exact HB.out)) hb); clear HO736; clear HB; have HO736 := n0_; have HO740 := n1_; have HB := n2_; clear n0_ n1_ n2_; (try clear hb); (try clear hb2); (try clear hk); (try clear hi); (try clear ho0)))
 (try simp only [Act.put, List.setIfInBounds_toArray, List.set_cons_zero, List.set_cons_succ])
 go_cut [28] (fun v28 wc => ∃ (kq : Nat) (x28_5 : Bool), v28 = .bool x28_5 ∧ Aside0 (kimberliteref02_Two.j0 kq a2 t733 t737 x28_5 = some (r1, r2)) ∧ Aside0 (kq ≤ k) ∧ Aside0 (Kd.R Kd.bool 4 wc w.heap.size (fun k_ => some k_ ≠ (v739 : Value).ownBlock) v735 t733) ∧ Aside0 (Kd.R Kd.bool 4 wc w.heap.size (fun k_ => some k_ ≠ (v735 : Value).ownBlock) v739 t737) ∧ Aside0 (Below w.heap.size w wc))
 case first =>
  have H := HC6.out
  clear HC6
  by_cases c9 : t734 = true
  ·subst c9
   have H1 : (kimberliteref02_Two.j0 k a2 t733 t737 (!t738)) = some (r1, r2) := by rw [if_pos rfl] at H; exact H
   clear H
   have H := H1
   clear H1
   have H' := Aside0.mk H
   clear H
   go_wp2
   go_meet
   case rel => exact ⟨_, (!t738), (by first | rfl | (simp; done) | (simp [*]; done)), H', ⟨by first | omega | exact Nat.le_refl _⟩, ⟨by (with_reducible repeat (first | apply Kd.R_alloc | apply Kd.R_drewN | apply Kd.R_drew)); exact Kd.R_mono HO736.out (fun _ hk => hk.2)⟩, ⟨by (with_reducible repeat (first | apply Kd.R_alloc | apply Kd.R_drewN | apply Kd.R_drew)); exact Kd.R_mono HO740.out (fun _ hk => hk.2)⟩, ⟨by repeat (first | (with_reducible first | exact HB.out | apply below_alloc | apply pw_below_drewN | apply below_drew1) | exact HB.out)⟩⟩
  ·replace c9 := Bool.eq_false_iff.mpr c9
   subst c9
   have H1 : (kimberliteref02_Two.j0 k a2 t733 t737 true) = some (r1, r2) := by rw [if_neg (show ¬ (false = true) by decide)] at H; exact H
   clear H
   have H := H1
   clear H1
   have H' := Aside0.mk H
   clear H
   go_wp2
   go_meet
   case rel => exact ⟨_, (true), (by first | rfl | (simp; done) | (simp [*]; done)), H', ⟨by first | omega | exact Nat.le_refl _⟩, ⟨by (with_reducible repeat (first | apply Kd.R_alloc | apply Kd.R_drewN | apply Kd.R_drew)); exact Kd.R_mono HO736.out (fun _ hk => hk.2)⟩, ⟨by (with_reducible repeat (first | apply Kd.R_alloc | apply Kd.R_drewN | apply Kd.R_drew)); exact Kd.R_mono HO740.out (fun _ hk => hk.2)⟩, ⟨by repeat (first | (with_reducible first | exact HB.out | apply below_alloc | apply pw_below_drewN | apply below_drew1) | exact HB.out)⟩⟩
 case rest =>
  clear HC6
  try clear c1
  try clear p2
  try clear c5
  try clear c9
  obtain ⟨kq, x28_5, rfl, HA, HJ5, HO_8, HO_10, HB⟩ := hcut
  cases kq with
  | zero => exact absurd HA.out (by simp [kimberliteref02_Two.j0])
  | succ kj5 =>
   have H := HA.out
   clear HA
   simp only [kimberliteref02_Two.j0] at H
   by_cases c10 : x28_5 = true
   ·subst c10
    have H1 : (some (([] : List (S36)), 2)) = some (r1, r2) := by rw [if_pos rfl] at H; exact H
    clear H
    have H := H1
    clear H1
    simp only [Option.some.injEq, Prod.mk.injEq] at H
    obtain ⟨rfl, rfl⟩ := H
    go_wp2
    go_ret2
    exact ⟨_, by first | rfl | (simp [errW_none, errW_some] <;> rfl) | (simp [*, errW_none, errW_some] <;> rfl), by first | exact Kd.R_nil _ _ _ _ _ | exact Kd.N_nil _ _ _ _ _ | exact Kd.V_nil _ _ _ _ _ | exact Kd.Q_nil _ _ _ _ _ | exact Kd.S_nil _ _ _ _ _, by repeat (first | (with_reducible first | exact HB.out | apply below_alloc | apply pw_below_drewN | apply below_drew1) | exact HB.out)⟩
   ·replace c10 := Bool.eq_false_iff.mpr c10
    subst c10
    have H1 : (kimberliteref02_Two.l0 kj5 a2 t733 t737 0) = some (r1, r2) := by rw [if_neg (show ¬ (false = true) by decide)] at H; exact H
    clear H
    have H := H1
    clear H1
    have H' := Aside0.mk H
    clear H
    go_wp2
    go_loopg [12] kj5 (fun kq v12 w' => ∃ (x8_2 : List Bool) (x12_2 : Int), v12 = .int .i64 x12_2 ∧ Aside0 (kimberliteref02_Two.l0 kq a2 x8_2 t737 x12_2 = some (r1, r2)) ∧ Aside0 (kq ≤ kj5) ∧ Aside0 (Kd.R Kd.bool 4 w' w.heap.size (fun k_ => some k_ ≠ (v739 : Value).ownBlock) v735 x8_2) ∧ Aside0 (Kd.R Kd.bool 4 w' w.heap.size (fun k_ => some k_ ≠ (v735 : Value).ownBlock) v739 t737) ∧ Aside0 (Below w.heap.size w w'))
    case atStart => exact ⟨(t733), (0), (by first | rfl | (simp; done) | (simp [*]; done)), H', ⟨Nat.le_refl _⟩, ⟨by (with_reducible repeat (first | apply Kd.R_alloc | apply Kd.R_drewN | apply Kd.R_drew)); exact HO_8.out⟩, ⟨by (with_reducible repeat (first | apply Kd.R_alloc | apply Kd.R_drewN | apply Kd.R_drew)); exact HO_10.out⟩, ⟨by repeat (first | (with_reducible first | exact HB.out | apply below_alloc | apply pw_below_drewN | apply below_drew1) | exact HB.out)⟩⟩
    case round =>
     clear H'
     try clear c1
     try clear p2
     try clear c5
     try clear c9
     try clear c10
     try clear p2
     obtain ⟨x8_2, x12_2, rfl, HA, HK2, HO_8, HO_10, HB⟩ := hrel
     cases gk with
     | zero => exact absurd HA.out (by simp [kimberliteref02_Two.l0])
     | succ k2 =>
      have H := HA.out
      clear HA
      simp only [kimberliteref02_Two.l0] at H
      by_cases c11 : x12_2 < 1728
      ·rw [if_pos c11] at H
       have c11b0 : decide (x12_2 < 1728) = true := decide_eq_true c11
       clear c11
       by_cases c12 : a2 = true
       ·subst c12
        have H1 : (if 0 ≤ x12_2 then (if x12_2 < (x8_2.length : Int) then (if rdOf false x8_2 x12_2 = true then (if x12_2 < (t737.length : Int) then (kimberliteref02_Two.l0 k2 true (x8_2.set (x12_2 : Int).toNat (rdOf false t737 x12_2)) t737 (wrap64 (x12_2 + 1))) else (none)) else (kimberliteref02_Two.l0 k2 true (x8_2.set (x12_2 : Int).toNat false) t737 (wrap64 (x12_2 + 1)))) else (none)) else (none)) = some (r1, r2) := by rw [if_pos rfl] at H; exact H
        clear H
        have H := H1
        clear H1
        by_cases c13 : 0 ≤ x12_2
        ·rw [if_pos c13] at H
         have c13b0 : decide (0 ≤ x12_2) = true := decide_eq_true c13
         clear c13
         by_cases c14 : x12_2 < (x8_2.length : Int)
         ·rw [if_pos c14] at H
          have c14b0 : decide (x12_2 < (x8_2.length : Int)) = true := decide_eq_true c14
          clear c14
          obtain ⟨bq15, hbq15⟩ : ∃ b_ : Bool, b_ = (rdOf false x8_2 x12_2) := ⟨_, rfl⟩
          replace H : (if bq15 = true then (if x12_2 < (t737.length : Int) then (kimberliteref02_Two.l0 k2 true (x8_2.set (x12_2 : Int).toNat (rdOf false t737 x12_2)) t737 (wrap64 (x12_2 + 1))) else (none)) else (kimberliteref02_Two.l0 k2 true (x8_2.set (x12_2 : Int).toNat false) t737 (wrap64 (x12_2 + 1)))) = some (r1, r2) := by rw [← hbq15] at H; exact H
          have Nbq15 := Aside0.mk hbq15
          clear hbq15
          by_cases c16 : bq15 = true
          ·subst c16
           have H1 : (if x12_2 < (t737.length : Int) then (kimberliteref02_Two.l0 k2 true (x8_2.set (x12_2 : Int).toNat (rdOf false t737 x12_2)) t737 (wrap64 (x12_2 + 1))) else (none)) = some (r1, r2) := by rw [if_pos rfl] at H; exact H
           clear H
           have H := H1
           clear H1
           by_cases c17 : x12_2 < (t737.length : Int)
           ·rw [if_pos c17] at H
            have c17b0 : decide (x12_2 < (t737.length : Int)) = true := decide_eq_true c17
            clear c17
            obtain ⟨y743, hy743⟩ : ∃ y_ : List Bool, y_ = (x8_2.set (x12_2 : Int).toNat (rdOf false t737 x12_2)) := ⟨_, rfl⟩
            replace H : (kimberliteref02_Two.l0 k2 true y743 t737 (wrap64 (x12_2 + 1))) = some (r1, r2) := by first | (rw [hy743]; with_reducible exact H) | (have H2_ := (Option.bind_some _ _).symm.trans H; rw [hy743]; with_reducible exact H2_) | (have H2_ := (Option.bind_some _ _).symm.trans H; with_reducible exact H2_) | with_reducible exact H | (rw [hy743]; exact H) | exact H
            have Ny743 := Aside0.mk hy743
            clear hy743
            have H' := Aside0.mk H
            clear H
            obtain ⟨Ao19, co19, eo19⟩ := Kd.R_slice HO_8.out
            subst eo19
            have p741 : 0 ≤ (x12_2 : Int) := of_decide_eq_true (by first | (with_reducible assumption) | assumption)
            have q741 : x12_2 < (x8_2.length : Int) := of_decide_eq_true (by first | (with_reducible assumption) | assumption)
            obtain ⟨ad741, e741, hx741_0⟩ := Kd.at_bool (Kd.R_reads' HO_8.out).2.2 x12_2 p741 q741
            (try rw [← Nbq15.out] at hx741_0)
            cases e741
            replace p741 := eq_true p741
            replace q741 := eq_true q741
            obtain ⟨Ao20, co20, eo20⟩ := Kd.R_slice HO_10.out
            subst eo20
            have p742 : 0 ≤ (x12_2 : Int) := of_decide_eq_true (by first | (with_reducible assumption) | assumption)
            have q742 : x12_2 < (t737.length : Int) := of_decide_eq_true (by first | (with_reducible assumption) | assumption)
            obtain ⟨ad742, e742, hx742_0⟩ := Kd.at_bool (Kd.R_reads' HO_10.out).2.2 x12_2 p742 q742
            (try rw [← Nbq15.out] at hx742_0)
            cases e742
            replace p742 := eq_true p742
            replace q742 := eq_true q742
            have p18 : 0 ≤ (x12_2 : Int) := of_decide_eq_true (by first | (with_reducible assumption) | assumption)
            have q18 : (x12_2 : Int) < ((x8_2.length : Int) : Int) := of_decide_eq_true (by first | (with_reducible assumption) | assumption)
            obtain ⟨go18, co18, eo18, gb18, gl18, cl18, HG18⟩ := Kd.R_form HO_8.out (by omega)
            (first | cases eo18 | (injection eo18 with ea_ en_ ec_; (first | subst ea_ | (injection ea_ with ea_; subst ea_)); subst ec_; clear en_))
            have GB18 := Aside0.mk gb18
            have GG18 := Aside0.mk HG18
            clear gb18 gl18 HG18
            (first | simp only [add_plain] at hx741_0 | skip)
            obtain ⟨hx18_0, hf18_0⟩ := Kd.R_celln false HO_8.out (x12_2 : Int) p18 q18
            replace p18 := eq_true p18
            replace q18 := eq_true q18
            have HP21 := Kd.R_putg HO_8.out (x12_2 : Int) (rdOf false t737 x12_2)
            go_wp2_with (first | ((with_reducible refine gate_store (t := 4) (p := 46) rfl ?_); refine store_event (t := 4) (p := 46) (v := ?vo_w22) (w1 := (wr.setCell ⟨go18, (x12_2 : Int).toNat, none⟩ (.bool (rdOf false t737 x12_2)))) ?hg ?ho ?hn ?hr ?_; (case ho => rfl); (case hg => rfl); (case hn => rfl); (case hr => first | (go_simp; done) | (go_simp; rfl)); intro w22 hw; have hg : wr.grownBy w22 (some go18) := (by rw [hw]; exact HP21.2); have hp_ : Kd.R Kd.bool 4 w22 w.heap.size (fun k_ => some k_ ≠ (.slice (some ad742) t737.length co20 : Value).ownBlock) (.slice (some ⟨go18, 0, none⟩) x8_2.length co19) y743 := (by rw [hw, Ny743.out]; exact HP21.1); clear HP21; have n0_ := Aside0.mk (hp_); have n1_ := Aside0.mk (Kd.R_after (v := (.slice (some ⟨go18, 0, none⟩) x8_2.length co19)) (v1 := (.slice (some ⟨go18, 0, none⟩) x8_2.length co19)) (ok := (fun _ => True)) (by (with_reducible repeat (first | apply Kd.R_alloc | apply Kd.R_drewN | apply Kd.R_drew)); exact Kd.R_mono HO_10.out (fun _ hk => ⟨trivial, hk⟩)) hg (.inl rfl)); have n2_ := Aside0.mk ((by rw [hw]; exact below_set (HB.out) GB18.out : Below w.heap.size w w22)); clear HO_8; clear HO_10; clear HB; have HO_8 := n0_; have HO_10 := n1_; have HB := n2_; clear n0_ n1_ n2_; clear hg hw hp_))
            go_roundg k2
            case measure => have := HJ5.out; have := HK2.out; omega
            case rel => exact ⟨(y743), (wrap64 (x12_2 + 1)), (by first | rfl | (simp; done) | (simp [*]; done)), H', ⟨by have := HJ5.out; have := HK2.out; omega⟩, ⟨by (with_reducible repeat (first | apply Kd.R_alloc | apply Kd.R_drewN | apply Kd.R_drew)); exact HO_8.out⟩, ⟨by (with_reducible repeat (first | apply Kd.R_alloc | apply Kd.R_drewN | apply Kd.R_drew)); exact Kd.R_mono HO_10.out (fun _ hk => hk.2)⟩, ⟨by repeat (first | (with_reducible first | exact HB.out | apply below_alloc | apply pw_below_drewN | apply below_drew1) | exact HB.out)⟩⟩
           ·rw [if_neg c17] at H
            exact absurd H (by simp)
          ·replace c16 := Bool.eq_false_iff.mpr c16
           subst c16
           have H1 : (kimberliteref02_Two.l0 k2 true (x8_2.set (x12_2 : Int).toNat false) t737 (wrap64 (x12_2 + 1))) = some (r1, r2) := by rw [if_neg (show ¬ (false = true) by decide)] at H; exact H
           clear H
           have H := H1
           clear H1
           obtain ⟨y744, hy744⟩ : ∃ y_ : List Bool, y_ = (x8_2.set (x12_2 : Int).toNat false) := ⟨_, rfl⟩
           replace H : (kimberliteref02_Two.l0 k2 true y744 t737 (wrap64 (x12_2 + 1))) = some (r1, r2) := by first | (rw [hy744]; with_reducible exact H) | (have H2_ := (Option.bind_some _ _).symm.trans H; rw [hy744]; with_reducible exact H2_) | (have H2_ := (Option.bind_some _ _).symm.trans H; with_reducible exact H2_) | with_reducible exact H | (rw [hy744]; exact H) | exact H
           have Ny744 := Aside0.mk hy744
           clear hy744
           have H' := Aside0.mk H
           clear H
           obtain ⟨Ao24, co24, eo24⟩ := Kd.R_slice HO_8.out
           subst eo24
           have p741 : 0 ≤ (x12_2 : Int) := of_decide_eq_true (by first | (with_reducible assumption) | assumption)
           have q741 : x12_2 < (x8_2.length : Int) := of_decide_eq_true (by first | (with_reducible assumption) | assumption)
           obtain ⟨ad741, e741, hx741_0⟩ := Kd.at_bool (Kd.R_reads' HO_8.out).2.2 x12_2 p741 q741
           (try rw [← Nbq15.out] at hx741_0)
           cases e741
           replace p741 := eq_true p741
           replace q741 := eq_true q741
           have p23 : 0 ≤ (x12_2 : Int) := of_decide_eq_true (by first | (with_reducible assumption) | assumption)
           have q23 : (x12_2 : Int) < ((x8_2.length : Int) : Int) := of_decide_eq_true (by first | (with_reducible assumption) | assumption)
           obtain ⟨go23, co23, eo23, gb23, gl23, cl23, HG23⟩ := Kd.R_form HO_8.out (by omega)
           (first | cases eo23 | (injection eo23 with ea_ en_ ec_; (first | subst ea_ | (injection ea_ with ea_; subst ea_)); subst ec_; clear en_))
           have GB23 := Aside0.mk gb23
           have GG23 := Aside0.mk HG23
           clear gb23 gl23 HG23
           (first | simp only [add_plain] at hx741_0 | skip)
           obtain ⟨hx23_0, hf23_0⟩ := Kd.R_celln false HO_8.out (x12_2 : Int) p23 q23
           replace p23 := eq_true p23
           replace q23 := eq_true q23
           have HP25 := Kd.R_putg HO_8.out (x12_2 : Int) false
           go_wp2_with (first | ((with_reducible refine gate_store (t := 4) (p := 46) rfl ?_); refine store_event (t := 4) (p := 46) (v := ?vo_w26) (w1 := (wr.setCell ⟨go23, (x12_2 : Int).toNat, none⟩ (.bool false))) ?hg ?ho ?hn ?hr ?_; (case ho => rfl); (case hg => rfl); (case hn => rfl); (case hr => first | (go_simp; done) | (go_simp; rfl)); intro w26 hw; have hg : wr.grownBy w26 (some go23) := (by rw [hw]; exact HP25.2); have hp_ : Kd.R Kd.bool 4 w26 w.heap.size (fun k_ => some k_ ≠ (v739 : Value).ownBlock) (.slice (some ⟨go23, 0, none⟩) x8_2.length co24) y744 := (by rw [hw, Ny744.out]; exact HP25.1); clear HP25; have n0_ := Aside0.mk (hp_); have n1_ := Aside0.mk (Kd.R_after (v := (.slice (some ⟨go23, 0, none⟩) x8_2.length co24)) (v1 := (.slice (some ⟨go23, 0, none⟩) x8_2.length co24)) (ok := (fun _ => True)) (by (with_reducible repeat (first | apply Kd.R_alloc | apply Kd.R_drewN | apply Kd.R_drew)); exact Kd.R_mono HO_10.out (fun _ hk => ⟨trivial, hk⟩)) hg (.inl rfl)); have n2_ := Aside0.mk ((by rw [hw]; exact below_set (HB.out) GB23.out : Below w.heap.size w w26)); clear HO_8; clear HO_10; clear HB; have HO_8 := n0_; have HO_10 := n1_; have HB := n2_; clear n0_ n1_ n2_; clear hg hw hp_))
           go_roundg k2
           case measure => have := HJ5.out; have := HK2.out; omega
           case rel => exact ⟨(y744), (wrap64 (x12_2 + 1)), (by first | rfl | (simp; done) | (simp [*]; done)), H', ⟨by have := HJ5.out; have := HK2.out; omega⟩, ⟨by (with_reducible repeat (first | apply Kd.R_alloc | apply Kd.R_drewN | apply Kd.R_drew)); exact HO_8.out⟩, ⟨by (with_reducible repeat (first | apply Kd.R_alloc | apply Kd.R_drewN | apply Kd.R_drew)); exact Kd.R_mono HO_10.out (fun _ hk => hk.2)⟩, ⟨by repeat (first | (with_reducible first | exact HB.out | apply below_alloc | apply pw_below_drewN | apply below_drew1) | exact HB.out)⟩⟩
         ·rw [if_neg c14] at H
          exact absurd H (by simp)
        ·rw [if_neg c13] at H
         exact absurd H (by simp)
       ·replace c12 := Bool.eq_false_iff.mpr c12
        subst c12
        have H1 : (if 0 ≤ x12_2 then (if x12_2 < (x8_2.length : Int) then (if rdOf false x8_2 x12_2 = true then (kimberliteref02_Two.l0 k2 false (x8_2.set (x12_2 : Int).toNat true) t737 (wrap64 (x12_2 + 1))) else (if x12_2 < (t737.length : Int) then (kimberliteref02_Two.l0 k2 false (x8_2.set (x12_2 : Int).toNat (rdOf false t737 x12_2)) t737 (wrap64 (x12_2 + 1))) else (none))) else (none)) else (none)) = some (r1, r2) := by rw [if_neg (show ¬ (false = true) by decide)] at H; exact H
        clear H
        have H := H1
        clear H1
        by_cases c27 : 0 ≤ x12_2
        ·rw [if_pos c27] at H
         have c27b0 : decide (0 ≤ x12_2) = true := decide_eq_true c27
         clear c27
         by_cases c28 : x12_2 < (x8_2.length : Int)
         ·rw [if_pos c28] at H
          have c28b0 : decide (x12_2 < (x8_2.length : Int)) = true := decide_eq_true c28
          clear c28
          obtain ⟨bq29, hbq29⟩ : ∃ b_ : Bool, b_ = (rdOf false x8_2 x12_2) := ⟨_, rfl⟩
          replace H : (if bq29 = true then (kimberliteref02_Two.l0 k2 false (x8_2.set (x12_2 : Int).toNat true) t737 (wrap64 (x12_2 + 1))) else (if x12_2 < (t737.length : Int) then (kimberliteref02_Two.l0 k2 false (x8_2.set (x12_2 : Int).toNat (rdOf false t737 x12_2)) t737 (wrap64 (x12_2 + 1))) else (none))) = some (r1, r2) := by rw [← hbq29] at H; exact H
          have Nbq29 := Aside0.mk hbq29
          clear hbq29
          by_cases c30 : bq29 = true
          ·subst c30
           have H1 : (kimberliteref02_Two.l0 k2 false (x8_2.set (x12_2 : Int).toNat true) t737 (wrap64 (x12_2 + 1))) = some (r1, r2) := by rw [if_pos rfl] at H; exact H
           clear H
           have H := H1
           clear H1
           obtain ⟨y746, hy746⟩ : ∃ y_ : List Bool, y_ = (x8_2.set (x12_2 : Int).toNat true) := ⟨_, rfl⟩
           replace H : (kimberliteref02_Two.l0 k2 false y746 t737 (wrap64 (x12_2 + 1))) = some (r1, r2) := by first | (rw [hy746]; with_reducible exact H) | (have H2_ := (Option.bind_some _ _).symm.trans H; rw [hy746]; with_reducible exact H2_) | (have H2_ := (Option.bind_some _ _).symm.trans H; with_reducible exact H2_) | with_reducible exact H | (rw [hy746]; exact H) | exact H
           have Ny746 := Aside0.mk hy746
           clear hy746
           have H' := Aside0.mk H
           clear H
           obtain ⟨Ao32, co32, eo32⟩ := Kd.R_slice HO_8.out
           subst eo32
           have p745 : 0 ≤ (x12_2 : Int) := of_decide_eq_true (by first | (with_reducible assumption) | assumption)
           have q745 : x12_2 < (x8_2.length : Int) := of_decide_eq_true (by first | (with_reducible assumption) | assumption)
           obtain ⟨ad745, e745, hx745_0⟩ := Kd.at_bool (Kd.R_reads' HO_8.out).2.2 x12_2 p745 q745
           (try rw [← Nbq29.out] at hx745_0)
           cases e745
           replace p745 := eq_true p745
           replace q745 := eq_true q745
           have p31 : 0 ≤ (x12_2 : Int) := of_decide_eq_true (by first | (with_reducible assumption) | assumption)
           have q31 : (x12_2 : Int) < ((x8_2.length : Int) : Int) := of_decide_eq_true (by first | (with_reducible assumption) | assumption)
           obtain ⟨go31, co31, eo31, gb31, gl31, cl31, HG31⟩ := Kd.R_form HO_8.out (by omega)
           (first | cases eo31 | (injection eo31 with ea_ en_ ec_; (first | subst ea_ | (injection ea_ with ea_; subst ea_)); subst ec_; clear en_))
           have GB31 := Aside0.mk gb31
           have GG31 := Aside0.mk HG31
           clear gb31 gl31 HG31
           (first | simp only [add_plain] at hx745_0 | skip)
           obtain ⟨hx31_0, hf31_0⟩ := Kd.R_celln false HO_8.out (x12_2 : Int) p31 q31
           replace p31 := eq_true p31
           replace q31 := eq_true q31
           have HP33 := Kd.R_putg HO_8.out (x12_2 : Int) true
           go_wp2_with (first | ((with_reducible refine gate_store (t := 4) (p := 59) rfl ?_); refine store_event (t := 4) (p := 59) (v := ?vo_w34) (w1 := (wr.setCell ⟨go31, (x12_2 : Int).toNat, none⟩ (.bool true))) ?hg ?ho ?hn ?hr ?_; (case ho => rfl); (case hg => rfl); (case hn => rfl); (case hr => first | (go_simp; done) | (go_simp; rfl)); intro w34 hw; have hg : wr.grownBy w34 (some go31) := (by rw [hw]; exact HP33.2); have hp_ : Kd.R Kd.bool 4 w34 w.heap.size (fun k_ => some k_ ≠ (v739 : Value).ownBlock) (.slice (some ⟨go31, 0, none⟩) x8_2.length co32) y746 := (by rw [hw, Ny746.out]; exact HP33.1); clear HP33; have n0_ := Aside0.mk (hp_); have n1_ := Aside0.mk (Kd.R_after (v := (.slice (some ⟨go31, 0, none⟩) x8_2.length co32)) (v1 := (.slice (some ⟨go31, 0, none⟩) x8_2.length co32)) (ok := (fun _ => True)) (by (with_reducible repeat (first | apply Kd.R_alloc | apply Kd.R_drewN | apply Kd.R_drew)); exact Kd.R_mono HO_10.out (fun _ hk => ⟨trivial, hk⟩)) hg (.inl rfl)); have n2_ := Aside0.mk ((by rw [hw]; exact below_set (HB.out) GB31.out : Below w.heap.size w w34)); clear HO_8; clear HO_10; clear HB; have HO_8 := n0_; have HO_10 := n1_; have HB := n2_; clear n0_ n1_ n2_; clear hg hw hp_))
           go_roundg k2
           case measure => have := HJ5.out; have := HK2.out; omega
           case rel => exact ⟨(y746), (wrap64 (x12_2 + 1)), (by first | rfl | (simp; done) | (simp [*]; done)), H', ⟨by have := HJ5.out; have := HK2.out; omega⟩, ⟨by (with_reducible repeat (first | apply Kd.R_alloc | apply Kd.R_drewN | apply Kd.R_drew)); exact HO_8.out⟩, ⟨by (with_reducible repeat (first | apply Kd.R_alloc | apply Kd.R_drewN | apply Kd.R_drew)); exact Kd.R_mono HO_10.out (fun _ hk => hk.2)⟩, ⟨by repeat (first | (with_reducible first | exact HB.out | apply below_alloc | apply pw_below_drewN | apply below_drew1) | exact HB.out)⟩⟩
          ·replace c30 := Bool.eq_false_iff.mpr c30
           subst c30
           have H1 : (if x12_2 < (t737.length : Int) then (kimberliteref02_Two.l0 k2 false (x8_2.set (x12_2 : Int).toNat (rdOf false t737 x12_2)) t737 (wrap64 (x12_2 + 1))) else (none)) = some (r1, r2) := by rw [if_neg (show ¬ (false = true) by decide)] at H; exact H
           clear H
           have H := H1
           clear H1
           by_cases c35 : x12_2 < (t737.length : Int)
           ·rw [if_pos c35] at H
            have c35b0 : decide (x12_2 < (t737.length : Int)) = true := decide_eq_true c35
            clear c35
            obtain ⟨y748, hy748⟩ : ∃ y_ : List Bool, y_ = (x8_2.set (x12_2 : Int).toNat (rdOf false t737 x12_2)) := ⟨_, rfl⟩
            replace H : (kimberliteref02_Two.l0 k2 false y748 t737 (wrap64 (x12_2 + 1))) = some (r1, r2) := by first | (rw [hy748]; with_reducible exact H) | (have H2_ := (Option.bind_some _ _).symm.trans H; rw [hy748]; with_reducible exact H2_) | (have H2_ := (Option.bind_some _ _).symm.trans H; with_reducible exact H2_) | with_reducible exact H | (rw [hy748]; exact H) | exact H
            have Ny748 := Aside0.mk hy748
            clear hy748
            have H' := Aside0.mk H
            clear H
            obtain ⟨Ao37, co37, eo37⟩ := Kd.R_slice HO_8.out
            subst eo37
            have p745 : 0 ≤ (x12_2 : Int) := of_decide_eq_true (by first | (with_reducible assumption) | assumption)
            have q745 : x12_2 < (x8_2.length : Int) := of_decide_eq_true (by first | (with_reducible assumption) | assumption)
            obtain ⟨ad745, e745, hx745_0⟩ := Kd.at_bool (Kd.R_reads' HO_8.out).2.2 x12_2 p745 q745
            (try rw [← Nbq29.out] at hx745_0)
            cases e745
            replace p745 := eq_true p745
            replace q745 := eq_true q745
            obtain ⟨Ao38, co38, eo38⟩ := Kd.R_slice HO_10.out
            subst eo38
            have p747 : 0 ≤ (x12_2 : Int) := of_decide_eq_true (by first | (with_reducible assumption) | assumption)
            have q747 : x12_2 < (t737.length : Int) := of_decide_eq_true (by first | (with_reducible assumption) | assumption)
            obtain ⟨ad747, e747, hx747_0⟩ := Kd.at_bool (Kd.R_reads' HO_10.out).2.2 x12_2 p747 q747
            (try rw [← Nbq29.out] at hx747_0)
            cases e747
            replace p747 := eq_true p747
            replace q747 := eq_true q747
            have p36 : 0 ≤ (x12_2 : Int) := of_decide_eq_true (by first | (with_reducible assumption) | assumption)
            have q36 : (x12_2 : Int) < ((x8_2.length : Int) : Int) := of_decide_eq_true (by first | (with_reducible assumption) | assumption)
            obtain ⟨go36, co36, eo36, gb36, gl36, cl36, HG36⟩ := Kd.R_form HO_8.out (by omega)
            (first | cases eo36 | (injection eo36 with ea_ en_ ec_; (first | subst ea_ | (injection ea_ with ea_; subst ea_)); subst ec_; clear en_))
            have GB36 := Aside0.mk gb36
            have GG36 := Aside0.mk HG36
            clear gb36 gl36 HG36
            (first | simp only [add_plain] at hx745_0 | skip)
            obtain ⟨hx36_0, hf36_0⟩ := Kd.R_celln false HO_8.out (x12_2 : Int) p36 q36
            replace p36 := eq_true p36
            replace q36 := eq_true q36
            have HP39 := Kd.R_putg HO_8.out (x12_2 : Int) (rdOf false t737 x12_2)
            go_wp2_with (first | ((with_reducible refine gate_store (t := 4) (p := 59) rfl ?_); refine store_event (t := 4) (p := 59) (v := ?vo_w40) (w1 := (wr.setCell ⟨go36, (x12_2 : Int).toNat, none⟩ (.bool (rdOf false t737 x12_2)))) ?hg ?ho ?hn ?hr ?_; (case ho => rfl); (case hg => rfl); (case hn => rfl); (case hr => first | (go_simp; done) | (go_simp; rfl)); intro w40 hw; have hg : wr.grownBy w40 (some go36) := (by rw [hw]; exact HP39.2); have hp_ : Kd.R Kd.bool 4 w40 w.heap.size (fun k_ => some k_ ≠ (.slice (some ad747) t737.length co38 : Value).ownBlock) (.slice (some ⟨go36, 0, none⟩) x8_2.length co37) y748 := (by rw [hw, Ny748.out]; exact HP39.1); clear HP39; have n0_ := Aside0.mk (hp_); have n1_ := Aside0.mk (Kd.R_after (v := (.slice (some ⟨go36, 0, none⟩) x8_2.length co37)) (v1 := (.slice (some ⟨go36, 0, none⟩) x8_2.length co37)) (ok := (fun _ => True)) (by (with_reducible repeat (first | apply Kd.R_alloc | apply Kd.R_drewN | apply Kd.R_drew)); exact Kd.R_mono HO_10.out (fun _ hk => ⟨trivial, hk⟩)) hg (.inl rfl)); have n2_ := Aside0.mk ((by rw [hw]; exact below_set (HB.out) GB36.out : Below w.heap.size w w40)); clear HO_8; clear HO_10; clear HB; have HO_8 := n0_; have HO_10 := n1_; have HB := n2_; clear n0_ n1_ n2_; clear hg hw hp_))
            go_roundg k2
            case measure => have := HJ5.out; have := HK2.out; omega
            case rel => exact ⟨(y748), (wrap64 (x12_2 + 1)), (by first | rfl | (simp; done) | (simp [*]; done)), H', ⟨by have := HJ5.out; have := HK2.out; omega⟩, ⟨by (with_reducible repeat (first | apply Kd.R_alloc | apply Kd.R_drewN | apply Kd.R_drew)); exact HO_8.out⟩, ⟨by (with_reducible repeat (first | apply Kd.R_alloc | apply Kd.R_drewN | apply Kd.R_drew)); exact Kd.R_mono HO_10.out (fun _ hk => hk.2)⟩, ⟨by repeat (first | (with_reducible first | exact HB.out | apply below_alloc | apply pw_below_drewN | apply below_drew1) | exact HB.out)⟩⟩
           ·rw [if_neg c35] at H
            exact absurd H (by simp)
         ·rw [if_neg c28] at H
          exact absurd H (by simp)
        ·rw [if_neg c27] at H
         exact absurd H (by simp)
      ·rw [if_neg c11] at H
       have c11b0 : decide (x12_2 < 1728) = false := decide_eq_false c11
       clear c11
       replace H := Option.bind_eq_some_iff.mp H
       obtain ⟨t749, A410, H⟩ := H
       replace H : (some (t749, 0)) = some (r1, r2) := H
       have A41 := Aside0.mk A410
       clear A410
       simp only [Option.some.injEq, Prod.mk.injEq] at H
       obtain ⟨rfl, rfl⟩ := H
       obtain ⟨Ao42, co42, eo42⟩ := Kd.R_slice HO_8.out
       subst eo42
       go_wp2_with (first | ((with_reducible refine gate_callee (f := 92) rfl ?_); refine goesL_ (some 61) rfl rfl Try.func92 (by kernel_rfl) rfl #[.slice Ao42 x8_2.length co42, .bool false] rfl (by (try simp only [List.map_toArray, List.map_cons, List.map_nil]); first | done | rfl | (simp only [List.length_drop, List.length_take]; rfl)) ?_; (with_reducible refine (kimberliteref02_edge.calls _ _ x8_2 false t749 _ ?side1 ?side2 A41.out).mono ?_); (case side1 => repeat (first | exact (Kd.R_reads' HO_8.out).2.2 | (with_reducible refine Kd.C_alloc ?_ _) | (with_reducible refine Kd.C_drewN ?_ _) | (with_reducible refine Kd.C_drew ?_))); (case side2 => exact (Kd.R_reads' HO_8.out).2.1); rintro e w43 ⟨v750, rfl, ho0, hb⟩; refine ⟨_, rfl, ?_⟩; have n0_ := Aside0.mk (Kd.R_below (by (with_reducible repeat (first | apply Kd.R_alloc | apply Kd.R_drewN | apply Kd.R_drew)); exact HO_8.out) hb); have n1_ := Aside0.mk (Kd.R_below (by (with_reducible repeat (first | apply Kd.R_alloc | apply Kd.R_drewN | apply Kd.R_drew)); exact HO_10.out) hb); have n2_ := Aside0.mk (Kd.R_lower ho0 (below_size (by repeat (first | (with_reducible first | exact HB.out | apply below_alloc | apply pw_below_drewN | apply below_drew1) | exact HB.out)))); have n3_ := Aside0.mk (below_step (by repeat (first | (with_reducible first | exact HB.out | apply below_alloc | apply pw_below_drewN | apply below_drew1) | exact HB.out)) hb); clear HO_8; clear HO_10; clear HB; have HO_8 := n0_; have HO_10 := n1_; have HO751 := n2_; have HB := n3_; clear n0_ n1_ n2_ n3_; (try clear hb); (try clear hb2); (try clear hk); (try clear hi); (try clear ho0)))
       go_ret2
       exact ⟨_, by first | rfl | (simp [errW_none, errW_some] <;> rfl) | (simp [*, errW_none, errW_some] <;> rfl), by (with_reducible repeat (first | apply Kd.R_alloc | apply Kd.R_drewN | apply Kd.R_drew)); exact HO751.out, by repeat (first | (with_reducible first | exact HB.out | apply below_alloc | apply pw_below_drewN | apply below_drew1) | exact HB.out)⟩
end Go.Proofs.Ytnbdfmdjedakcaa.PP
