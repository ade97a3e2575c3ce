/- No conditions. -/
import Derived.Test.YtnbdfmdjedakcaaQ0
import Derived.Test.YtnbdfmdjedakcaaQ28
import Derived.Test.YtnbdfmdjedakcaaQ93
namespace Go.Proofs.Ytnbdfmdjedakcaa.PP
open Go.RowKit Go.Proofs.YtnbdfmdjedakcaaW.PrintWords Go.Proofs.YtnbdfmdjedakcaaW.PrintLast Go.Proofs.YtnbdfmdjedakcaaW.PrintMore
attribute [local go_sem] max2_int min2_int max_two min_two max_three min_three max_four min_four
set_option linter.unusedVariables false
set_option linter.unusedSimpArgs false
mutual
def kimberliteref02_ends.l0 : Nat → List Bool → Bool → List (S36) → Int → Option ((List (S36)))
 | 0, _, _, _, _ => none
 | k + 1, x0, x1, x5, x6 => if x6 < 1728 then (if 0 ≤ x6 then (if x6 < (x0.length : Int) then (if rdOf false x0 x6 = true then (kimberliteref02_ends.l1 k x0 x1 x5 x6 true 0) else (kimberliteref02_ends.l0 k x0 x1 x5 (wrap64 (x6 + 1)))) else (none)) else (none)) else (some x5)
def kimberliteref02_ends.l1 : Nat → List Bool → Bool → List (S36) → Int → Bool → Int → Option ((List (S36)))
 | 0, _, _, _, _, _, _ => none
 | k + 1, x0, x1, x5, x6, x7, x8 => if x8 < 1728 then (kimberliteref02_ends.j2 k x0 x1 x5 x6 x7 x8 x7) else (kimberliteref02_ends.j2 k x0 x1 x5 x6 x7 x8 false)
def kimberliteref02_ends.j2 : Nat → List Bool → Bool → List (S36) → Int → Bool → Int → Bool → Option ((List (S36)))
 | 0, _, _, _, _, _, _, _ => none
 | k + 1, x0, x1, x5, x6, x7, x8, x22 => if x22 = true then (if 0 ≤ x8 then (if x8 < (x0.length : Int) then (if rdOf false x0 x8 = true then (if x8 = x6 then (kimberliteref02_ends.l1 k x0 x1 x5 x6 x7 (wrap64 (x8 + 1))) else (if x1 = true then ((kimberliteref02_Nth.f x6).bind fun bt343 => ((kimberliteref02_Nth.f x8).bind fun bt346 => ((kimberliteref02_Below.f bt343.1 bt343.2.1 bt343.2.2 bt346.1 bt346.2.1 bt346.2.2).bind fun t349 => (if t349 = true then (kimberliteref02_ends.l1 k x0 x1 x5 x6 false (wrap64 (x8 + 1))) else (kimberliteref02_ends.l1 k x0 x1 x5 x6 x7 (wrap64 (x8 + 1))))))) else ((kimberliteref02_Nth.f x8).bind fun bt350 => ((kimberliteref02_Nth.f x6).bind fun bt353 => ((kimberliteref02_Below.f bt350.1 bt350.2.1 bt350.2.2 bt353.1 bt353.2.1 bt353.2.2).bind fun t356 => (if t356 = true then (kimberliteref02_ends.l1 k x0 x1 x5 x6 false (wrap64 (x8 + 1))) else (kimberliteref02_ends.l1 k x0 x1 x5 x6 x7 (wrap64 (x8 + 1))))))))) else (kimberliteref02_ends.l1 k x0 x1 x5 x6 x7 (wrap64 (x8 + 1)))) else (none)) else (none)) else (if x7 = true then ((kimberliteref02_Nth.f x6).bind fun bt336 => (if x5.length < 5864062014805 then (kimberliteref02_ends.l0 k x0 x1 (x5 ++ [(⟨bt336.1, bt336.2.1, bt336.2.2⟩ : S36)]) (wrap64 (x6 + 1))) else (none))) else (kimberliteref02_ends.l0 k x0 x1 x5 (wrap64 (x6 + 1))))
end
def kimberliteref02_ends.f (k : Nat) (l0 : List Bool) (a1 : Bool) : Option ((List (S36))) := kimberliteref02_ends.l0 k l0 a1 ([] : List (S36)) 0
theorem kimberliteref02_ends.mono_l : ∀ k, (∀ y0 y1 y2 y3, LeO (kimberliteref02_ends.l0 k y0 y1 y2 y3) (kimberliteref02_ends.l0 (k + 1) y0 y1 y2 y3)) ∧ (∀ y0 y1 y2 y3 y4 y5, LeO (kimberliteref02_ends.l1 k y0 y1 y2 y3 y4 y5) (kimberliteref02_ends.l1 (k + 1) y0 y1 y2 y3 y4 y5)) ∧ (∀ y0 y1 y2 y3 y4 y5 y6, LeO (kimberliteref02_ends.j2 k y0 y1 y2 y3 y4 y5 y6) (kimberliteref02_ends.j2 (k + 1) y0 y1 y2 y3 y4 y5 y6))
 | 0 => ⟨fun _ _ _ _ r h => by simp [kimberliteref02_ends.l0] at h, fun _ _ _ _ _ _ r h => by simp [kimberliteref02_ends.l1] at h, fun _ _ _ _ _ _ _ r h => by simp [kimberliteref02_ends.j2] at h⟩
 | k + 1 => by
  obtain ⟨ih0, ih1, ih2⟩ := kimberliteref02_ends.mono_l k
  refine ⟨?_, ?_, ?_⟩
  ·intro y0 y1 y2 y3
   unfold kimberliteref02_ends.l0
   repeat' first
   | (with_reducible exact ih0 _ _ _ _)
   | (with_reducible exact ih1 _ _ _ _ _ _)
   | (with_reducible exact ih2 _ _ _ _ _ _ _)
   | (with_reducible exact LeO.refl _)
   | (with_reducible exact LeO.none _)
   | (with_reducible refine LeO.ite ?_ ?_)
   | (with_reducible refine LeO.bind ?_ (fun _ => ?_))
   | exact ih0 _ _ _ _
   | exact ih1 _ _ _ _ _ _
   | exact ih2 _ _ _ _ _ _ _
   | exact LeO.none _
   | refine LeO.ite ?_ ?_
   | refine LeO.bind ?_ (fun _ => ?_)
  ·intro y0 y1 y2 y3 y4 y5
   unfold kimberliteref02_ends.l1
   repeat' first
   | (with_reducible exact ih0 _ _ _ _)
   | (with_reducible exact ih1 _ _ _ _ _ _)
   | (with_reducible exact ih2 _ _ _ _ _ _ _)
   | (with_reducible exact LeO.refl _)
   | (with_reducible exact LeO.none _)
   | (with_reducible refine LeO.ite ?_ ?_)
   | (with_reducible refine LeO.bind ?_ (fun _ => ?_))
   | exact ih0 _ _ _ _
   | exact ih1 _ _ _ _ _ _
   | exact ih2 _ _ _ _ _ _ _
   | exact LeO.none _
   | refine LeO.ite ?_ ?_
   | refine LeO.bind ?_ (fun _ => ?_)
  ·intro y0 y1 y2 y3 y4 y5 y6
   unfold kimberliteref02_ends.j2
   repeat' first
   | (with_reducible exact ih0 _ _ _ _)
   | (with_reducible exact ih1 _ _ _ _ _ _)
   | (with_reducible exact ih2 _ _ _ _ _ _ _)
   | (with_reducible exact LeO.refl _)
   | (with_reducible exact LeO.none _)
   | (with_reducible refine LeO.ite ?_ ?_)
   | (with_reducible refine LeO.bind ?_ (fun _ => ?_))
   | exact ih0 _ _ _ _
   | exact ih1 _ _ _ _ _ _
   | exact ih2 _ _ _ _ _ _ _
   | exact LeO.none _
   | refine LeO.ite ?_ ?_
   | refine LeO.bind ?_ (fun _ => ?_)
theorem kimberliteref02_ends.mono : ∀ a0 a1 k, LeO (kimberliteref02_ends.f k a0 a1) (kimberliteref02_ends.f (k + 1) a0 a1) := by
 intro a0 a1 k
 obtain ⟨ih0, ih1, ih2⟩ := kimberliteref02_ends.mono_l k
 unfold kimberliteref02_ends.f
 repeat' first
   | (with_reducible exact ih0 _ _ _ _)
   | (with_reducible exact ih1 _ _ _ _ _ _)
   | (with_reducible exact ih2 _ _ _ _ _ _ _)
   | (with_reducible exact LeO.refl _)
   | (with_reducible exact LeO.none _)
   | (with_reducible refine LeO.ite ?_ ?_)
   | (with_reducible refine LeO.bind ?_ (fun _ => ?_))
   | exact ih0 _ _ _ _
   | exact ih1 _ _ _ _ _ _
   | exact ih2 _ _ _ _ _ _ _
   | exact LeO.none _
   | refine LeO.ite ?_ ?_
   | refine LeO.bind ?_ (fun _ => ?_)
set_option maxHeartbeats 8000000 in
set_option maxRecDepth 100000 in
theorem kimberliteref02_ends.calls (k : Nat) (A0 : Option Addr) (c0 : Nat) (l0 : List Bool) (a1 : Bool) (r : List (S36)) (w : World) (hr0 : Kd.C Kd.bool w A0 l0.length l0) (hc0 : l0.length ≤ c0) (h : kimberliteref02_ends.f k l0 a1 = some r) :
  Calls Try.prog 73 #[.slice A0 l0.length c0, .bool a1] w fun e w' => ∃ v0_ : Value, e = .returned (v0_) ∧ Kd.R k36 36 w' w.heap.size (fun _ => True) v0_ r ∧ Below w.heap.size w w' := by
 have HR0 := Aside0.mk hr0
 have HC0 := Aside0.mk hc0
 clear hr0 hc0
 have HB := Aside0.mk (Below.refl w.heap.size w)
 have H : (kimberliteref02_ends.l0 k l0 a1 ([] : List (S36)) 0) = some r := h
 clear h
 have H' := Aside0.mk H
 clear H
 go_enter Try.func73, Try.ntmps73
 go_wp2
 go_loopg [5, 6] k (fun kq v5 v6 w' => ∃ (x5_1 : List (S36)) (x6_1 : Int), v6 = .int .i64 x6_1 ∧ Aside0 (kimberliteref02_ends.l0 kq l0 a1 x5_1 x6_1 = some r) ∧ Aside0 (kq ≤ k) ∧ Aside0 (Kd.R k36 36 w' w.heap.size (fun _ => True) v5 x5_1) ∧ Aside0 (Below w.heap.size w w'))
 case atStart => exact ⟨(([] : List (S36))), (0), (by first | rfl | (simp; done) | (simp [*]; done)), H', ⟨Nat.le_refl _⟩, ⟨by first | exact Kd.R_nil _ _ _ _ _ | exact Kd.N_nil _ _ _ _ _ | exact Kd.V_nil _ _ _ _ _ | exact Kd.Q_nil _ _ _ _ _ | exact Kd.S_nil _ _ _ _ _⟩, ⟨by repeat (first | (with_reducible first | exact HB.out | apply below_alloc | apply pw_below_drewN | apply below_drew1) | exact HB.out)⟩⟩
 case round =>
  clear H'
  try clear p2
  obtain ⟨x5_1, x6_1, rfl, HA, HK1, HO_5, HB⟩ := hrel
  cases gk with
  | zero => exact absurd HA.out (by simp [kimberliteref02_ends.l0])
  | succ k1 =>
   have H := HA.out
   clear HA
   simp only [kimberliteref02_ends.l0] at H
   by_cases c3 : x6_1 < 1728
   ·rw [if_pos c3] at H
    have c3b0 : decide (x6_1 < 1728) = true := decide_eq_true c3
    clear c3
    by_cases c4 : 0 ≤ x6_1
    ·rw [if_pos c4] at H
     have c4b0 : decide (0 ≤ x6_1) = true := decide_eq_true c4
     clear c4
     by_cases c5 : x6_1 < (l0.length : Int)
     ·rw [if_pos c5] at H
      have c5b0 : decide (x6_1 < (l0.length : Int)) = true := decide_eq_true c5
      clear c5
      obtain ⟨bq6, hbq6⟩ : ∃ b_ : Bool, b_ = (rdOf false l0 x6_1) := ⟨_, rfl⟩
      replace H : (if bq6 = true then (kimberliteref02_ends.l1 k1 l0 a1 x5_1 x6_1 true 0) else (kimberliteref02_ends.l0 k1 l0 a1 x5_1 (wrap64 (x6_1 + 1)))) = some r := by rw [← hbq6] at H; exact H
      have Nbq6 := Aside0.mk hbq6
      clear hbq6
      by_cases c7 : bq6 = true
      ·subst c7
       have H1 : (kimberliteref02_ends.l1 k1 l0 a1 x5_1 x6_1 true 0) = some r := by rw [if_pos rfl] at H; exact H
       clear H
       have H := H1
       clear H1
       have H' := Aside0.mk H
       clear H
       have p335 : 0 ≤ (x6_1 : Int) := of_decide_eq_true (by first | (with_reducible assumption) | assumption)
       have q335 : x6_1 < (l0.length : Int) := of_decide_eq_true (by first | (with_reducible assumption) | assumption)
       obtain ⟨ad335, e335, hx335_0⟩ := Kd.at_bool HR0.out x6_1 p335 q335
       (try rw [← Nbq6.out] at hx335_0)
       cases e335
       replace hx335_0 := (HB.out.cell (World.block_lt_of_cell? w _ hx335_0)).trans hx335_0
       replace p335 := eq_true p335
       replace q335 := eq_true q335
       go_wp2
       go_loopg [7, 8] k1 (fun kq v7 v8 w' => ∃ (x7_2 : Bool) (x8_2 : Int), v7 = .bool x7_2 ∧ v8 = .int .i64 x8_2 ∧ Aside0 (kimberliteref02_ends.l1 kq l0 a1 x5_1 x6_1 x7_2 x8_2 = some r) ∧ Aside0 (kq ≤ k1) ∧ Aside0 (Kd.R k36 36 w' w.heap.size (fun _ => True) u5 x5_1) ∧ Aside0 (Below w.heap.size w w'))
       case atStart => exact ⟨(true), (0), (by first | rfl | (simp; done) | (simp [*]; done)), (by first | rfl | (simp; done) | (simp [*]; done)), H', ⟨Nat.le_refl _⟩, ⟨by (with_reducible repeat (first | apply Kd.R_alloc | apply Kd.R_drewN | apply Kd.R_drew)); exact HO_5.out⟩, ⟨by repeat (first | (with_reducible first | exact HB.out | apply below_alloc | apply pw_below_drewN | apply below_drew1) | exact HB.out)⟩⟩
       case round =>
        clear H'
        try clear p2
        try clear c3
        try clear c3b0
        try clear p3
        try clear q3
        try clear hx3
        try clear c4
        try clear c4b0
        try clear c5
        try clear c5b0
        try clear p6
        try clear q6
        try clear c7
        try clear hx335_0
        try clear p2
        try clear p335
        try clear q335
        obtain ⟨x7_2, x8_2, rfl, rfl, HA, HK2, HO_5, HB⟩ := hrel
        cases gk with
        | zero => exact absurd HA.out (by simp [kimberliteref02_ends.l1])
        | succ k2 =>
         have H := HA.out
         clear HA
         simp only [kimberliteref02_ends.l1] at H
         have HC8 := Aside0.mk H
         clear H
         go_upto_region 8 with (fail)
         go_cut [22] (fun v22 wc => ∃ (kq : Nat) (x22_7 : Bool), v22 = .bool x22_7 ∧ Aside0 (kimberliteref02_ends.j2 kq l0 a1 x5_1 x6_1 x7_2 x8_2 x22_7 = some r) ∧ Aside0 (kq ≤ k2) ∧ Aside0 (Kd.R k36 36 wc w.heap.size (fun _ => True) u5 x5_1) ∧ Aside0 (Below w.heap.size w wc))
         case first =>
          have H := HC8.out
          clear HC8
          by_cases c9 : x8_2 < 1728
          ·rw [if_pos c9] at H
           have c9b0 : decide (x8_2 < 1728) = true := decide_eq_true c9
           clear c9
           (first | rw [c9b0] | (simp only [i64_w, i32_w]; rw [c9b0]) | skip)
           have H' := Aside0.mk H
           clear H
           go_wp2
           go_meet
           case rel => exact ⟨_, (x7_2), (by first | rfl | (simp; done) | (simp [*]; done)), H', ⟨by have := HK1.out; have := HK2.out; first | omega | exact Nat.le_refl _⟩, ⟨by (with_reducible repeat (first | apply Kd.R_alloc | apply Kd.R_drewN | apply Kd.R_drew)); exact HO_5.out⟩, ⟨by repeat (first | (with_reducible first | exact HB.out | apply below_alloc | apply pw_below_drewN | apply below_drew1) | exact HB.out)⟩⟩
          ·rw [if_neg c9] at H
           have c9b0 : decide (x8_2 < 1728) = false := decide_eq_false c9
           clear c9
           (first | rw [c9b0] | (simp only [i64_w, i32_w]; rw [c9b0]) | skip)
           have H' := Aside0.mk H
           clear H
           go_wp2
           go_meet
           case rel => exact ⟨_, (false), (by first | rfl | (simp; done) | (simp [*]; done)), H', ⟨by have := HK1.out; have := HK2.out; first | omega | exact Nat.le_refl _⟩, ⟨by (with_reducible repeat (first | apply Kd.R_alloc | apply Kd.R_drewN | apply Kd.R_drew)); exact HO_5.out⟩, ⟨by repeat (first | (with_reducible first | exact HB.out | apply below_alloc | apply pw_below_drewN | apply below_drew1) | exact HB.out)⟩⟩
         case rest =>
          clear HC8
          try clear p2
          try clear c3
          try clear c3b0
          try clear p3
          try clear q3
          try clear hx3
          try clear c4
          try clear c4b0
          try clear c5
          try clear c5b0
          try clear p6
          try clear q6
          try clear c7
          try clear c9
          try clear c9b0
          try clear hx335_0
          try clear p2
          try clear p3
          try clear p335
          try clear p6
          try clear q3
          try clear q335
          try clear q6
          obtain ⟨kq, x22_7, rfl, HA, HJ7, HO_5, HB⟩ := hcut
          cases kq with
          | zero => exact absurd HA.out (by simp [kimberliteref02_ends.j2])
          | succ kj7 =>
           have H := HA.out
           clear HA
           simp only [kimberliteref02_ends.j2] at H
           by_cases c10 : x22_7 = true
           ·subst c10
            have H1 : (if 0 ≤ x8_2 then (if x8_2 < (l0.length : Int) then (if rdOf false l0 x8_2 = true then (if x8_2 = x6_1 then (kimberliteref02_ends.l1 kj7 l0 a1 x5_1 x6_1 x7_2 (wrap64 (x8_2 + 1))) else (if a1 = true then ((kimberliteref02_Nth.f x6_1).bind fun bt343 => ((kimberliteref02_Nth.f x8_2).bind fun bt346 => ((kimberliteref02_Below.f bt343.1 bt343.2.1 bt343.2.2 bt346.1 bt346.2.1 bt346.2.2).bind fun t349 => (if t349 = true then (kimberliteref02_ends.l1 kj7 l0 a1 x5_1 x6_1 false (wrap64 (x8_2 + 1))) else (kimberliteref02_ends.l1 kj7 l0 a1 x5_1 x6_1 x7_2 (wrap64 (x8_2 + 1))))))) else ((kimberliteref02_Nth.f x8_2).bind fun bt350 => ((kimberliteref02_Nth.f x6_1).bind fun bt353 => ((kimberliteref02_Below.f bt350.1 bt350.2.1 bt350.2.2 bt353.1 bt353.2.1 bt353.2.2).bind fun t356 => (if t356 = true then (kimberliteref02_ends.l1 kj7 l0 a1 x5_1 x6_1 false (wrap64 (x8_2 + 1))) else (kimberliteref02_ends.l1 kj7 l0 a1 x5_1 x6_1 x7_2 (wrap64 (x8_2 + 1))))))))) else (kimberliteref02_ends.l1 kj7 l0 a1 x5_1 x6_1 x7_2 (wrap64 (x8_2 + 1)))) else (none)) else (none)) = some r := by rw [if_pos rfl] at H; exact H
            clear H
            have H := H1
            clear H1
            by_cases c11 : 0 ≤ x8_2
            ·rw [if_pos c11] at H
             have c11b0 : decide (0 ≤ x8_2) = true := decide_eq_true c11
             clear c11
             by_cases c12 : x8_2 < (l0.length : Int)
             ·rw [if_pos c12] at H
              have c12b0 : decide (x8_2 < (l0.length : Int)) = true := decide_eq_true c12
              clear c12
              obtain ⟨bq13, hbq13⟩ : ∃ b_ : Bool, b_ = (rdOf false l0 x8_2) := ⟨_, rfl⟩
              replace H : (if bq13 = true then (if x8_2 = x6_1 then (kimberliteref02_ends.l1 kj7 l0 a1 x5_1 x6_1 x7_2 (wrap64 (x8_2 + 1))) else (if a1 = true then ((kimberliteref02_Nth.f x6_1).bind fun bt343 => ((kimberliteref02_Nth.f x8_2).bind fun bt346 => ((kimberliteref02_Below.f bt343.1 bt343.2.1 bt343.2.2 bt346.1 bt346.2.1 bt346.2.2).bind fun t349 => (if t349 = true then (kimberliteref02_ends.l1 kj7 l0 a1 x5_1 x6_1 false (wrap64 (x8_2 + 1))) else (kimberliteref02_ends.l1 kj7 l0 a1 x5_1 x6_1 x7_2 (wrap64 (x8_2 + 1))))))) else ((kimberliteref02_Nth.f x8_2).bind fun bt350 => ((kimberliteref02_Nth.f x6_1).bind fun bt353 => ((kimberliteref02_Below.f bt350.1 bt350.2.1 bt350.2.2 bt353.1 bt353.2.1 bt353.2.2).bind fun t356 => (if t356 = true then (kimberliteref02_ends.l1 kj7 l0 a1 x5_1 x6_1 false (wrap64 (x8_2 + 1))) else (kimberliteref02_ends.l1 kj7 l0 a1 x5_1 x6_1 x7_2 (wrap64 (x8_2 + 1))))))))) else (kimberliteref02_ends.l1 kj7 l0 a1 x5_1 x6_1 x7_2 (wrap64 (x8_2 + 1)))) = some r := by rw [← hbq13] at H; exact H
              have Nbq13 := Aside0.mk hbq13
              clear hbq13
              by_cases c14 : bq13 = true
              ·subst c14
               have H1 : (if x8_2 = x6_1 then (kimberliteref02_ends.l1 kj7 l0 a1 x5_1 x6_1 x7_2 (wrap64 (x8_2 + 1))) else (if a1 = true then ((kimberliteref02_Nth.f x6_1).bind fun bt343 => ((kimberliteref02_Nth.f x8_2).bind fun bt346 => ((kimberliteref02_Below.f bt343.1 bt343.2.1 bt343.2.2 bt346.1 bt346.2.1 bt346.2.2).bind fun t349 => (if t349 = true then (kimberliteref02_ends.l1 kj7 l0 a1 x5_1 x6_1 false (wrap64 (x8_2 + 1))) else (kimberliteref02_ends.l1 kj7 l0 a1 x5_1 x6_1 x7_2 (wrap64 (x8_2 + 1))))))) else ((kimberliteref02_Nth.f x8_2).bind fun bt350 => ((kimberliteref02_Nth.f x6_1).bind fun bt353 => ((kimberliteref02_Below.f bt350.1 bt350.2.1 bt350.2.2 bt353.1 bt353.2.1 bt353.2.2).bind fun t356 => (if t356 = true then (kimberliteref02_ends.l1 kj7 l0 a1 x5_1 x6_1 false (wrap64 (x8_2 + 1))) else (kimberliteref02_ends.l1 kj7 l0 a1 x5_1 x6_1 x7_2 (wrap64 (x8_2 + 1))))))))) = some r := by rw [if_pos rfl] at H; exact H
               clear H
               have H := H1
               clear H1
               by_cases c15 : x8_2 = x6_1
               ·rw [if_pos c15] at H
                have c15b0 : (x8_2 == x6_1) = true := beq_iff_eq.mpr c15
                have c15b1 : (x8_2 != x6_1) = false := bne_eq_false_iff_eq.mpr c15
                clear c15
                have H' := Aside0.mk H
                clear H
                have p342 : 0 ≤ (x8_2 : Int) := of_decide_eq_true (by first | (with_reducible assumption) | assumption)
                have q342 : x8_2 < (l0.length : Int) := of_decide_eq_true (by first | (with_reducible assumption) | assumption)
                obtain ⟨ad342, e342, hx342_0⟩ := Kd.at_bool HR0.out x8_2 p342 q342
                (try rw [← Nbq6.out] at hx342_0)
                (try rw [← Nbq13.out] at hx342_0)
                obtain rfl : ad335 = ad342 := (by injection e342)
                replace hx342_0 := (HB.out.cell (World.block_lt_of_cell? w _ hx342_0)).trans hx342_0
                replace p342 := eq_true p342
                replace q342 := eq_true q342
                go_wp2
                go_roundg kj7
                case measure => have := HK1.out; have := HK2.out; have := HJ7.out; omega
                case rel => exact ⟨(x7_2), (wrap64 (x8_2 + 1)), (by first | rfl | (simp; done) | (simp [*]; done)), (by first | rfl | (simp; done) | (simp [*]; done)), H', ⟨by have := HK1.out; have := HK2.out; have := HJ7.out; omega⟩, ⟨by (with_reducible repeat (first | apply Kd.R_alloc | apply Kd.R_drewN | apply Kd.R_drew)); exact HO_5.out⟩, ⟨by repeat (first | (with_reducible first | exact HB.out | apply below_alloc | apply pw_below_drewN | apply below_drew1) | exact HB.out)⟩⟩
               ·rw [if_neg c15] at H
                have c15b0 : (x8_2 == x6_1) = false := beq_eq_false_iff_ne.mpr c15
                have c15b1 : (x8_2 != x6_1) = true := bne_iff_ne.mpr c15
                by_cases c16 : a1 = true
                ·subst c16
                 have H1 : ((kimberliteref02_Nth.f x6_1).bind fun bt343 => ((kimberliteref02_Nth.f x8_2).bind fun bt346 => ((kimberliteref02_Below.f bt343.1 bt343.2.1 bt343.2.2 bt346.1 bt346.2.1 bt346.2.2).bind fun t349 => (if t349 = true then (kimberliteref02_ends.l1 kj7 l0 true x5_1 x6_1 false (wrap64 (x8_2 + 1))) else (kimberliteref02_ends.l1 kj7 l0 true x5_1 x6_1 x7_2 (wrap64 (x8_2 + 1))))))) = some r := by rw [if_pos rfl] at H; exact H
                 clear H
                 have H := H1
                 clear H1
                 replace H := Option.bind_eq_some_iff.mp H
                 obtain ⟨⟨t343, t344, t345⟩, A170, H⟩ := H
                 replace H : ((kimberliteref02_Nth.f x8_2).bind fun bt346 => ((kimberliteref02_Below.f t343 t344 t345 bt346.1 bt346.2.1 bt346.2.2).bind fun t349 => (if t349 = true then (kimberliteref02_ends.l1 kj7 l0 true x5_1 x6_1 false (wrap64 (x8_2 + 1))) else (kimberliteref02_ends.l1 kj7 l0 true x5_1 x6_1 x7_2 (wrap64 (x8_2 + 1)))))) = some r := H
                 have A17 := Aside0.mk A170
                 clear A170
                 replace H := Option.bind_eq_some_iff.mp H
                 obtain ⟨⟨t346, t347, t348⟩, A180, H⟩ := H
                 replace H : ((kimberliteref02_Below.f t343 t344 t345 t346 t347 t348).bind fun t349 => (if t349 = true then (kimberliteref02_ends.l1 kj7 l0 true x5_1 x6_1 false (wrap64 (x8_2 + 1))) else (kimberliteref02_ends.l1 kj7 l0 true x5_1 x6_1 x7_2 (wrap64 (x8_2 + 1))))) = some r := H
                 have A18 := Aside0.mk A180
                 clear A180
                 replace H := Option.bind_eq_some_iff.mp H
                 obtain ⟨t349, A190, H⟩ := H
                 replace H : (if t349 = true then (kimberliteref02_ends.l1 kj7 l0 true x5_1 x6_1 false (wrap64 (x8_2 + 1))) else (kimberliteref02_ends.l1 kj7 l0 true x5_1 x6_1 x7_2 (wrap64 (x8_2 + 1)))) = some r := H
                 have A19 := Aside0.mk A190
                 clear A190
                 by_cases c20 : t349 = true
                 ·subst c20
                  have H1 : (kimberliteref02_ends.l1 kj7 l0 true x5_1 x6_1 false (wrap64 (x8_2 + 1))) = some r := by rw [if_pos rfl] at H; exact H
                  clear H
                  have H := H1
                  clear H1
                  have H' := Aside0.mk H
                  clear H
                  have p342 : 0 ≤ (x8_2 : Int) := of_decide_eq_true (by first | (with_reducible assumption) | assumption)
                  have q342 : x8_2 < (l0.length : Int) := of_decide_eq_true (by first | (with_reducible assumption) | assumption)
                  obtain ⟨ad342, e342, hx342_0⟩ := Kd.at_bool HR0.out x8_2 p342 q342
                  (try rw [← Nbq6.out] at hx342_0)
                  (try rw [← Nbq13.out] at hx342_0)
                  obtain rfl : ad335 = ad342 := (by injection e342)
                  replace hx342_0 := (HB.out.cell (World.block_lt_of_cell? w _ hx342_0)).trans hx342_0
                  replace p342 := eq_true p342
                  replace q342 := eq_true q342
                  go_wp2_with (first | (go_at_call 93; (with_reducible refine (kimberliteref02_Nth.calls x6_1 t343 t344 t345 _ A17.out).mono ?_); rintro e w21 ⟨rfl, hb⟩; have n0_ := Aside0.mk (Kd.R_below (by (with_reducible repeat (first | apply Kd.R_alloc | apply Kd.R_drewN | apply Kd.R_drew)); exact HO_5.out) hb); have n1_ := Aside0.mk (below_step (by repeat (first | (with_reducible first | exact HB.out | apply below_alloc | apply pw_below_drewN | apply below_drew1) | exact HB.out)) hb); clear HO_5; clear HB; have HO_5 := n0_; have HB := n1_; clear n0_ n1_; (try clear hb); (try clear hb2); (try clear hk); (try clear hi)) | (go_at_call 93; (with_reducible refine (kimberliteref02_Nth.calls x8_2 t346 t347 t348 _ A18.out).mono ?_); rintro e w22 ⟨rfl, hb⟩; have n0_ := Aside0.mk (Kd.R_below (by (with_reducible repeat (first | apply Kd.R_alloc | apply Kd.R_drewN | apply Kd.R_drew)); exact HO_5.out) hb); have n1_ := Aside0.mk (below_step (by repeat (first | (with_reducible first | exact HB.out | apply below_alloc | apply pw_below_drewN | apply below_drew1) | exact HB.out)) hb); clear HO_5; clear HB; have HO_5 := n0_; have HB := n1_; clear n0_ n1_; (try clear hb); (try clear hb2); (try clear hk); (try clear hi)) | (go_at_call 28; (with_reducible refine (kimberliteref02_Below.calls t343 t344 t345 t346 t347 t348 true _ A19.out).mono ?_); rintro e w23 ⟨rfl, hb⟩; have n0_ := Aside0.mk (Kd.R_below (by (with_reducible repeat (first | apply Kd.R_alloc | apply Kd.R_drewN | apply Kd.R_drew)); exact HO_5.out) hb); have n1_ := Aside0.mk (below_step (by repeat (first | (with_reducible first | exact HB.out | apply below_alloc | apply pw_below_drewN | apply below_drew1) | exact HB.out)) hb); clear HO_5; clear HB; have HO_5 := n0_; have HB := n1_; clear n0_ n1_; (try clear hb); (try clear hb2); (try clear hk); (try clear hi)))
                  go_roundg kj7
                  case measure => have := HK1.out; have := HK2.out; have := HJ7.out; omega
                  case rel => exact ⟨(false), (wrap64 (x8_2 + 1)), (by first | rfl | (simp; done) | (simp [*]; done)), (by first | rfl | (simp; done) | (simp [*]; done)), H', ⟨by have := HK1.out; have := HK2.out; have := HJ7.out; omega⟩, ⟨by (with_reducible repeat (first | apply Kd.R_alloc | apply Kd.R_drewN | apply Kd.R_drew)); exact HO_5.out⟩, ⟨by repeat (first | (with_reducible first | exact HB.out | apply below_alloc | apply pw_below_drewN | apply below_drew1) | exact HB.out)⟩⟩
                 ·replace c20 := Bool.eq_false_iff.mpr c20
                  subst c20
                  have H1 : (kimberliteref02_ends.l1 kj7 l0 true x5_1 x6_1 x7_2 (wrap64 (x8_2 + 1))) = some r := by rw [if_neg (show ¬ (false = true) by decide)] at H; exact H
                  clear H
                  have H := H1
                  clear H1
                  have H' := Aside0.mk H
                  clear H
                  have p342 : 0 ≤ (x8_2 : Int) := of_decide_eq_true (by first | (with_reducible assumption) | assumption)
                  have q342 : x8_2 < (l0.length : Int) := of_decide_eq_true (by first | (with_reducible assumption) | assumption)
                  obtain ⟨ad342, e342, hx342_0⟩ := Kd.at_bool HR0.out x8_2 p342 q342
                  (try rw [← Nbq6.out] at hx342_0)
                  (try rw [← Nbq13.out] at hx342_0)
                  obtain rfl : ad335 = ad342 := (by injection e342)
                  replace hx342_0 := (HB.out.cell (World.block_lt_of_cell? w _ hx342_0)).trans hx342_0
                  replace p342 := eq_true p342
                  replace q342 := eq_true q342
                  go_wp2_with (first | (go_at_call 93; (with_reducible refine (kimberliteref02_Nth.calls x6_1 t343 t344 t345 _ A17.out).mono ?_); rintro e w24 ⟨rfl, hb⟩; have n0_ := Aside0.mk (Kd.R_below (by (with_reducible repeat (first | apply Kd.R_alloc | apply Kd.R_drewN | apply Kd.R_drew)); exact HO_5.out) hb); have n1_ := Aside0.mk (below_step (by repeat (first | (with_reducible first | exact HB.out | apply below_alloc | apply pw_below_drewN | apply below_drew1) | exact HB.out)) hb); clear HO_5; clear HB; have HO_5 := n0_; have HB := n1_; clear n0_ n1_; (try clear hb); (try clear hb2); (try clear hk); (try clear hi)) | (go_at_call 93; (with_reducible refine (kimberliteref02_Nth.calls x8_2 t346 t347 t348 _ A18.out).mono ?_); rintro e w25 ⟨rfl, hb⟩; have n0_ := Aside0.mk (Kd.R_below (by (with_reducible repeat (first | apply Kd.R_alloc | apply Kd.R_drewN | apply Kd.R_drew)); exact HO_5.out) hb); have n1_ := Aside0.mk (below_step (by repeat (first | (with_reducible first | exact HB.out | apply below_alloc | apply pw_below_drewN | apply below_drew1) | exact HB.out)) hb); clear HO_5; clear HB; have HO_5 := n0_; have HB := n1_; clear n0_ n1_; (try clear hb); (try clear hb2); (try clear hk); (try clear hi)) | (go_at_call 28; (with_reducible refine (kimberliteref02_Below.calls t343 t344 t345 t346 t347 t348 false _ A19.out).mono ?_); rintro e w26 ⟨rfl, hb⟩; have n0_ := Aside0.mk (Kd.R_below (by (with_reducible repeat (first | apply Kd.R_alloc | apply Kd.R_drewN | apply Kd.R_drew)); exact HO_5.out) hb); have n1_ := Aside0.mk (below_step (by repeat (first | (with_reducible first | exact HB.out | apply below_alloc | apply pw_below_drewN | apply below_drew1) | exact HB.out)) hb); clear HO_5; clear HB; have HO_5 := n0_; have HB := n1_; clear n0_ n1_; (try clear hb); (try clear hb2); (try clear hk); (try clear hi)))
                  go_roundg kj7
                  case measure => have := HK1.out; have := HK2.out; have := HJ7.out; omega
                  case rel => exact ⟨(x7_2), (wrap64 (x8_2 + 1)), (by first | rfl | (simp; done) | (simp [*]; done)), (by first | rfl | (simp; done) | (simp [*]; done)), H', ⟨by have := HK1.out; have := HK2.out; have := HJ7.out; omega⟩, ⟨by (with_reducible repeat (first | apply Kd.R_alloc | apply Kd.R_drewN | apply Kd.R_drew)); exact HO_5.out⟩, ⟨by repeat (first | (with_reducible first | exact HB.out | apply below_alloc | apply pw_below_drewN | apply below_drew1) | exact HB.out)⟩⟩
                ·replace c16 := Bool.eq_false_iff.mpr c16
                 subst c16
                 have H1 : ((kimberliteref02_Nth.f x8_2).bind fun bt350 => ((kimberliteref02_Nth.f x6_1).bind fun bt353 => ((kimberliteref02_Below.f bt350.1 bt350.2.1 bt350.2.2 bt353.1 bt353.2.1 bt353.2.2).bind fun t356 => (if t356 = true then (kimberliteref02_ends.l1 kj7 l0 false x5_1 x6_1 false (wrap64 (x8_2 + 1))) else (kimberliteref02_ends.l1 kj7 l0 false x5_1 x6_1 x7_2 (wrap64 (x8_2 + 1))))))) = some r := by rw [if_neg (show ¬ (false = true) by decide)] at H; exact H
                 clear H
                 have H := H1
                 clear H1
                 replace H := Option.bind_eq_some_iff.mp H
                 obtain ⟨⟨t350, t351, t352⟩, A270, H⟩ := H
                 replace H : ((kimberliteref02_Nth.f x6_1).bind fun bt353 => ((kimberliteref02_Below.f t350 t351 t352 bt353.1 bt353.2.1 bt353.2.2).bind fun t356 => (if t356 = true then (kimberliteref02_ends.l1 kj7 l0 false x5_1 x6_1 false (wrap64 (x8_2 + 1))) else (kimberliteref02_ends.l1 kj7 l0 false x5_1 x6_1 x7_2 (wrap64 (x8_2 + 1)))))) = some r := H
                 have A27 := Aside0.mk A270
                 clear A270
                 replace H := Option.bind_eq_some_iff.mp H
                 obtain ⟨⟨t353, t354, t355⟩, A280, H⟩ := H
                 replace H : ((kimberliteref02_Below.f t350 t351 t352 t353 t354 t355).bind fun t356 => (if t356 = true then (kimberliteref02_ends.l1 kj7 l0 false x5_1 x6_1 false (wrap64 (x8_2 + 1))) else (kimberliteref02_ends.l1 kj7 l0 false x5_1 x6_1 x7_2 (wrap64 (x8_2 + 1))))) = some r := H
                 have A28 := Aside0.mk A280
                 clear A280
                 replace H := Option.bind_eq_some_iff.mp H
                 obtain ⟨t356, A290, H⟩ := H
                 replace H : (if t356 = true then (kimberliteref02_ends.l1 kj7 l0 false x5_1 x6_1 false (wrap64 (x8_2 + 1))) else (kimberliteref02_ends.l1 kj7 l0 false x5_1 x6_1 x7_2 (wrap64 (x8_2 + 1)))) = some r := H
                 have A29 := Aside0.mk A290
                 clear A290
                 by_cases c30 : t356 = true
                 ·subst c30
                  have H1 : (kimberliteref02_ends.l1 kj7 l0 false x5_1 x6_1 false (wrap64 (x8_2 + 1))) = some r := by rw [if_pos rfl] at H; exact H
                  clear H
                  have H := H1
                  clear H1
                  have H' := Aside0.mk H
                  clear H
                  have p342 : 0 ≤ (x8_2 : Int) := of_decide_eq_true (by first | (with_reducible assumption) | assumption)
                  have q342 : x8_2 < (l0.length : Int) := of_decide_eq_true (by first | (with_reducible assumption) | assumption)
                  obtain ⟨ad342, e342, hx342_0⟩ := Kd.at_bool HR0.out x8_2 p342 q342
                  (try rw [← Nbq6.out] at hx342_0)
                  (try rw [← Nbq13.out] at hx342_0)
                  obtain rfl : ad335 = ad342 := (by injection e342)
                  replace hx342_0 := (HB.out.cell (World.block_lt_of_cell? w _ hx342_0)).trans hx342_0
                  replace p342 := eq_true p342
                  replace q342 := eq_true q342
                  go_wp2_with (first | (go_at_call 93; (with_reducible refine (kimberliteref02_Nth.calls x8_2 t350 t351 t352 _ A27.out).mono ?_); rintro e w31 ⟨rfl, hb⟩; have n0_ := Aside0.mk (Kd.R_below (by (with_reducible repeat (first | apply Kd.R_alloc | apply Kd.R_drewN | apply Kd.R_drew)); exact HO_5.out) hb); have n1_ := Aside0.mk (below_step (by repeat (first | (with_reducible first | exact HB.out | apply below_alloc | apply pw_below_drewN | apply below_drew1) | exact HB.out)) hb); clear HO_5; clear HB; have HO_5 := n0_; have HB := n1_; clear n0_ n1_; (try clear hb); (try clear hb2); (try clear hk); (try clear hi)) | (go_at_call 93; (with_reducible refine (kimberliteref02_Nth.calls x6_1 t353 t354 t355 _ A28.out).mono ?_); rintro e w32 ⟨rfl, hb⟩; have n0_ := Aside0.mk (Kd.R_below (by (with_reducible repeat (first | apply Kd.R_alloc | apply Kd.R_drewN | apply Kd.R_drew)); exact HO_5.out) hb); have n1_ := Aside0.mk (below_step (by repeat (first | (with_reducible first | exact HB.out | apply below_alloc | apply pw_below_drewN | apply below_drew1) | exact HB.out)) hb); clear HO_5; clear HB; have HO_5 := n0_; have HB := n1_; clear n0_ n1_; (try clear hb); (try clear hb2); (try clear hk); (try clear hi)) | (go_at_call 28; (with_reducible refine (kimberliteref02_Below.calls t350 t351 t352 t353 t354 t355 true _ A29.out).mono ?_); rintro e w33 ⟨rfl, hb⟩; have n0_ := Aside0.mk (Kd.R_below (by (with_reducible repeat (first | apply Kd.R_alloc | apply Kd.R_drewN | apply Kd.R_drew)); exact HO_5.out) hb); have n1_ := Aside0.mk (below_step (by repeat (first | (with_reducible first | exact HB.out | apply below_alloc | apply pw_below_drewN | apply below_drew1) | exact HB.out)) hb); clear HO_5; clear HB; have HO_5 := n0_; have HB := n1_; clear n0_ n1_; (try clear hb); (try clear hb2); (try clear hk); (try clear hi)))
                  go_roundg kj7
                  case measure => have := HK1.out; have := HK2.out; have := HJ7.out; omega
                  case rel => exact ⟨(false), (wrap64 (x8_2 + 1)), (by first | rfl | (simp; done) | (simp [*]; done)), (by first | rfl | (simp; done) | (simp [*]; done)), H', ⟨by have := HK1.out; have := HK2.out; have := HJ7.out; omega⟩, ⟨by (with_reducible repeat (first | apply Kd.R_alloc | apply Kd.R_drewN | apply Kd.R_drew)); exact HO_5.out⟩, ⟨by repeat (first | (with_reducible first | exact HB.out | apply below_alloc | apply pw_below_drewN | apply below_drew1) | exact HB.out)⟩⟩
                 ·replace c30 := Bool.eq_false_iff.mpr c30
                  subst c30
                  have H1 : (kimberliteref02_ends.l1 kj7 l0 false x5_1 x6_1 x7_2 (wrap64 (x8_2 + 1))) = some r := by rw [if_neg (show ¬ (false = true) by decide)] at H; exact H
                  clear H
                  have H := H1
                  clear H1
                  have H' := Aside0.mk H
                  clear H
                  have p342 : 0 ≤ (x8_2 : Int) := of_decide_eq_true (by first | (with_reducible assumption) | assumption)
                  have q342 : x8_2 < (l0.length : Int) := of_decide_eq_true (by first | (with_reducible assumption) | assumption)
                  obtain ⟨ad342, e342, hx342_0⟩ := Kd.at_bool HR0.out x8_2 p342 q342
                  (try rw [← Nbq6.out] at hx342_0)
                  (try rw [← Nbq13.out] at hx342_0)
                  obtain rfl : ad335 = ad342 := (by injection e342)
                  replace hx342_0 := (HB.out.cell (World.block_lt_of_cell? w _ hx342_0)).trans hx342_0
                  replace p342 := eq_true p342
                  replace q342 := eq_true q342
                  go_wp2_with (first | (go_at_call 93; (with_reducible refine (kimberliteref02_Nth.calls x8_2 t350 t351 t352 _ A27.out).mono ?_); rintro e w34 ⟨rfl, hb⟩; have n0_ := Aside0.mk (Kd.R_below (by (with_reducible repeat (first | apply Kd.R_alloc | apply Kd.R_drewN | apply Kd.R_drew)); exact HO_5.out) hb); have n1_ := Aside0.mk (below_step (by repeat (first | (with_reducible first | exact HB.out | apply below_alloc | apply pw_below_drewN | apply below_drew1) | exact HB.out)) hb); clear HO_5; clear HB; have HO_5 := n0_; have HB := n1_; clear n0_ n1_; (try clear hb); (try clear hb2); (try clear hk); (try clear hi)) | (go_at_call 93; (with_reducible refine (kimberliteref02_Nth.calls x6_1 t353 t354 t355 _ A28.out).mono ?_); rintro e w35 ⟨rfl, hb⟩; have n0_ := Aside0.mk (Kd.R_below (by (with_reducible repeat (first | apply Kd.R_alloc | apply Kd.R_drewN | apply Kd.R_drew)); exact HO_5.out) hb); have n1_ := Aside0.mk (below_step (by repeat (first | (with_reducible first | exact HB.out | apply below_alloc | apply pw_below_drewN | apply below_drew1) | exact HB.out)) hb); clear HO_5; clear HB; have HO_5 := n0_; have HB := n1_; clear n0_ n1_; (try clear hb); (try clear hb2); (try clear hk); (try clear hi)) | (go_at_call 28; (with_reducible refine (kimberliteref02_Below.calls t350 t351 t352 t353 t354 t355 false _ A29.out).mono ?_); rintro e w36 ⟨rfl, hb⟩; have n0_ := Aside0.mk (Kd.R_below (by (with_reducible repeat (first | apply Kd.R_alloc | apply Kd.R_drewN | apply Kd.R_drew)); exact HO_5.out) hb); have n1_ := Aside0.mk (below_step (by repeat (first | (with_reducible first | exact HB.out | apply below_alloc | apply pw_below_drewN | apply below_drew1) | exact HB.out)) hb); clear HO_5; clear HB; have HO_5 := n0_; have HB := n1_; clear n0_ n1_; (try clear hb); (try clear hb2); (try clear hk); (try clear hi)))
                  go_roundg kj7
                  case measure => have := HK1.out; have := HK2.out; have := HJ7.out; omega
                  case rel => exact ⟨(x7_2), (wrap64 (x8_2 + 1)), (by first | rfl | (simp; done) | (simp [*]; done)), (by first | rfl | (simp; done) | (simp [*]; done)), H', ⟨by have := HK1.out; have := HK2.out; have := HJ7.out; omega⟩, ⟨by (with_reducible repeat (first | apply Kd.R_alloc | apply Kd.R_drewN | apply Kd.R_drew)); exact HO_5.out⟩, ⟨by repeat (first | (with_reducible first | exact HB.out | apply below_alloc | apply pw_below_drewN | apply below_drew1) | exact HB.out)⟩⟩
              ·replace c14 := Bool.eq_false_iff.mpr c14
               subst c14
               have H1 : (kimberliteref02_ends.l1 kj7 l0 a1 x5_1 x6_1 x7_2 (wrap64 (x8_2 + 1))) = some r := by rw [if_neg (show ¬ (false = true) by decide)] at H; exact H
               clear H
               have H := H1
               clear H1
               have H' := Aside0.mk H
               clear H
               have p342 : 0 ≤ (x8_2 : Int) := of_decide_eq_true (by first | (with_reducible assumption) | assumption)
               have q342 : x8_2 < (l0.length : Int) := of_decide_eq_true (by first | (with_reducible assumption) | assumption)
               obtain ⟨ad342, e342, hx342_0⟩ := Kd.at_bool HR0.out x8_2 p342 q342
               (try rw [← Nbq6.out] at hx342_0)
               (try rw [← Nbq13.out] at hx342_0)
               obtain rfl : ad335 = ad342 := (by injection e342)
               replace hx342_0 := (HB.out.cell (World.block_lt_of_cell? w _ hx342_0)).trans hx342_0
               replace p342 := eq_true p342
               replace q342 := eq_true q342
               go_wp2
               go_roundg kj7
               case measure => have := HK1.out; have := HK2.out; have := HJ7.out; omega
               case rel => exact ⟨(x7_2), (wrap64 (x8_2 + 1)), (by first | rfl | (simp; done) | (simp [*]; done)), (by first | rfl | (simp; done) | (simp [*]; done)), H', ⟨by have := HK1.out; have := HK2.out; have := HJ7.out; omega⟩, ⟨by (with_reducible repeat (first | apply Kd.R_alloc | apply Kd.R_drewN | apply Kd.R_drew)); exact HO_5.out⟩, ⟨by repeat (first | (with_reducible first | exact HB.out | apply below_alloc | apply pw_below_drewN | apply below_drew1) | exact HB.out)⟩⟩
             ·rw [if_neg c12] at H
              exact absurd H (by simp)
            ·rw [if_neg c11] at H
             exact absurd H (by simp)
           ·replace c10 := Bool.eq_false_iff.mpr c10
            subst c10
            have H1 : (if x7_2 = true then ((kimberliteref02_Nth.f x6_1).bind fun bt336 => (if x5_1.length < 5864062014805 then (kimberliteref02_ends.l0 kj7 l0 a1 (x5_1 ++ [(⟨bt336.1, bt336.2.1, bt336.2.2⟩ : S36)]) (wrap64 (x6_1 + 1))) else (none))) else (kimberliteref02_ends.l0 kj7 l0 a1 x5_1 (wrap64 (x6_1 + 1)))) = some r := by rw [if_neg (show ¬ (false = true) by decide)] at H; exact H
            clear H
            have H := H1
            clear H1
            by_cases c37 : x7_2 = true
            ·subst c37
             have H1 : ((kimberliteref02_Nth.f x6_1).bind fun bt336 => (if x5_1.length < 5864062014805 then (kimberliteref02_ends.l0 kj7 l0 a1 (x5_1 ++ [(⟨bt336.1, bt336.2.1, bt336.2.2⟩ : S36)]) (wrap64 (x6_1 + 1))) else (none))) = some r := by rw [if_pos rfl] at H; exact H
             clear H
             have H := H1
             clear H1
             replace H := Option.bind_eq_some_iff.mp H
             obtain ⟨⟨t336, t337, t338⟩, A380, H⟩ := H
             replace H : (if x5_1.length < 5864062014805 then (kimberliteref02_ends.l0 kj7 l0 a1 (x5_1 ++ [(⟨t336, t337, t338⟩ : S36)]) (wrap64 (x6_1 + 1))) else (none)) = some r := H
             have A38 := Aside0.mk A380
             clear A380
             by_cases c39 : x5_1.length < 5864062014805
             ·rw [if_pos c39] at H
              have LMc39 := Aside0.mk c39
              clear c39
              obtain ⟨y339, hy339⟩ : ∃ y_ : List (S36), y_ = (x5_1 ++ [(⟨t336, t337, t338⟩ : S36)]) := ⟨_, rfl⟩
              replace H : (kimberliteref02_ends.l0 kj7 l0 a1 y339 (wrap64 (x6_1 + 1))) = some r := by first | (rw [hy339]; with_reducible exact H) | (have H2_ := (Option.bind_some _ _).symm.trans H; rw [hy339]; with_reducible exact H2_) | (have H2_ := (Option.bind_some _ _).symm.trans H; with_reducible exact H2_) | with_reducible exact H | (rw [hy339]; exact H) | exact H
              have Ny339 := Aside0.mk hy339
              clear hy339
              have H' := Aside0.mk H
              clear H
              go_wp2_with (first | ((with_reducible refine gate_callee (f := 93) rfl ?_); refine goesL_ (some 58) rfl rfl Try.func93 (by kernel_rfl) rfl #[.int .i64 x6_1] rfl (by (try simp only [List.map_toArray, List.map_cons, List.map_nil]); first | done | rfl | (simp only [List.length_drop, List.length_take]; rfl)) ?_; (with_reducible refine (kimberliteref02_Nth.calls x6_1 t336 t337 t338 _ A38.out).mono ?_); rintro e w40 ⟨rfl, hb⟩; refine ⟨_, rfl, ?_⟩; have n0_ := Aside0.mk (Kd.R_below (by (with_reducible repeat (first | apply Kd.R_alloc | apply Kd.R_drewN | apply Kd.R_drew)); exact HO_5.out) hb); have n1_ := Aside0.mk (below_step (by repeat (first | (with_reducible first | exact HB.out | apply below_alloc | apply pw_below_drewN | apply below_drew1) | exact HB.out)) hb); clear HO_5; clear HB; have HO_5 := n0_; have HB := n1_; clear n0_ n1_; (try clear hb); (try clear hb2); (try clear hk); (try clear hi)) | ((with_reducible refine gate_builtin (b := .append) (xs := #[.tmp 56, .tmp 59]) rfl ?_); at_builtin; refine Kd.R_append k36 (w0 := w) w.heap.size rfl (.tmp 56) (.tmp 59) 41 36 (.agg #[(.int .i64 0), (.int .i64 0), (.int .i64 0)]) 24 rfl Try.underlying41 info36 rfl (by decide) (by omega) u5 x5_1 (⟨t336, t337, t338⟩ : S36) [.int .i64 t336, .int .i64 t337, .int .i64 t338] (fun _ => True) (fun _ => False) rfl rfl ?aP (fun _ hk => hk.elim) ?aF ?aO ?aB ?aS ?aL ?_; (case aP => exact k36_mkM _ _ _ (⟨t336, t337, t338⟩ : S36)); (case aB => exact (by repeat (first | (with_reducible first | exact HB.out | apply below_alloc | apply pw_below_drewN | apply below_drew1) | exact HB.out))); (case aF => exact (fun _ _ => trivial)); (case aO => exact (by (with_reducible repeat (first | apply Kd.R_alloc | apply Kd.R_drewN | apply Kd.R_drew)); exact HO_5.out)); (case aS => exact (below_size (by repeat (first | (with_reducible first | exact HB.out | apply below_alloc | apply pw_below_drewN | apply below_drew1) | exact HB.out)))); (case aL => have := LMc39.out; omega); intro v340 w41 ho hb hg hat; rw [← Ny339.out] at ho; have n0_ := Aside0.mk (hb); have n1_ := Aside0.mk (ho); clear HB; clear HO_5; have HB := n0_; have HO341 := n1_; clear n0_ n1_; clear ho hb hg hat))
              go_roundg kj7
              case measure => have := HK1.out; have := HK2.out; have := HJ7.out; omega
              case rel => exact ⟨(y339), (wrap64 (x6_1 + 1)), (by first | rfl | (simp; done) | (simp [*]; done)), H', ⟨by have := HK1.out; have := HK2.out; have := HJ7.out; omega⟩, ⟨by (with_reducible repeat (first | apply Kd.R_alloc | apply Kd.R_drewN | apply Kd.R_drew)); exact HO341.out⟩, ⟨by repeat (first | (with_reducible first | exact HB.out | apply below_alloc | apply pw_below_drewN | apply below_drew1) | exact HB.out)⟩⟩
             ·rw [if_neg c39] at H
              exact absurd H (by simp)
            ·replace c37 := Bool.eq_false_iff.mpr c37
             subst c37
             have H1 : (kimberliteref02_ends.l0 kj7 l0 a1 x5_1 (wrap64 (x6_1 + 1))) = some r := by rw [if_neg (show ¬ (false = true) by decide)] at H; exact H
             clear H
             have H := H1
             clear H1
             have H' := Aside0.mk H
             clear H
             go_wp2
             go_roundg kj7
             case measure => have := HK1.out; have := HK2.out; have := HJ7.out; omega
             case rel => exact ⟨(x5_1), (wrap64 (x6_1 + 1)), (by first | rfl | (simp; done) | (simp [*]; done)), H', ⟨by have := HK1.out; have := HK2.out; have := HJ7.out; omega⟩, ⟨by (with_reducible repeat (first | apply Kd.R_alloc | apply Kd.R_drewN | apply Kd.R_drew)); exact HO_5.out⟩, ⟨by repeat (first | (with_reducible first | exact HB.out | apply below_alloc | apply pw_below_drewN | apply below_drew1) | exact HB.out)⟩⟩
      ·replace c7 := Bool.eq_false_iff.mpr c7
       subst c7
       have H1 : (kimberliteref02_ends.l0 k1 l0 a1 x5_1 (wrap64 (x6_1 + 1))) = some r := by rw [if_neg (show ¬ (false = true) by decide)] at H; exact H
       clear H
       have H := H1
       clear H1
       have H' := Aside0.mk H
       clear H
       have p335 : 0 ≤ (x6_1 : Int) := of_decide_eq_true (by first | (with_reducible assumption) | assumption)
       have q335 : x6_1 < (l0.length : Int) := of_decide_eq_true (by first | (with_reducible assumption) | assumption)
       obtain ⟨ad335, e335, hx335_0⟩ := Kd.at_bool HR0.out x6_1 p335 q335
       (try rw [← Nbq6.out] at hx335_0)
       cases e335
       replace hx335_0 := (HB.out.cell (World.block_lt_of_cell? w _ hx335_0)).trans hx335_0
       replace p335 := eq_true p335
       replace q335 := eq_true q335
       go_wp2
       go_roundg k1
       case measure => have := HK1.out; omega
       case rel => exact ⟨(x5_1), (wrap64 (x6_1 + 1)), (by first | rfl | (simp; done) | (simp [*]; done)), H', ⟨by have := HK1.out; omega⟩, ⟨by (with_reducible repeat (first | apply Kd.R_alloc | apply Kd.R_drewN | apply Kd.R_drew)); exact HO_5.out⟩, ⟨by repeat (first | (with_reducible first | exact HB.out | apply below_alloc | apply pw_below_drewN | apply below_drew1) | exact HB.out)⟩⟩
     ·rw [if_neg c5] at H
      exact absurd H (by simp)
    ·rw [if_neg c4] at H
     exact absurd H (by simp)
   ·rw [if_neg c3] at H
    have c3b0 : decide (x6_1 < 1728) = false := decide_eq_false c3
    clear c3
    obtain rfl := Option.some.inj H
    go_wp2
    go_ret
    exact ⟨_, by first | rfl | (simp [errW_none, errW_some] <;> rfl) | (simp [*, errW_none, errW_some] <;> rfl), by (with_reducible repeat (first | apply Kd.R_alloc | apply Kd.R_drewN | apply Kd.R_drew)); exact HO_5.out, by repeat (first | (with_reducible first | exact HB.out | apply below_alloc | apply pw_below_drewN | apply below_drew1) | exact HB.out)⟩
end Go.Proofs.Ytnbdfmdjedakcaa.PP
