/- No conditions. -/
import Derived.Test.YtnbdfmdjedakcaaQ0
import Derived.Test.YtnbdfmdjedakcaaQ46
namespace Go.Proofs.Ytnbdfmdjedakcaa.PP
open Go.RowKit Go.Proofs.YtnbdfmdjedakcaaW.PrintWords Go.Proofs.YtnbdfmdjedakcaaW.PrintLast Go.Proofs.YtnbdfmdjedakcaaW.PrintMore
attribute [local go_sem] max2_int min2_int max_two min_two max_three min_three max_four min_four
set_option linter.unusedVariables false
set_option linter.unusedSimpArgs false
mutual
def kimberliteref02_follow.l0 : Nat → List (S36) → List Bool → List Bool → List Int → List Int → Int → Int → Option (Bool × List Bool × List Int × List Int)
 | 0, _, _, _, _, _, _, _ => none
 | k + 1, x0, x1, x2, x3, x4, x5, x13 => if x13 < (x0.length : Int) then (if 0 ≤ x13 then (if x13 < (x1.length : Int) then (if rdOf false x1 x13 = true then (if x13 < (x2.length : Int) then (if rdOf false x2 x13 = true then (kimberliteref02_follow.j1 k x0 x1 x2 x3 x4 x5 x13 true) else ((kimberliteref02_Before.f x0 x5 x13).bind fun t414 => (kimberliteref02_follow.j1 k x0 x1 x2 x3 x4 x5 x13 (!t414)))) else (none)) else (kimberliteref02_follow.j1 k x0 x1 x2 x3 x4 x5 x13 true)) else (none)) else (none)) else (some (false, x2, x3, x4))
def kimberliteref02_follow.j1 : Nat → List (S36) → List Bool → List Bool → List Int → List Int → Int → Int → Bool → Option (Bool × List Bool × List Int × List Int)
 | 0, _, _, _, _, _, _, _, _ => none
 | k + 1, x0, x1, x2, x3, x4, x5, x13, x37 => if x37 = true then (kimberliteref02_follow.l0 k x0 x1 x2 x3 x4 x5 (wrap64 (x13 + 1))) else (if 0 ≤ x13 then (if x13 < (x2.length : Int) then ((some (x2.set (x13 : Int).toNat true : List Bool)).bind fun y415 => (if x13 < (x4.length : Int) then (if (rd x4 x13) < 0 then (if 0 ≤ x5 then (if x5 < (x3.length : Int) then (some (true, y415, (x3.set (x5 : Int).toNat x13), (x4.set (x13 : Int).toNat x5))) else (none)) else (none)) else ((kimberliteref02_follow.f k x0 x1 y415 x3 x4 (rd x4 x13)).bind fun bt420 => (if bt420.1 = true then (if 0 ≤ x5 then (if x5 < (x3.length : Int) then (some (true, bt420.2.1, (bt420.2.2.1.set (x5 : Int).toNat x13), (bt420.2.2.2.set (x13 : Int).toNat x5))) else (none)) else (none)) else (kimberliteref02_follow.l0 k x0 x1 bt420.2.1 bt420.2.2.1 bt420.2.2.2 x5 (wrap64 (x13 + 1)))))) else (none))) else (none)) else (none))
def kimberliteref02_follow.f : Nat → List (S36) → List Bool → List Bool → List Int → List Int → Int → Option (Bool × List Bool × List Int × List Int)
 | 0, _, _, _, _, _, _ => none
 | k + 1, l0, l1, l2, l3, l4, a5 => kimberliteref02_follow.l0 k l0 l1 l2 l3 l4 a5 0
end
theorem kimberliteref02_follow.mono_l : ∀ k, (∀ y0 y1 y2 y3 y4 y5, LeO (kimberliteref02_follow.f k y0 y1 y2 y3 y4 y5) (kimberliteref02_follow.f (k + 1) y0 y1 y2 y3 y4 y5)) ∧ (∀ y0 y1 y2 y3 y4 y5 y6, LeO (kimberliteref02_follow.l0 k y0 y1 y2 y3 y4 y5 y6) (kimberliteref02_follow.l0 (k + 1) y0 y1 y2 y3 y4 y5 y6)) ∧ (∀ y0 y1 y2 y3 y4 y5 y6 y7, LeO (kimberliteref02_follow.j1 k y0 y1 y2 y3 y4 y5 y6 y7) (kimberliteref02_follow.j1 (k + 1) y0 y1 y2 y3 y4 y5 y6 y7))
 | 0 => ⟨fun _ _ _ _ _ _ r h => by simp [kimberliteref02_follow.f] at h, fun _ _ _ _ _ _ _ r h => by simp [kimberliteref02_follow.l0] at h, fun _ _ _ _ _ _ _ _ r h => by simp [kimberliteref02_follow.j1] at h⟩
 | k + 1 => by
  obtain ⟨ih0, ih1, ih2⟩ := kimberliteref02_follow.mono_l k
  refine ⟨?_, ?_, ?_⟩
  ·intro y0 y1 y2 y3 y4 y5
   unfold kimberliteref02_follow.f
   repeat' first
   | (with_reducible exact ih0 _ _ _ _ _ _)
   | (with_reducible exact ih1 _ _ _ _ _ _ _)
   | (with_reducible exact ih2 _ _ _ _ _ _ _ _)
   | (with_reducible exact LeO.refl _)
   | (with_reducible exact LeO.none _)
   | (with_reducible refine LeO.ite ?_ ?_)
   | (with_reducible refine LeO.bind ?_ (fun _ => ?_))
   | exact ih0 _ _ _ _ _ _
   | exact ih1 _ _ _ _ _ _ _
   | exact ih2 _ _ _ _ _ _ _ _
   | exact LeO.none _
   | refine LeO.ite ?_ ?_
   | refine LeO.bind ?_ (fun _ => ?_)
  ·intro y0 y1 y2 y3 y4 y5 y6
   unfold kimberliteref02_follow.l0
   repeat' first
   | (with_reducible exact ih0 _ _ _ _ _ _)
   | (with_reducible exact ih1 _ _ _ _ _ _ _)
   | (with_reducible exact ih2 _ _ _ _ _ _ _ _)
   | (with_reducible exact LeO.refl _)
   | (with_reducible exact LeO.none _)
   | (with_reducible refine LeO.ite ?_ ?_)
   | (with_reducible refine LeO.bind ?_ (fun _ => ?_))
   | exact ih0 _ _ _ _ _ _
   | exact ih1 _ _ _ _ _ _ _
   | exact ih2 _ _ _ _ _ _ _ _
   | exact LeO.none _
   | refine LeO.ite ?_ ?_
   | refine LeO.bind ?_ (fun _ => ?_)
  ·intro y0 y1 y2 y3 y4 y5 y6 y7
   unfold kimberliteref02_follow.j1
   repeat' first
   | (with_reducible exact ih0 _ _ _ _ _ _)
   | (with_reducible exact ih1 _ _ _ _ _ _ _)
   | (with_reducible exact ih2 _ _ _ _ _ _ _ _)
   | (with_reducible exact LeO.refl _)
   | (with_reducible exact LeO.none _)
   | (with_reducible refine LeO.ite ?_ ?_)
   | (with_reducible refine LeO.bind ?_ (fun _ => ?_))
   | exact ih0 _ _ _ _ _ _
   | exact ih1 _ _ _ _ _ _ _
   | exact ih2 _ _ _ _ _ _ _ _
   | exact LeO.none _
   | refine LeO.ite ?_ ?_
   | refine LeO.bind ?_ (fun _ => ?_)
theorem kimberliteref02_follow.mono : ∀ a0 a1 a2 a3 a4 a5 k, LeO (kimberliteref02_follow.f k a0 a1 a2 a3 a4 a5) (kimberliteref02_follow.f (k + 1) a0 a1 a2 a3 a4 a5) := by
 intro a0 a1 a2 a3 a4 a5 k
 obtain ⟨ih0, ih1, ih2⟩ := kimberliteref02_follow.mono_l k
 exact ih0 a0 a1 a2 a3 a4 a5
set_option maxHeartbeats 8000000 in
set_option maxRecDepth 100000 in
theorem kimberliteref02_follow.calls (k : Nat) : ∀ (A0 : Option Addr) (c0 : Nat) (l0 : List (S36)) (A1 : Option Addr) (c1 : Nat) (l1 : List Bool) (P2_ : Nat → Prop) (u9000_ : Value) (l2 : List Bool) (P3_ : Nat → Prop) (u9001_ : Value) (l3 : List Int) (P4_ : Nat → Prop) (u9002_ : Value) (l4 : List Int) (a5 : Int) (r1 : Bool) (r2 : List Bool) (r3 : List Int) (r4 : List Int) (w0 w : World) (hB : Below w0.heap.size w0 w) (hr0 : ∀ W_, Kept w W_ (fun k_ => P2_ k_ ∨ P3_ k_ ∨ P4_ k_) → Kd.C k36 W_ A0 l0.length l0) (hc0 : l0.length ≤ c0) (hr1 : ∀ W_, Kept w W_ (fun k_ => P2_ k_ ∨ P3_ k_ ∨ P4_ k_) → Kd.C Kd.bool W_ A1 l1.length l1) (hc1 : l1.length ≤ c1) (ho2 : Kd.R Kd.bool 4 w w0.heap.size P2_ u9000_ l2) (ho3 : Kd.R (Kd.int .i64) 3 w w0.heap.size P3_ u9001_ l3) (hp3_4 : ∀ k_, P3_ k_ → ¬ P4_ k_) (ho4 : Kd.R (Kd.int .i64) 3 w w0.heap.size P4_ u9002_ l4) (hp4_3 : ∀ k_, P4_ k_ → ¬ P3_ k_) (h : kimberliteref02_follow.f k l0 l1 l2 l3 l4 a5 = some (r1, r2, r3, r4)),
  Calls Try.prog 110 #[.slice A0 l0.length c0, .slice A1 l1.length c1, u9000_, u9001_, u9002_, .int .i64 a5] w fun e w' => e = .returned (.bool r1) ∧ Kd.R Kd.bool 4 w' w0.heap.size (fun k_ => ((P2_ k_ ∨ P3_ k_ ∨ P4_ k_) ∨ w.heap.size ≤ k_)) u9000_ r2 ∧ Kd.R (Kd.int .i64) 3 w' w0.heap.size (fun k_ => ((P2_ k_ ∨ P3_ k_ ∨ P4_ k_) ∨ w.heap.size ≤ k_)) u9001_ r3 ∧ Kd.R (Kd.int .i64) 3 w' w0.heap.size (fun k_ => ((P2_ k_ ∨ P3_ k_ ∨ P4_ k_) ∨ w.heap.size ≤ k_)) u9002_ r4 ∧ Below w0.heap.size w0 w' ∧ Kept w w' (fun k_ => P2_ k_ ∨ P3_ k_ ∨ P4_ k_) := by
 induction k using Nat.strongRecOn with
 | _ k ih =>
 intro A0 c0 l0 A1 c1 l1 P2_ u9000_ l2 P3_ u9001_ l3 P4_ u9002_ l4 a5 r1 r2 r3 r4 w0 w hB hr0 hc0 hr1 hc1 ho2 ho3 hp3_4 ho4 hp4_3 h
 cases k with
 | zero => exact absurd h (by simp [kimberliteref02_follow.f])
 | succ k =>
 simp only [kimberliteref02_follow.f] at h
 have HR0 := Aside0.mk hr0
 have HC0 := Aside0.mk hc0
 clear hr0 hc0
 have HR1 := Aside0.mk hr1
 have HC1 := Aside0.mk hc1
 clear hr1 hc1
 have HO2 := Aside0.mk (show Kd.R Kd.bool 4 w w0.heap.size (fun k_ => ((P2_ k_ ∨ P3_ k_ ∨ P4_ k_) ∨ w.heap.size ≤ k_)) u9000_ l2 from Kd.R_mono ho2 (fun k_ hk => (.inl (.inl hk))))
 have HO3 := Aside0.mk (show Kd.R (Kd.int .i64) 3 w w0.heap.size (fun k_ => ((P2_ k_ ∨ P3_ k_ ∨ P4_ k_) ∨ w.heap.size ≤ k_) ∧ some k_ ≠ (u9002_ : Value).ownBlock) u9001_ l3 from Kd.R_mono ho3 (fun k_ hk => ⟨(.inl (.inr (.inl hk))), fun e_ => hp3_4 k_ hk (ho4.1 k_ e_.symm)⟩))
 have HO4 := Aside0.mk (show Kd.R (Kd.int .i64) 3 w w0.heap.size (fun k_ => ((P2_ k_ ∨ P3_ k_ ∨ P4_ k_) ∨ w.heap.size ≤ k_) ∧ some k_ ≠ (u9001_ : Value).ownBlock) u9002_ l4 from Kd.R_mono ho4 (fun k_ hk => ⟨(.inl (.inr (.inr hk))), fun e_ => hp4_3 k_ hk (ho3.1 k_ e_.symm)⟩))
 have HK := Aside0.mk (Kept.refl w (fun k_ => P2_ k_ ∨ P3_ k_ ∨ P4_ k_))
 have HW0 := Aside0.mk hB.size
 have HB := Aside0.mk hB
 clear hB
 have H : (kimberliteref02_follow.l0 k l0 l1 l2 l3 l4 a5 0) = some (r1, r2, r3, r4) := h
 clear h
 have H' := Aside0.mk H
 clear H
 go_enter Try.func110, Try.ntmps110
 go_wp2
 go_loopg [13] k (fun kq v13 w' => ∃ (x2_1 : List Bool) (x3_1 : List Int) (x4_1 : List Int) (x13_1 : Int), v13 = .int .i64 x13_1 ∧ Aside0 (kimberliteref02_follow.l0 kq l0 l1 x2_1 x3_1 x4_1 a5 x13_1 = some (r1, r2, r3, r4)) ∧ Aside0 (kq ≤ k) ∧ Aside0 (Kd.R Kd.bool 4 w' w0.heap.size (fun k_ => ((P2_ k_ ∨ P3_ k_ ∨ P4_ k_) ∨ w.heap.size ≤ k_)) u9000_ x2_1) ∧ Aside0 (Kd.R (Kd.int .i64) 3 w' w0.heap.size (fun k_ => ((P2_ k_ ∨ P3_ k_ ∨ P4_ k_) ∨ w.heap.size ≤ k_) ∧ some k_ ≠ (u9002_ : Value).ownBlock) u9001_ x3_1) ∧ Aside0 (Kd.R (Kd.int .i64) 3 w' w0.heap.size (fun k_ => ((P2_ k_ ∨ P3_ k_ ∨ P4_ k_) ∨ w.heap.size ≤ k_) ∧ some k_ ≠ (u9001_ : Value).ownBlock) u9002_ x4_1) ∧ Aside0 (Kept w w' (fun k_ => P2_ k_ ∨ P3_ k_ ∨ P4_ k_)) ∧ Aside0 (Below w0.heap.size w0 w'))
 case atStart => exact ⟨(l2), (l3), (l4), (0), (by first | rfl | (simp; done) | (simp [*]; done)), H', ⟨Nat.le_refl _⟩, ⟨by (with_reducible repeat (first | apply Kd.R_alloc | apply Kd.R_drewN | apply Kd.R_drew)); exact HO2.out⟩, ⟨by (with_reducible repeat (first | apply Kd.R_alloc | apply Kd.R_drewN | apply Kd.R_drew)); exact HO3.out⟩, ⟨by (with_reducible repeat (first | apply Kd.R_alloc | apply Kd.R_drewN | apply Kd.R_drew)); exact HO4.out⟩, ⟨by repeat (first | (with_reducible first | exact HK.out | apply Kept.alloc | apply Kept.drewN | apply Kept.drew) | exact HK.out)⟩, ⟨by repeat (first | (with_reducible first | exact HB.out | apply below_alloc | apply pw_below_drewN | apply below_drew1) | exact HB.out)⟩⟩
 case round =>
  clear H'
  try clear c1
  try clear p2
  try clear p3
  try clear p4
  obtain ⟨x2_1, x3_1, x4_1, x13_1, rfl, HA, HK1, HO_2, HO_3, HO_4, HK, HB⟩ := hrel
  cases gk with
  | zero => exact absurd HA.out (by simp [kimberliteref02_follow.l0])
  | succ k1 =>
   have H := HA.out
   clear HA
   simp only [kimberliteref02_follow.l0] at H
   by_cases c7 : x13_1 < (l0.length : Int)
   ·rw [if_pos c7] at H
    have c7b0 : decide (x13_1 < (l0.length : Int)) = true := decide_eq_true c7
    clear c7
    have HC8 := Aside0.mk H
    clear H
    go_upto_region 4 with (fail)
    go_cut [37] (fun v37 wc => ∃ (kq : Nat) (x37_7 : Bool), v37 = .bool x37_7 ∧ Aside0 (kimberliteref02_follow.j1 kq l0 l1 x2_1 x3_1 x4_1 a5 x13_1 x37_7 = some (r1, r2, r3, r4)) ∧ Aside0 (kq ≤ k1) ∧ Aside0 (Kd.R Kd.bool 4 wc w0.heap.size (fun k_ => ((P2_ k_ ∨ P3_ k_ ∨ P4_ k_) ∨ w.heap.size ≤ k_)) u9000_ x2_1) ∧ Aside0 (Kd.R (Kd.int .i64) 3 wc w0.heap.size (fun k_ => ((P2_ k_ ∨ P3_ k_ ∨ P4_ k_) ∨ w.heap.size ≤ k_) ∧ some k_ ≠ (u9002_ : Value).ownBlock) u9001_ x3_1) ∧ Aside0 (Kd.R (Kd.int .i64) 3 wc w0.heap.size (fun k_ => ((P2_ k_ ∨ P3_ k_ ∨ P4_ k_) ∨ w.heap.size ≤ k_) ∧ some k_ ≠ (u9001_ : Value).ownBlock) u9002_ x4_1) ∧ Aside0 (Kept w wc (fun k_ => P2_ k_ ∨ P3_ k_ ∨ P4_ k_)) ∧ Aside0 (Below w0.heap.size w0 wc))
    case first =>
     have H := HC8.out
     clear HC8
     by_cases c9 : 0 ≤ x13_1
     ·rw [if_pos c9] at H
      have c9b0 : decide (0 ≤ x13_1) = true := decide_eq_true c9
      clear c9
      (first | rw [c9b0] | (simp only [i64_w, i32_w]; rw [c9b0]) | skip)
      by_cases c10 : x13_1 < (l1.length : Int)
      ·rw [if_pos c10] at H
       have c10b0 : decide (x13_1 < (l1.length : Int)) = true := decide_eq_true c10
       clear c10
       obtain ⟨bq11, hbq11⟩ : ∃ b_ : Bool, b_ = (rdOf false l1 x13_1) := ⟨_, rfl⟩
       replace H : (if bq11 = true then (if x13_1 < (x2_1.length : Int) then (if rdOf false x2_1 x13_1 = true then (kimberliteref02_follow.j1 k1 l0 l1 x2_1 x3_1 x4_1 a5 x13_1 true) else ((kimberliteref02_Before.f l0 a5 x13_1).bind fun t414 => (kimberliteref02_follow.j1 k1 l0 l1 x2_1 x3_1 x4_1 a5 x13_1 (!t414)))) else (none)) else (kimberliteref02_follow.j1 k1 l0 l1 x2_1 x3_1 x4_1 a5 x13_1 true)) = some (r1, r2, r3, r4) := by rw [← hbq11] at H; exact H
       have Nbq11 := Aside0.mk hbq11
       clear hbq11
       by_cases c12 : bq11 = true
       ·subst c12
        have H1 : (if x13_1 < (x2_1.length : Int) then (if rdOf false x2_1 x13_1 = true then (kimberliteref02_follow.j1 k1 l0 l1 x2_1 x3_1 x4_1 a5 x13_1 true) else ((kimberliteref02_Before.f l0 a5 x13_1).bind fun t414 => (kimberliteref02_follow.j1 k1 l0 l1 x2_1 x3_1 x4_1 a5 x13_1 (!t414)))) else (none)) = some (r1, r2, r3, r4) := by rw [if_pos rfl] at H; exact H
        clear H
        have H := H1
        clear H1
        by_cases c13 : x13_1 < (x2_1.length : Int)
        ·rw [if_pos c13] at H
         have c13b0 : decide (x13_1 < (x2_1.length : Int)) = true := decide_eq_true c13
         clear c13
         obtain ⟨bq14, hbq14⟩ : ∃ b_ : Bool, b_ = (rdOf false x2_1 x13_1) := ⟨_, rfl⟩
         replace H : (if bq14 = true then (kimberliteref02_follow.j1 k1 l0 l1 x2_1 x3_1 x4_1 a5 x13_1 true) else ((kimberliteref02_Before.f l0 a5 x13_1).bind fun t414 => (kimberliteref02_follow.j1 k1 l0 l1 x2_1 x3_1 x4_1 a5 x13_1 (!t414)))) = some (r1, r2, r3, r4) := by rw [← hbq14] at H; exact H
         have Nbq14 := Aside0.mk hbq14
         clear hbq14
         by_cases c15 : bq14 = true
         ·subst c15
          have H1 : (kimberliteref02_follow.j1 k1 l0 l1 x2_1 x3_1 x4_1 a5 x13_1 true) = some (r1, r2, r3, r4) := by rw [if_pos rfl] at H; exact H
          clear H
          have H := H1
          clear H1
          have H' := Aside0.mk H
          clear H
          have p412 : 0 ≤ (x13_1 : Int) := of_decide_eq_true (by first | (with_reducible assumption) | assumption)
          have q412 : x13_1 < (l1.length : Int) := of_decide_eq_true (by first | (with_reducible assumption) | assumption)
          obtain ⟨ad412, e412, hx412_0⟩ := Kd.at_bool (Kd.C_kept_now HR1.out HK.out) x13_1 p412 q412
          (try rw [← Nbq11.out] at hx412_0)
          (try rw [← Nbq14.out] at hx412_0)
          cases e412
          replace p412 := eq_true p412
          replace q412 := eq_true q412
          obtain ⟨Ao16, co16, eo16⟩ := Kd.R_slice HO_2.out
          subst eo16
          have p413 : 0 ≤ (x13_1 : Int) := of_decide_eq_true (by first | (with_reducible assumption) | assumption)
          have q413 : x13_1 < (x2_1.length : Int) := of_decide_eq_true (by first | (with_reducible assumption) | assumption)
          obtain ⟨ad413, e413, hx413_0⟩ := Kd.at_bool (Kd.R_reads' HO_2.out).2.2 x13_1 p413 q413
          (try rw [← Nbq11.out] at hx413_0)
          (try rw [← Nbq14.out] at hx413_0)
          cases e413
          replace p413 := eq_true p413
          replace q413 := eq_true q413
          go_wp2
          go_meet
          case rel => exact ⟨_, (true), (by first | rfl | (simp; done) | (simp [*]; done)), H', ⟨by have := HK1.out; first | omega | exact Nat.le_refl _⟩, ⟨by (with_reducible repeat (first | apply Kd.R_alloc | apply Kd.R_drewN | apply Kd.R_drew)); exact HO_2.out⟩, ⟨by (with_reducible repeat (first | apply Kd.R_alloc | apply Kd.R_drewN | apply Kd.R_drew)); exact HO_3.out⟩, ⟨by (with_reducible repeat (first | apply Kd.R_alloc | apply Kd.R_drewN | apply Kd.R_drew)); exact HO_4.out⟩, ⟨by repeat (first | (with_reducible first | exact HK.out | apply Kept.alloc | apply Kept.drewN | apply Kept.drew) | exact HK.out)⟩, ⟨by repeat (first | (with_reducible first | exact HB.out | apply below_alloc | apply pw_below_drewN | apply below_drew1) | exact HB.out)⟩⟩
         ·replace c15 := Bool.eq_false_iff.mpr c15
          subst c15
          have H1 : ((kimberliteref02_Before.f l0 a5 x13_1).bind fun t414 => (kimberliteref02_follow.j1 k1 l0 l1 x2_1 x3_1 x4_1 a5 x13_1 (!t414))) = some (r1, r2, r3, r4) := by rw [if_neg (show ¬ (false = true) by decide)] at H; exact H
          clear H
          have H := H1
          clear H1
          replace H := Option.bind_eq_some_iff.mp H
          obtain ⟨t414, A170, H⟩ := H
          replace H : (kimberliteref02_follow.j1 k1 l0 l1 x2_1 x3_1 x4_1 a5 x13_1 (!t414)) = some (r1, r2, r3, r4) := H
          have A17 := Aside0.mk A170
          clear A170
          have H' := Aside0.mk H
          clear H
          have p412 : 0 ≤ (x13_1 : Int) := of_decide_eq_true (by first | (with_reducible assumption) | assumption)
          have q412 : x13_1 < (l1.length : Int) := of_decide_eq_true (by first | (with_reducible assumption) | assumption)
          obtain ⟨ad412, e412, hx412_0⟩ := Kd.at_bool (Kd.C_kept_now HR1.out HK.out) x13_1 p412 q412
          (try rw [← Nbq11.out] at hx412_0)
          (try rw [← Nbq14.out] at hx412_0)
          cases e412
          replace p412 := eq_true p412
          replace q412 := eq_true q412
          obtain ⟨Ao18, co18, eo18⟩ := Kd.R_slice HO_2.out
          subst eo18
          have p413 : 0 ≤ (x13_1 : Int) := of_decide_eq_true (by first | (with_reducible assumption) | assumption)
          have q413 : x13_1 < (x2_1.length : Int) := of_decide_eq_true (by first | (with_reducible assumption) | assumption)
          obtain ⟨ad413, e413, hx413_0⟩ := Kd.at_bool (Kd.R_reads' HO_2.out).2.2 x13_1 p413 q413
          (try rw [← Nbq11.out] at hx413_0)
          (try rw [← Nbq14.out] at hx413_0)
          cases e413
          replace p413 := eq_true p413
          replace q413 := eq_true q413
          go_wp2_with (first | (go_at_call 46; (with_reducible refine (kimberliteref02_Before.calls _ _ l0 a5 x13_1 t414 _ ?side1 ?side2 A17.out).mono ?_); (case side1 => exact Kd.C_kept_now HR0.out (by repeat (first | (with_reducible first | exact HK.out | apply Kept.alloc | apply Kept.drewN | apply Kept.drew) | exact HK.out))); (case side2 => exact HC0.out); rintro e w19 ⟨rfl, hb⟩; have n0_ := Aside0.mk (Kd.R_below (by (with_reducible repeat (first | apply Kd.R_alloc | apply Kd.R_drewN | apply Kd.R_drew)); exact HO_2.out) hb); have n1_ := Aside0.mk (Kd.R_below (by (with_reducible repeat (first | apply Kd.R_alloc | apply Kd.R_drewN | apply Kd.R_drew)); exact HO_3.out) hb); have n2_ := Aside0.mk (Kd.R_below (by (with_reducible repeat (first | apply Kd.R_alloc | apply Kd.R_drewN | apply Kd.R_drew)); exact HO_4.out) hb); have n3_ := Aside0.mk (Kept.below (S := (fun k_ => P2_ k_ ∨ P3_ k_ ∨ P4_ k_)) (by repeat (first | (with_reducible first | exact HK.out | apply Kept.alloc | apply Kept.drewN | apply Kept.drew) | exact HK.out)) hb); have n4_ := Aside0.mk (below_step (by repeat (first | (with_reducible first | exact HB.out | apply below_alloc | apply pw_below_drewN | apply below_drew1) | exact HB.out)) hb); clear HO_2; clear HO_3; clear HO_4; clear HK; clear HB; have HO_2 := n0_; have HO_3 := n1_; have HO_4 := n2_; have HK := n3_; have HB := n4_; clear n0_ n1_ n2_ n3_ n4_; (try clear hb); (try clear hb2); (try clear hk); (try clear hi)))
          go_meet
          case rel => exact ⟨_, (!t414), (by first | rfl | (simp; done) | (simp [*]; done)), H', ⟨by have := HK1.out; first | omega | exact Nat.le_refl _⟩, ⟨by (with_reducible repeat (first | apply Kd.R_alloc | apply Kd.R_drewN | apply Kd.R_drew)); exact HO_2.out⟩, ⟨by (with_reducible repeat (first | apply Kd.R_alloc | apply Kd.R_drewN | apply Kd.R_drew)); exact HO_3.out⟩, ⟨by (with_reducible repeat (first | apply Kd.R_alloc | apply Kd.R_drewN | apply Kd.R_drew)); exact HO_4.out⟩, ⟨by repeat (first | (with_reducible first | exact HK.out | apply Kept.alloc | apply Kept.drewN | apply Kept.drew) | exact HK.out)⟩, ⟨by repeat (first | (with_reducible first | exact HB.out | apply below_alloc | apply pw_below_drewN | apply below_drew1) | exact HB.out)⟩⟩
        ·rw [if_neg c13] at H
         exact absurd H (by simp)
       ·replace c12 := Bool.eq_false_iff.mpr c12
        subst c12
        have H1 : (kimberliteref02_follow.j1 k1 l0 l1 x2_1 x3_1 x4_1 a5 x13_1 true) = some (r1, r2, r3, r4) := by rw [if_neg (show ¬ (false = true) by decide)] at H; exact H
        clear H
        have H := H1
        clear H1
        have H' := Aside0.mk H
        clear H
        have p412 : 0 ≤ (x13_1 : Int) := of_decide_eq_true (by first | (with_reducible assumption) | assumption)
        have q412 : x13_1 < (l1.length : Int) := of_decide_eq_true (by first | (with_reducible assumption) | assumption)
        obtain ⟨ad412, e412, hx412_0⟩ := Kd.at_bool (Kd.C_kept_now HR1.out HK.out) x13_1 p412 q412
        (try rw [← Nbq11.out] at hx412_0)
        cases e412
        replace p412 := eq_true p412
        replace q412 := eq_true q412
        go_wp2
        go_meet
        case rel => exact ⟨_, (true), (by first | rfl | (simp; done) | (simp [*]; done)), H', ⟨by have := HK1.out; first | omega | exact Nat.le_refl _⟩, ⟨by (with_reducible repeat (first | apply Kd.R_alloc | apply Kd.R_drewN | apply Kd.R_drew)); exact HO_2.out⟩, ⟨by (with_reducible repeat (first | apply Kd.R_alloc | apply Kd.R_drewN | apply Kd.R_drew)); exact HO_3.out⟩, ⟨by (with_reducible repeat (first | apply Kd.R_alloc | apply Kd.R_drewN | apply Kd.R_drew)); exact HO_4.out⟩, ⟨by repeat (first | (with_reducible first | exact HK.out | apply Kept.alloc | apply Kept.drewN | apply Kept.drew) | exact HK.out)⟩, ⟨by repeat (first | (with_reducible first | exact HB.out | apply below_alloc | apply pw_below_drewN | apply below_drew1) | exact HB.out)⟩⟩
      ·rw [if_neg c10] at H
       exact absurd H (by simp)
     ·rw [if_neg c9] at H
      exact absurd H (by simp)
    case rest =>
     clear HC8
     try clear c1
     try clear q1
     try clear p2
     try clear p3
     try clear p4
     try clear q4
     try clear hx4
     try clear c7
     try clear c7b0
     try clear c9
     try clear c9b0
     try clear c10
     try clear c10b0
     try clear c11
     try clear q11
     try clear c12
     try clear c13
     try clear c13b0
     try clear q14
     try clear c15
     try clear hx412_0
     try clear hx413_0
     try clear p2
     try clear p3
     try clear p4
     try clear p412
     try clear p413
     try clear q412
     try clear q413
     obtain ⟨kq, x37_7, rfl, HA, HJ7, HO_2, HO_3, HO_4, HK, HB⟩ := hcut
     cases kq with
     | zero => exact absurd HA.out (by simp [kimberliteref02_follow.j1])
     | succ kj7 =>
      have H := HA.out
      clear HA
      simp only [kimberliteref02_follow.j1] at H
      by_cases c20 : x37_7 = true
      ·subst c20
       have H1 : (kimberliteref02_follow.l0 kj7 l0 l1 x2_1 x3_1 x4_1 a5 (wrap64 (x13_1 + 1))) = some (r1, r2, r3, r4) := by rw [if_pos rfl] at H; exact H
       clear H
       have H := H1
       clear H1
       have H' := Aside0.mk H
       clear H
       go_wp2
       go_roundg kj7
       case measure => have := HK1.out; have := HJ7.out; omega
       case rel => exact ⟨(x2_1), (x3_1), (x4_1), (wrap64 (x13_1 + 1)), (by first | rfl | (simp; done) | (simp [*]; done)), H', ⟨by have := HK1.out; have := HJ7.out; omega⟩, ⟨by (with_reducible repeat (first | apply Kd.R_alloc | apply Kd.R_drewN | apply Kd.R_drew)); exact HO_2.out⟩, ⟨by (with_reducible repeat (first | apply Kd.R_alloc | apply Kd.R_drewN | apply Kd.R_drew)); exact HO_3.out⟩, ⟨by (with_reducible repeat (first | apply Kd.R_alloc | apply Kd.R_drewN | apply Kd.R_drew)); exact HO_4.out⟩, ⟨by repeat (first | (with_reducible first | exact HK.out | apply Kept.alloc | apply Kept.drewN | apply Kept.drew) | exact HK.out)⟩, ⟨by repeat (first | (with_reducible first | exact HB.out | apply below_alloc | apply pw_below_drewN | apply below_drew1) | exact HB.out)⟩⟩
      ·replace c20 := Bool.eq_false_iff.mpr c20
       subst c20
       have H1 : (if 0 ≤ x13_1 then (if x13_1 < (x2_1.length : Int) then ((some (x2_1.set (x13_1 : Int).toNat true : List Bool)).bind fun y415 => (if x13_1 < (x4_1.length : Int) then (if (rd x4_1 x13_1) < 0 then (if 0 ≤ a5 then (if a5 < (x3_1.length : Int) then (some (true, y415, (x3_1.set (a5 : Int).toNat x13_1), (x4_1.set (x13_1 : Int).toNat a5))) else (none)) else (none)) else ((kimberliteref02_follow.f kj7 l0 l1 y415 x3_1 x4_1 (rd x4_1 x13_1)).bind fun bt420 => (if bt420.1 = true then (if 0 ≤ a5 then (if a5 < (x3_1.length : Int) then (some (true, bt420.2.1, (bt420.2.2.1.set (a5 : Int).toNat x13_1), (bt420.2.2.2.set (x13_1 : Int).toNat a5))) else (none)) else (none)) else (kimberliteref02_follow.l0 kj7 l0 l1 bt420.2.1 bt420.2.2.1 bt420.2.2.2 a5 (wrap64 (x13_1 + 1)))))) else (none))) else (none)) else (none)) = some (r1, r2, r3, r4) := by rw [if_neg (show ¬ (false = true) by decide)] at H; exact H
       clear H
       have H := H1
       clear H1
       by_cases c21 : 0 ≤ x13_1
       ·rw [if_pos c21] at H
        have c21b0 : decide (0 ≤ x13_1) = true := decide_eq_true c21
        clear c21
        by_cases c22 : x13_1 < (x2_1.length : Int)
        ·rw [if_pos c22] at H
         have c22b0 : decide (x13_1 < (x2_1.length : Int)) = true := decide_eq_true c22
         clear c22
         obtain ⟨y415, hy415⟩ : ∃ y_ : List Bool, y_ = (x2_1.set (x13_1 : Int).toNat true) := ⟨_, rfl⟩
         replace H : (if x13_1 < (x4_1.length : Int) then (if (rd x4_1 x13_1) < 0 then (if 0 ≤ a5 then (if a5 < (x3_1.length : Int) then (some (true, y415, (x3_1.set (a5 : Int).toNat x13_1), (x4_1.set (x13_1 : Int).toNat a5))) else (none)) else (none)) else ((kimberliteref02_follow.f kj7 l0 l1 y415 x3_1 x4_1 (rd x4_1 x13_1)).bind fun bt420 => (if bt420.1 = true then (if 0 ≤ a5 then (if a5 < (x3_1.length : Int) then (some (true, bt420.2.1, (bt420.2.2.1.set (a5 : Int).toNat x13_1), (bt420.2.2.2.set (x13_1 : Int).toNat a5))) else (none)) else (none)) else (kimberliteref02_follow.l0 kj7 l0 l1 bt420.2.1 bt420.2.2.1 bt420.2.2.2 a5 (wrap64 (x13_1 + 1)))))) else (none)) = some (r1, r2, r3, r4) := by first | (rw [hy415]; with_reducible exact H) | (have H2_ := (Option.bind_some _ _).symm.trans H; rw [hy415]; with_reducible exact H2_) | (have H2_ := (Option.bind_some _ _).symm.trans H; with_reducible exact H2_) | with_reducible exact H | (rw [hy415]; exact H) | exact H
         have Ny415 := Aside0.mk hy415
         clear hy415
         by_cases c24 : x13_1 < (x4_1.length : Int)
         ·rw [if_pos c24] at H
          have c24b0 : decide (x13_1 < (x4_1.length : Int)) = true := decide_eq_true c24
          clear c24
          by_cases c25 : (rd x4_1 x13_1) < 0
          ·rw [if_pos c25] at H
           have c25b0 : decide ((rd x4_1 x13_1) < 0) = true := decide_eq_true c25
           clear c25
           by_cases c26 : 0 ≤ a5
           ·rw [if_pos c26] at H
            have c26b0 : decide (0 ≤ a5) = true := decide_eq_true c26
            clear c26
            by_cases c27 : a5 < (x3_1.length : Int)
            ·rw [if_pos c27] at H
             have c27b0 : decide (a5 < (x3_1.length : Int)) = true := decide_eq_true c27
             clear c27
             obtain ⟨y417, hy417⟩ : ∃ y_ : List Int, y_ = (x3_1.set (a5 : Int).toNat x13_1) := ⟨_, rfl⟩
             replace H : (some (true, y415, y417, (x4_1.set (x13_1 : Int).toNat a5))) = some (r1, r2, r3, r4) := by first | (rw [hy417]; with_reducible exact H) | (have H2_ := (Option.bind_some _ _).symm.trans H; rw [hy417]; with_reducible exact H2_) | (have H2_ := (Option.bind_some _ _).symm.trans H; with_reducible exact H2_) | with_reducible exact H | (rw [hy417]; exact H) | exact H
             have Ny417 := Aside0.mk hy417
             clear hy417
             obtain ⟨y418, hy418⟩ : ∃ y_ : List Int, y_ = (x4_1.set (x13_1 : Int).toNat a5) := ⟨_, rfl⟩
             replace H : (some (true, y415, y417, y418)) = some (r1, r2, r3, r4) := by first | (rw [hy418]; with_reducible exact H) | (have H2_ := (Option.bind_some _ _).symm.trans H; rw [hy418]; with_reducible exact H2_) | (have H2_ := (Option.bind_some _ _).symm.trans H; with_reducible exact H2_) | with_reducible exact H | (rw [hy418]; exact H) | exact H
             have Ny418 := Aside0.mk hy418
             clear hy418
             simp only [Option.some.injEq, Prod.mk.injEq] at H
             obtain ⟨rfl, rfl, rfl, rfl⟩ := H
             have p23 : 0 ≤ (x13_1 : Int) := of_decide_eq_true (by first | (with_reducible assumption) | assumption)
             have q23 : (x13_1 : Int) < ((x2_1.length : Int) : Int) := of_decide_eq_true (by first | (with_reducible assumption) | assumption)
             obtain ⟨go23, co23, eo23, gb23, gl23, cl23, HG23⟩ := Kd.R_form HO_2.out (by first | omega | (have := (Kd.R_reads' HO_2.out).1; omega))
             (first | cases eo23 | (injection eo23 with ea_ en_ ec_; (first | subst ea_ | (injection ea_ with ea_; subst ea_)); subst ec_; clear en_))
             have GB23 := Aside0.mk gb23
             have GG23 := Aside0.mk HG23
             clear gb23 gl23 HG23
             have HMgo23 := Aside0.mk (show ((P2_ go23 ∨ P3_ go23 ∨ P4_ go23) ∨ w.heap.size ≤ go23) from (HO_2.out.1 _ rfl))
             obtain ⟨hx23_0, hf23_0⟩ := Kd.R_celln false HO_2.out (x13_1 : Int) p23 q23
             replace p23 := eq_true p23
             replace q23 := eq_true q23
             have HP30 := Kd.R_putg HO_2.out (x13_1 : Int) true
             go_wp2_with (first | ((with_reducible refine gate_store (t := 4) (p := 40) rfl ?_); refine store_event (t := 4) (p := 40) (v := ?vo_w31) (w1 := (wc.setCell ⟨go23, (x13_1 : Int).toNat, none⟩ (.bool true))) ?hg ?ho ?hn ?hr ?_; (case ho => rfl); (case hg => rfl); (case hn => rfl); (case hr => first | (go_simp; done) | (go_simp; rfl)); intro w31 hw; have hg : wc.grownBy w31 (some go23) := (by rw [hw]; exact HP30.2); have hp_ : Kd.R Kd.bool 4 w31 w0.heap.size (fun k_ => ((P2_ k_ ∨ P3_ k_ ∨ P4_ k_) ∨ w.heap.size ≤ k_)) (.slice (some ⟨go23, 0, none⟩) x2_1.length co23) y415 := (by rw [hw, Ny415.out]; exact HP30.1); clear HP30; have n0_ := Aside0.mk (hp_); have n1_ := Aside0.mk (Kd.R_over' (v := (.slice (some ⟨go23, 0, none⟩) x2_1.length co23)) (by (with_reducible repeat (first | apply Kd.R_alloc | apply Kd.R_drewN | apply Kd.R_drew)); exact HO_3.out) (Kd.R_typed HO_2.out) (by decide) hg); have n2_ := Aside0.mk (Kd.R_over' (v := (.slice (some ⟨go23, 0, none⟩) x2_1.length co23)) (by (with_reducible repeat (first | apply Kd.R_alloc | apply Kd.R_drewN | apply Kd.R_drew)); exact HO_4.out) (Kd.R_typed HO_2.out) (by decide) hg); have n3_ := Aside0.mk ((by rw [hw]; exact below_set (HB.out) GB23.out : Below w0.heap.size w0 w31)); have n4_ := Aside0.mk (Kept.of_grown (S := (fun k_ => P2_ k_ ∨ P3_ k_ ∨ P4_ k_)) hg (by repeat (first | (with_reducible first | exact HK.out | apply Kept.alloc | apply Kept.drewN | apply Kept.drew) | exact HK.out)) (fun k_ e_ => (HO_2.out.1 k_ e_))); clear HO_2; clear HO_3; clear HO_4; clear HB; clear HK; have HO_2 := n0_; have HO_3 := n1_; have HO_4 := n2_; have HB := n3_; have HK := n4_; clear n0_ n1_ n2_ n3_ n4_; clear hg hw hp_; obtain ⟨Ao32, co32, eo32⟩ := Kd.R_slice HO_4.out; subst eo32; have p416 : 0 ≤ (x13_1 : Int) := of_decide_eq_true (by first | (with_reducible assumption) | assumption); have q416 : x13_1 < (x4_1.length : Int) := of_decide_eq_true (by first | (with_reducible assumption) | assumption); obtain ⟨ad416, e416, hx416_0⟩ := Kd.at_int (Kd.R_reads' HO_4.out).2.2 x13_1 p416 q416; cases e416; replace p416 := eq_true p416; replace q416 := eq_true q416; have p28 : 0 ≤ (a5 : Int) := of_decide_eq_true (by first | (with_reducible assumption) | assumption); have q28 : (a5 : Int) < ((x3_1.length : Int) : Int) := of_decide_eq_true (by first | (with_reducible assumption) | assumption); obtain ⟨go28, co28, eo28, gb28, gl28, cl28, HG28⟩ := Kd.R_form HO_3.out (by first | omega | (have := (Kd.R_reads' HO_3.out).1; omega)); (first | cases eo28 | (injection eo28 with ea_ en_ ec_; (first | subst ea_ | (injection ea_ with ea_; subst ea_)); subst ec_; clear en_)); have GB28 := Aside0.mk gb28; have GG28 := Aside0.mk HG28; clear gb28 gl28 HG28; have HMgo28 := Aside0.mk (show ((P2_ go28 ∨ P3_ go28 ∨ P4_ go28) ∨ w.heap.size ≤ go28) from (HO_3.out.1 _ rfl).1); obtain ⟨hx28_0, hf28_0⟩ := Kd.R_celln 0 HO_3.out (a5 : Int) p28 q28; replace p28 := eq_true p28; replace q28 := eq_true q28; obtain ⟨hy33_, hz33_⟩ := Kd.R_celln 0 HO_3.out (a5 : Int) (of_decide_eq_true (by first | (with_reducible assumption) | assumption)) (of_decide_eq_true (by first | (with_reducible assumption) | assumption)); have HP33 := Kd.R_putg HO_3.out (a5 : Int) x13_1) | ((with_reducible refine gate_store (t := 3) (p := 61) rfl ?_); refine store_event (t := 3) (p := 61) (v := ?vo_w34) (w1 := (w31.setCell ⟨go28, (a5 : Int).toNat, none⟩ (.int .i64 x13_1))) ?hg ?ho ?hn ?hr ?_; (case ho => rfl); (case hg => rfl); (case hn => rfl); (case hr => first | (go_simp; done) | (go_simp; rfl)); intro w34 hw; have hg : w31.grownBy w34 (some go28) := (by rw [hw]; exact HP33.2); have hp_ : Kd.R (Kd.int .i64) 3 w34 w0.heap.size (fun k_ => ((P2_ k_ ∨ P3_ k_ ∨ P4_ k_) ∨ w.heap.size ≤ k_) ∧ some k_ ≠ (.slice (some ad416) x4_1.length co32 : Value).ownBlock) (.slice (some ⟨go28, 0, none⟩) x3_1.length co28) y417 := (by rw [hw, Ny417.out]; exact HP33.1); clear HP33; have n0_ := Aside0.mk (Kd.R_over' (v := (.slice (some ⟨go28, 0, none⟩) x3_1.length co28)) (by (with_reducible repeat (first | apply Kd.R_alloc | apply Kd.R_drewN | apply Kd.R_drew)); exact HO_2.out) (Kd.R_typed HO_3.out) (by decide) hg); have n1_ := Aside0.mk (hp_); have n2_ := Aside0.mk (Kd.R_after (v := (.slice (some ⟨go28, 0, none⟩) x3_1.length co28)) (v1 := (.slice (some ⟨go28, 0, none⟩) x3_1.length co28)) (ok := (fun k_ => ((P2_ k_ ∨ P3_ k_ ∨ P4_ k_) ∨ w.heap.size ≤ k_))) (by (with_reducible repeat (first | apply Kd.R_alloc | apply Kd.R_drewN | apply Kd.R_drew)); exact HO_4.out) hg (.inl rfl)); have n3_ := Aside0.mk ((by rw [hw]; exact below_set (HB.out) GB28.out : Below w0.heap.size w0 w34)); have n4_ := Aside0.mk (Kept.of_grown (S := (fun k_ => P2_ k_ ∨ P3_ k_ ∨ P4_ k_)) hg (by repeat (first | (with_reducible first | exact HK.out | apply Kept.alloc | apply Kept.drewN | apply Kept.drew) | exact HK.out)) (fun k_ e_ => (HO_3.out.1 k_ e_).1)); clear HO_2; clear HO_3; clear HO_4; clear HB; clear HK; have HO_2 := n0_; have HO_3 := n1_; have HO_4 := n2_; have HB := n3_; have HK := n4_; clear n0_ n1_ n2_ n3_ n4_; clear hg hw hp_; have p29 : 0 ≤ (x13_1 : Int) := of_decide_eq_true (by first | (with_reducible assumption) | assumption); have q29 : (x13_1 : Int) < ((x4_1.length : Int) : Int) := of_decide_eq_true (by first | (with_reducible assumption) | assumption); obtain ⟨go29, co29, eo29, gb29, gl29, cl29, HG29⟩ := Kd.R_form HO_4.out (by first | omega | (have := (Kd.R_reads' HO_4.out).1; omega)); (first | cases eo29 | (injection eo29 with ea_ en_ ec_; (first | subst ea_ | (injection ea_ with ea_; subst ea_)); subst ec_; clear en_)); have GB29 := Aside0.mk gb29; have GG29 := Aside0.mk HG29; clear gb29 gl29 HG29; have HMgo29 := Aside0.mk (show ((P2_ go29 ∨ P3_ go29 ∨ P4_ go29) ∨ w.heap.size ≤ go29) from (HO_4.out.1 _ rfl).1); (first | simp only [add_plain] at hx416_0 | skip); obtain ⟨hx29_0, hf29_0⟩ := Kd.R_celln 0 HO_4.out (x13_1 : Int) p29 q29; replace p29 := eq_true p29; replace q29 := eq_true q29; obtain ⟨hy35_, hz35_⟩ := Kd.R_celln 0 HO_4.out (x13_1 : Int) (of_decide_eq_true (by first | (with_reducible assumption) | assumption)) (of_decide_eq_true (by first | (with_reducible assumption) | assumption)); have HP35 := Kd.R_putg HO_4.out (x13_1 : Int) a5) | ((with_reducible refine gate_store (t := 3) (p := 65) rfl ?_); refine store_event (t := 3) (p := 65) (v := ?vo_w36) (w1 := (w34.setCell ⟨go29, (x13_1 : Int).toNat, none⟩ (.int .i64 a5))) ?hg ?ho ?hn ?hr ?_; (case ho => rfl); (case hg => rfl); (case hn => rfl); (case hr => first | (go_simp; done) | (go_simp; rfl)); intro w36 hw; have hg : w34.grownBy w36 (some go29) := (by rw [hw]; exact HP35.2); have hp_ : Kd.R (Kd.int .i64) 3 w36 w0.heap.size (fun k_ => ((P2_ k_ ∨ P3_ k_ ∨ P4_ k_) ∨ w.heap.size ≤ k_) ∧ some k_ ≠ (.slice (some ⟨go28, 0, none⟩) x3_1.length co28 : Value).ownBlock) (.slice (some ⟨go29, 0, none⟩) x4_1.length co32) y418 := (by rw [hw, Ny418.out]; exact HP35.1); clear HP35; have n0_ := Aside0.mk (Kd.R_over' (v := (.slice (some ⟨go29, 0, none⟩) x4_1.length co32)) (by (with_reducible repeat (first | apply Kd.R_alloc | apply Kd.R_drewN | apply Kd.R_drew)); exact HO_2.out) (Kd.R_typed HO_4.out) (by decide) hg); have n1_ := Aside0.mk (Kd.R_after (v := (.slice (some ⟨go29, 0, none⟩) x4_1.length co32)) (v1 := (.slice (some ⟨go29, 0, none⟩) x4_1.length co32)) (ok := (fun k_ => ((P2_ k_ ∨ P3_ k_ ∨ P4_ k_) ∨ w.heap.size ≤ k_))) (by (with_reducible repeat (first | apply Kd.R_alloc | apply Kd.R_drewN | apply Kd.R_drew)); exact HO_3.out) hg (.inl rfl)); have n2_ := Aside0.mk (hp_); have n3_ := Aside0.mk ((by rw [hw]; exact below_set (HB.out) GB29.out : Below w0.heap.size w0 w36)); have n4_ := Aside0.mk (Kept.of_grown (S := (fun k_ => P2_ k_ ∨ P3_ k_ ∨ P4_ k_)) hg (by repeat (first | (with_reducible first | exact HK.out | apply Kept.alloc | apply Kept.drewN | apply Kept.drew) | exact HK.out)) (fun k_ e_ => (HO_4.out.1 k_ e_).1)); clear HO_2; clear HO_3; clear HO_4; clear HB; clear HK; have HO_2 := n0_; have HO_3 := n1_; have HO_4 := n2_; have HB := n3_; have HK := n4_; clear n0_ n1_ n2_ n3_ n4_; clear hg hw hp_))
             go_ret
             exact ⟨by first | rfl | (simp [errW_none, errW_some] <;> rfl) | (simp [*, errW_none, errW_some] <;> rfl), by (with_reducible repeat (first | apply Kd.R_alloc | apply Kd.R_drewN | apply Kd.R_drew)); exact HO_2.out, by (with_reducible repeat (first | apply Kd.R_alloc | apply Kd.R_drewN | apply Kd.R_drew)); exact Kd.R_mono HO_3.out (fun _ hk => hk.1), by (with_reducible repeat (first | apply Kd.R_alloc | apply Kd.R_drewN | apply Kd.R_drew)); exact Kd.R_mono HO_4.out (fun _ hk => hk.1), by repeat (first | (with_reducible first | exact HB.out | apply below_alloc | apply pw_below_drewN | apply below_drew1) | exact HB.out), by repeat (first | (with_reducible first | exact HK.out | apply Kept.alloc | apply Kept.drewN | apply Kept.drew) | exact HK.out)⟩
            ·rw [if_neg c27] at H
             exact absurd H (by simp)
           ·rw [if_neg c26] at H
            exact absurd H (by simp)
          ·rw [if_neg c25] at H
           have c25b0 : decide ((rd x4_1 x13_1) < 0) = false := decide_eq_false c25
           clear c25
           replace H := Option.bind_eq_some_iff.mp H
           obtain ⟨⟨t420, t421, t422, t423⟩, A370, H⟩ := H
           replace H : (if t420 = true then (if 0 ≤ a5 then (if a5 < (x3_1.length : Int) then (some (true, t421, (t422.set (a5 : Int).toNat x13_1), (t423.set (x13_1 : Int).toNat a5))) else (none)) else (none)) else (kimberliteref02_follow.l0 kj7 l0 l1 t421 t422 t423 a5 (wrap64 (x13_1 + 1)))) = some (r1, r2, r3, r4) := H
           have A37 := Aside0.mk A370
           clear A370
           by_cases c38 : t420 = true
           ·subst c38
            have H1 : (if 0 ≤ a5 then (if a5 < (x3_1.length : Int) then (some (true, t421, (t422.set (a5 : Int).toNat x13_1), (t423.set (x13_1 : Int).toNat a5))) else (none)) else (none)) = some (r1, r2, r3, r4) := by rw [if_pos rfl] at H; exact H
            clear H
            have H := H1
            clear H1
            by_cases c39 : 0 ≤ a5
            ·rw [if_pos c39] at H
             have c39b0 : decide (0 ≤ a5) = true := decide_eq_true c39
             clear c39
             by_cases c40 : a5 < (x3_1.length : Int)
             ·rw [if_pos c40] at H
              have c40b0 : decide (a5 < (x3_1.length : Int)) = true := decide_eq_true c40
              clear c40
              obtain ⟨y424, hy424⟩ : ∃ y_ : List Int, y_ = (t422.set (a5 : Int).toNat x13_1) := ⟨_, rfl⟩
              replace H : (some (true, t421, y424, (t423.set (x13_1 : Int).toNat a5))) = some (r1, r2, r3, r4) := by first | (rw [hy424]; with_reducible exact H) | (have H2_ := (Option.bind_some _ _).symm.trans H; rw [hy424]; with_reducible exact H2_) | (have H2_ := (Option.bind_some _ _).symm.trans H; with_reducible exact H2_) | with_reducible exact H | (rw [hy424]; exact H) | exact H
              have Ny424 := Aside0.mk hy424
              clear hy424
              obtain ⟨y425, hy425⟩ : ∃ y_ : List Int, y_ = (t423.set (x13_1 : Int).toNat a5) := ⟨_, rfl⟩
              replace H : (some (true, t421, y424, y425)) = some (r1, r2, r3, r4) := by first | (rw [hy425]; with_reducible exact H) | (have H2_ := (Option.bind_some _ _).symm.trans H; rw [hy425]; with_reducible exact H2_) | (have H2_ := (Option.bind_some _ _).symm.trans H; with_reducible exact H2_) | with_reducible exact H | (rw [hy425]; exact H) | exact H
              have Ny425 := Aside0.mk hy425
              clear hy425
              simp only [Option.some.injEq, Prod.mk.injEq] at H
              obtain ⟨rfl, rfl, rfl, rfl⟩ := H
              have p23 : 0 ≤ (x13_1 : Int) := of_decide_eq_true (by first | (with_reducible assumption) | assumption)
              have q23 : (x13_1 : Int) < ((x2_1.length : Int) : Int) := of_decide_eq_true (by first | (with_reducible assumption) | assumption)
              obtain ⟨go23, co23, eo23, gb23, gl23, cl23, HG23⟩ := Kd.R_form HO_2.out (by first | omega | (have := (Kd.R_reads' HO_2.out).1; omega))
              (first | cases eo23 | (injection eo23 with ea_ en_ ec_; (first | subst ea_ | (injection ea_ with ea_; subst ea_)); subst ec_; clear en_))
              have GB23 := Aside0.mk gb23
              have GG23 := Aside0.mk HG23
              clear gb23 gl23 HG23
              have HMgo23 := Aside0.mk (show ((P2_ go23 ∨ P3_ go23 ∨ P4_ go23) ∨ w.heap.size ≤ go23) from (HO_2.out.1 _ rfl))
              obtain ⟨hx23_0, hf23_0⟩ := Kd.R_celln false HO_2.out (x13_1 : Int) p23 q23
              replace p23 := eq_true p23
              replace q23 := eq_true q23
              have HP43 := Kd.R_putg HO_2.out (x13_1 : Int) true
              go_wp2_with (first | ((with_reducible refine gate_store (t := 4) (p := 40) rfl ?_); refine store_event (t := 4) (p := 40) (v := ?vo_w44) (w1 := (wc.setCell ⟨go23, (x13_1 : Int).toNat, none⟩ (.bool true))) ?hg ?ho ?hn ?hr ?_; (case ho => rfl); (case hg => rfl); (case hn => rfl); (case hr => first | (go_simp; done) | (go_simp; rfl)); intro w44 hw; have hg : wc.grownBy w44 (some go23) := (by rw [hw]; exact HP43.2); have hp_ : Kd.R Kd.bool 4 w44 w0.heap.size (fun k_ => ((P2_ k_ ∨ P3_ k_ ∨ P4_ k_) ∨ w.heap.size ≤ k_)) (.slice (some ⟨go23, 0, none⟩) x2_1.length co23) y415 := (by rw [hw, Ny415.out]; exact HP43.1); clear HP43; have n0_ := Aside0.mk (hp_); have n1_ := Aside0.mk (Kd.R_over' (v := (.slice (some ⟨go23, 0, none⟩) x2_1.length co23)) (by (with_reducible repeat (first | apply Kd.R_alloc | apply Kd.R_drewN | apply Kd.R_drew)); exact HO_3.out) (Kd.R_typed HO_2.out) (by decide) hg); have n2_ := Aside0.mk (Kd.R_over' (v := (.slice (some ⟨go23, 0, none⟩) x2_1.length co23)) (by (with_reducible repeat (first | apply Kd.R_alloc | apply Kd.R_drewN | apply Kd.R_drew)); exact HO_4.out) (Kd.R_typed HO_2.out) (by decide) hg); have n3_ := Aside0.mk ((by rw [hw]; exact below_set (HB.out) GB23.out : Below w0.heap.size w0 w44)); have n4_ := Aside0.mk (Kept.of_grown (S := (fun k_ => P2_ k_ ∨ P3_ k_ ∨ P4_ k_)) hg (by repeat (first | (with_reducible first | exact HK.out | apply Kept.alloc | apply Kept.drewN | apply Kept.drew) | exact HK.out)) (fun k_ e_ => (HO_2.out.1 k_ e_))); clear HO_2; clear HO_3; clear HO_4; clear HB; clear HK; have HO_2 := n0_; have HO_3 := n1_; have HO_4 := n2_; have HB := n3_; have HK := n4_; clear n0_ n1_ n2_ n3_ n4_; clear hg hw hp_; obtain ⟨Ao45, co45, eo45⟩ := Kd.R_slice HO_4.out; subst eo45; have p416 : 0 ≤ (x13_1 : Int) := of_decide_eq_true (by first | (with_reducible assumption) | assumption); have q416 : x13_1 < (x4_1.length : Int) := of_decide_eq_true (by first | (with_reducible assumption) | assumption); obtain ⟨ad416, e416, hx416_0⟩ := Kd.at_int (Kd.R_reads' HO_4.out).2.2 x13_1 p416 q416; cases e416; replace p416 := eq_true p416; replace q416 := eq_true q416; have p419 : 0 ≤ (x13_1 : Int) := of_decide_eq_true (by first | (with_reducible assumption) | assumption); have q419 : x13_1 < (x4_1.length : Int) := of_decide_eq_true (by first | (with_reducible assumption) | assumption); obtain ⟨ad419, e419, hx419_0⟩ := Kd.at_int (Kd.R_reads' HO_4.out).2.2 x13_1 p419 q419; obtain rfl : ad416 = ad419 := (by injection e419); replace p419 := eq_true p419; replace q419 := eq_true q419; obtain ⟨Ao46, co46, eo46⟩ := Kd.R_slice HO_3.out; subst eo46) | (go_at_call 110; (with_reducible refine (ih kj7 (by have := HK1.out; have := HJ7.out; omega) _ _ l0 _ _ l1 (fun k_ => some k_ = (.slice (some ⟨go23, 0, none⟩) x2_1.length co23 : Value).ownBlock) (.slice (some ⟨go23, 0, none⟩) x2_1.length co23) y415 (fun k_ => some k_ = (.slice Ao46 x3_1.length co46 : Value).ownBlock) (.slice Ao46 x3_1.length co46) x3_1 (fun k_ => some k_ = (.slice (some ad416) x4_1.length co45 : Value).ownBlock) (.slice (some ad416) x4_1.length co45) x4_1 (rd x4_1 x13_1) true t421 t422 t423 w0 _ ?side1 ?side2 ?side3 ?side4 ?side5 ?side6 ?side7 ?side8 ?side9 ?side10 A37.out).mono ?_); (case side1 => repeat (first | (with_reducible first | exact HB.out | apply below_alloc | apply pw_below_drewN | apply below_drew1) | exact HB.out)); (case side2 => exact Kd.C_kept_call HR0.out (by repeat (first | (with_reducible first | exact HK.out | apply Kept.alloc | apply Kept.drewN | apply Kept.drew) | exact HK.out)) (fun k_ hs_ => Or.elim hs_ (fun e_ => (fun e_ => (HO_2.out.1 k_ e_.symm)) e_) (fun e_ => Or.elim e_ (fun e_ => (fun e_ => (HO_3.out.1 k_ e_.symm).1) e_) (fun e_ => (fun e_ => (HO_4.out.1 k_ e_.symm).1) e_)))); (case side3 => exact HC0.out); (case side4 => exact Kd.C_kept_call HR1.out (by repeat (first | (with_reducible first | exact HK.out | apply Kept.alloc | apply Kept.drewN | apply Kept.drew) | exact HK.out)) (fun k_ hs_ => Or.elim hs_ (fun e_ => (fun e_ => (HO_2.out.1 k_ e_.symm)) e_) (fun e_ => Or.elim e_ (fun e_ => (fun e_ => (HO_3.out.1 k_ e_.symm).1) e_) (fun e_ => (fun e_ => (HO_4.out.1 k_ e_.symm).1) e_)))); (case side5 => exact HC1.out); (case side6 => exact Kd.R_tight rfl HO_2.out); (case side7 => exact Kd.R_tight rfl HO_3.out); (case side8 => exact fun k_ e_ => (HO_3.out.1 k_ e_.symm).2); (case side9 => exact Kd.R_tight rfl HO_4.out); (case side10 => exact fun k_ e_ => (HO_4.out.1 k_ e_.symm).2); rintro e w47 ⟨rfl, hy0, hy1, hy2, hb, hkp⟩; have n0_ := Aside0.mk (Kd.R_reok rfl hy0 (fun k_ e_ => HO_2.out.1 k_ e_)); have n1_ := Aside0.mk (Kd.R_reok rfl hy1 (fun k_ e_ => HO_3.out.1 k_ e_)); have n2_ := Aside0.mk (Kd.R_reok rfl hy2 (fun k_ e_ => HO_4.out.1 k_ e_)); have n3_ := Aside0.mk (Kept.then_ (S := (fun k_ => P2_ k_ ∨ P3_ k_ ∨ P4_ k_)) (by repeat (first | (with_reducible first | exact HK.out | apply Kept.alloc | apply Kept.drewN | apply Kept.drew) | exact HK.out)) hkp (fun k_ hs_ => Or.elim hs_ (fun e_ => (fun e_ => (HO_2.out.1 k_ e_.symm)) e_) (fun e_ => Or.elim e_ (fun e_ => (fun e_ => (HO_3.out.1 k_ e_.symm).1) e_) (fun e_ => (fun e_ => (HO_4.out.1 k_ e_.symm).1) e_)))); have n4_ := Aside0.mk (hb); clear HO_2; clear HO_3; clear HO_4; clear HK; clear HB; have HO_2 := n0_; have HO_3 := n1_; have HO_4 := n2_; have HK := n3_; have HB := n4_; clear n0_ n1_ n2_ n3_ n4_; (try clear hb); (try clear hkp); (try clear hy0); (try clear hy1); (try clear hy2); have p41 : 0 ≤ (a5 : Int) := of_decide_eq_true (by first | (with_reducible assumption) | assumption); have q41 : (a5 : Int) < ((x3_1.length : Int) : Int) := of_decide_eq_true (by first | (with_reducible assumption) | assumption); obtain ⟨go41, co41, eo41, gb41, gl41, cl41, HG41⟩ := Kd.R_form HO_3.out (by first | omega | (have := (Kd.R_reads' HO_3.out).1; omega)); (first | cases eo41 | (injection eo41 with ea_ en_ ec_; (first | subst ea_ | (injection ea_ with ea_; subst ea_)); subst ec_; clear en_)); have GB41 := Aside0.mk gb41; have GG41 := Aside0.mk HG41; clear gb41 gl41 HG41; have HMgo41 := Aside0.mk (show ((P2_ go41 ∨ P3_ go41 ∨ P4_ go41) ∨ w.heap.size ≤ go41) from (HO_3.out.1 _ rfl).1); obtain ⟨hx41_0, hf41_0⟩ := Kd.R_celln 0 HO_3.out (a5 : Int) p41 q41; replace p41 := eq_true p41; replace q41 := eq_true q41; obtain ⟨hy48_, hz48_⟩ := Kd.R_celln 0 HO_3.out (a5 : Int) (of_decide_eq_true (by first | (with_reducible assumption) | assumption)) (of_decide_eq_true (by first | (with_reducible assumption) | assumption)); have HP48 := Kd.R_putg HO_3.out (a5 : Int) x13_1) | ((with_reducible refine gate_store (t := 3) (p := 61) rfl ?_); refine store_event (t := 3) (p := 61) (v := ?vo_w49) (w1 := (w47.setCell ⟨go41, (a5 : Int).toNat, none⟩ (.int .i64 x13_1))) ?hg ?ho ?hn ?hr ?_; (case ho => rfl); (case hg => rfl); (case hn => rfl); (case hr => first | (go_simp; done) | (go_simp; rfl)); intro w49 hw; have hg : w47.grownBy w49 (some go41) := (by rw [hw]; exact HP48.2); have hp_ : Kd.R (Kd.int .i64) 3 w49 w0.heap.size (fun k_ => ((P2_ k_ ∨ P3_ k_ ∨ P4_ k_) ∨ w.heap.size ≤ k_) ∧ some k_ ≠ (.slice (some ad416) x4_1.length co45 : Value).ownBlock) (.slice (some ⟨go41, 0, none⟩) x3_1.length co46) y424 := (by rw [hw, Ny424.out]; exact HP48.1); clear HP48; have n0_ := Aside0.mk (Kd.R_over' (v := (.slice (some ⟨go41, 0, none⟩) x3_1.length co46)) (by (with_reducible repeat (first | apply Kd.R_alloc | apply Kd.R_drewN | apply Kd.R_drew)); exact HO_2.out) (Kd.R_typed HO_3.out) (by decide) hg); have n1_ := Aside0.mk (hp_); have n2_ := Aside0.mk (Kd.R_after (v := (.slice (some ⟨go41, 0, none⟩) x3_1.length co46)) (v1 := (.slice (some ⟨go41, 0, none⟩) x3_1.length co46)) (ok := (fun k_ => ((P2_ k_ ∨ P3_ k_ ∨ P4_ k_) ∨ w.heap.size ≤ k_))) (by (with_reducible repeat (first | apply Kd.R_alloc | apply Kd.R_drewN | apply Kd.R_drew)); exact HO_4.out) hg (.inl rfl)); have n3_ := Aside0.mk ((by rw [hw]; exact below_set (HB.out) GB41.out : Below w0.heap.size w0 w49)); have n4_ := Aside0.mk (Kept.of_grown (S := (fun k_ => P2_ k_ ∨ P3_ k_ ∨ P4_ k_)) hg (by repeat (first | (with_reducible first | exact HK.out | apply Kept.alloc | apply Kept.drewN | apply Kept.drew) | exact HK.out)) (fun k_ e_ => (HO_3.out.1 k_ e_).1)); clear HO_2; clear HO_3; clear HO_4; clear HB; clear HK; have HO_2 := n0_; have HO_3 := n1_; have HO_4 := n2_; have HB := n3_; have HK := n4_; clear n0_ n1_ n2_ n3_ n4_; clear hg hw hp_; have p42 : 0 ≤ (x13_1 : Int) := of_decide_eq_true (by first | (with_reducible assumption) | assumption); have q42 : (x13_1 : Int) < ((x4_1.length : Int) : Int) := of_decide_eq_true (by first | (with_reducible assumption) | assumption); obtain ⟨go42, co42, eo42, gb42, gl42, cl42, HG42⟩ := Kd.R_form HO_4.out (by first | omega | (have := (Kd.R_reads' HO_4.out).1; omega)); (first | cases eo42 | (injection eo42 with ea_ en_ ec_; (first | subst ea_ | (injection ea_ with ea_; subst ea_)); subst ec_; clear en_)); have GB42 := Aside0.mk gb42; have GG42 := Aside0.mk HG42; clear gb42 gl42 HG42; have HMgo42 := Aside0.mk (show ((P2_ go42 ∨ P3_ go42 ∨ P4_ go42) ∨ w.heap.size ≤ go42) from (HO_4.out.1 _ rfl).1); (first | simp only [add_plain] at hx416_0 | skip); (first | simp only [add_plain] at hx419_0 | skip); obtain ⟨hx42_0, hf42_0⟩ := Kd.R_celln 0 HO_4.out (x13_1 : Int) p42 q42; replace p42 := eq_true p42; replace q42 := eq_true q42; obtain ⟨hy50_, hz50_⟩ := Kd.R_celln 0 HO_4.out (x13_1 : Int) (of_decide_eq_true (by first | (with_reducible assumption) | assumption)) (of_decide_eq_true (by first | (with_reducible assumption) | assumption)); have HP50 := Kd.R_putg HO_4.out (x13_1 : Int) a5) | ((with_reducible refine gate_store (t := 3) (p := 65) rfl ?_); refine store_event (t := 3) (p := 65) (v := ?vo_w51) (w1 := (w49.setCell ⟨go42, (x13_1 : Int).toNat, none⟩ (.int .i64 a5))) ?hg ?ho ?hn ?hr ?_; (case ho => rfl); (case hg => rfl); (case hn => rfl); (case hr => first | (go_simp; done) | (go_simp; rfl)); intro w51 hw; have hg : w49.grownBy w51 (some go42) := (by rw [hw]; exact HP50.2); have hp_ : Kd.R (Kd.int .i64) 3 w51 w0.heap.size (fun k_ => ((P2_ k_ ∨ P3_ k_ ∨ P4_ k_) ∨ w.heap.size ≤ k_) ∧ some k_ ≠ (.slice (some ⟨go41, 0, none⟩) x3_1.length co46 : Value).ownBlock) (.slice (some ⟨go42, 0, none⟩) x4_1.length co45) y425 := (by rw [hw, Ny425.out]; exact HP50.1); clear HP50; have n0_ := Aside0.mk (Kd.R_over' (v := (.slice (some ⟨go42, 0, none⟩) x4_1.length co45)) (by (with_reducible repeat (first | apply Kd.R_alloc | apply Kd.R_drewN | apply Kd.R_drew)); exact HO_2.out) (Kd.R_typed HO_4.out) (by decide) hg); have n1_ := Aside0.mk (Kd.R_after (v := (.slice (some ⟨go42, 0, none⟩) x4_1.length co45)) (v1 := (.slice (some ⟨go42, 0, none⟩) x4_1.length co45)) (ok := (fun k_ => ((P2_ k_ ∨ P3_ k_ ∨ P4_ k_) ∨ w.heap.size ≤ k_))) (by (with_reducible repeat (first | apply Kd.R_alloc | apply Kd.R_drewN | apply Kd.R_drew)); exact HO_3.out) hg (.inl rfl)); have n2_ := Aside0.mk (hp_); have n3_ := Aside0.mk ((by rw [hw]; exact below_set (HB.out) GB42.out : Below w0.heap.size w0 w51)); have n4_ := Aside0.mk (Kept.of_grown (S := (fun k_ => P2_ k_ ∨ P3_ k_ ∨ P4_ k_)) hg (by repeat (first | (with_reducible first | exact HK.out | apply Kept.alloc | apply Kept.drewN | apply Kept.drew) | exact HK.out)) (fun k_ e_ => (HO_4.out.1 k_ e_).1)); clear HO_2; clear HO_3; clear HO_4; clear HB; clear HK; have HO_2 := n0_; have HO_3 := n1_; have HO_4 := n2_; have HB := n3_; have HK := n4_; clear n0_ n1_ n2_ n3_ n4_; clear hg hw hp_))
              go_ret
              exact ⟨by first | rfl | (simp [errW_none, errW_some] <;> rfl) | (simp [*, errW_none, errW_some] <;> rfl), by (with_reducible repeat (first | apply Kd.R_alloc | apply Kd.R_drewN | apply Kd.R_drew)); exact HO_2.out, by (with_reducible repeat (first | apply Kd.R_alloc | apply Kd.R_drewN | apply Kd.R_drew)); exact Kd.R_mono HO_3.out (fun _ hk => hk.1), by (with_reducible repeat (first | apply Kd.R_alloc | apply Kd.R_drewN | apply Kd.R_drew)); exact Kd.R_mono HO_4.out (fun _ hk => hk.1), by repeat (first | (with_reducible first | exact HB.out | apply below_alloc | apply pw_below_drewN | apply below_drew1) | exact HB.out), by repeat (first | (with_reducible first | exact HK.out | apply Kept.alloc | apply Kept.drewN | apply Kept.drew) | exact HK.out)⟩
             ·rw [if_neg c40] at H
              exact absurd H (by simp)
            ·rw [if_neg c39] at H
             exact absurd H (by simp)
           ·replace c38 := Bool.eq_false_iff.mpr c38
            subst c38
            have H1 : (kimberliteref02_follow.l0 kj7 l0 l1 t421 t422 t423 a5 (wrap64 (x13_1 + 1))) = some (r1, r2, r3, r4) := by rw [if_neg (show ¬ (false = true) by decide)] at H; exact H
            clear H
            have H := H1
            clear H1
            have H' := Aside0.mk H
            clear H
            have p23 : 0 ≤ (x13_1 : Int) := of_decide_eq_true (by first | (with_reducible assumption) | assumption)
            have q23 : (x13_1 : Int) < ((x2_1.length : Int) : Int) := of_decide_eq_true (by first | (with_reducible assumption) | assumption)
            obtain ⟨go23, co23, eo23, gb23, gl23, cl23, HG23⟩ := Kd.R_form HO_2.out (by first | omega | (have := (Kd.R_reads' HO_2.out).1; omega))
            (first | cases eo23 | (injection eo23 with ea_ en_ ec_; (first | subst ea_ | (injection ea_ with ea_; subst ea_)); subst ec_; clear en_))
            have GB23 := Aside0.mk gb23
            have GG23 := Aside0.mk HG23
            clear gb23 gl23 HG23
            have HMgo23 := Aside0.mk (show ((P2_ go23 ∨ P3_ go23 ∨ P4_ go23) ∨ w.heap.size ≤ go23) from (HO_2.out.1 _ rfl))
            obtain ⟨hx23_0, hf23_0⟩ := Kd.R_celln false HO_2.out (x13_1 : Int) p23 q23
            replace p23 := eq_true p23
            replace q23 := eq_true q23
            have HP52 := Kd.R_putg HO_2.out (x13_1 : Int) true
            go_wp2_with (first | ((with_reducible refine gate_store (t := 4) (p := 40) rfl ?_); refine store_event (t := 4) (p := 40) (v := ?vo_w53) (w1 := (wc.setCell ⟨go23, (x13_1 : Int).toNat, none⟩ (.bool true))) ?hg ?ho ?hn ?hr ?_; (case ho => rfl); (case hg => rfl); (case hn => rfl); (case hr => first | (go_simp; done) | (go_simp; rfl)); intro w53 hw; have hg : wc.grownBy w53 (some go23) := (by rw [hw]; exact HP52.2); have hp_ : Kd.R Kd.bool 4 w53 w0.heap.size (fun k_ => ((P2_ k_ ∨ P3_ k_ ∨ P4_ k_) ∨ w.heap.size ≤ k_)) (.slice (some ⟨go23, 0, none⟩) x2_1.length co23) y415 := (by rw [hw, Ny415.out]; exact HP52.1); clear HP52; have n0_ := Aside0.mk (hp_); have n1_ := Aside0.mk (Kd.R_over' (v := (.slice (some ⟨go23, 0, none⟩) x2_1.length co23)) (by (with_reducible repeat (first | apply Kd.R_alloc | apply Kd.R_drewN | apply Kd.R_drew)); exact HO_3.out) (Kd.R_typed HO_2.out) (by decide) hg); have n2_ := Aside0.mk (Kd.R_over' (v := (.slice (some ⟨go23, 0, none⟩) x2_1.length co23)) (by (with_reducible repeat (first | apply Kd.R_alloc | apply Kd.R_drewN | apply Kd.R_drew)); exact HO_4.out) (Kd.R_typed HO_2.out) (by decide) hg); have n3_ := Aside0.mk ((by rw [hw]; exact below_set (HB.out) GB23.out : Below w0.heap.size w0 w53)); have n4_ := Aside0.mk (Kept.of_grown (S := (fun k_ => P2_ k_ ∨ P3_ k_ ∨ P4_ k_)) hg (by repeat (first | (with_reducible first | exact HK.out | apply Kept.alloc | apply Kept.drewN | apply Kept.drew) | exact HK.out)) (fun k_ e_ => (HO_2.out.1 k_ e_))); clear HO_2; clear HO_3; clear HO_4; clear HB; clear HK; have HO_2 := n0_; have HO_3 := n1_; have HO_4 := n2_; have HB := n3_; have HK := n4_; clear n0_ n1_ n2_ n3_ n4_; clear hg hw hp_; obtain ⟨Ao54, co54, eo54⟩ := Kd.R_slice HO_4.out; subst eo54; have p416 : 0 ≤ (x13_1 : Int) := of_decide_eq_true (by first | (with_reducible assumption) | assumption); have q416 : x13_1 < (x4_1.length : Int) := of_decide_eq_true (by first | (with_reducible assumption) | assumption); obtain ⟨ad416, e416, hx416_0⟩ := Kd.at_int (Kd.R_reads' HO_4.out).2.2 x13_1 p416 q416; cases e416; replace p416 := eq_true p416; replace q416 := eq_true q416; have p419 : 0 ≤ (x13_1 : Int) := of_decide_eq_true (by first | (with_reducible assumption) | assumption); have q419 : x13_1 < (x4_1.length : Int) := of_decide_eq_true (by first | (with_reducible assumption) | assumption); obtain ⟨ad419, e419, hx419_0⟩ := Kd.at_int (Kd.R_reads' HO_4.out).2.2 x13_1 p419 q419; obtain rfl : ad416 = ad419 := (by injection e419); replace p419 := eq_true p419; replace q419 := eq_true q419; obtain ⟨Ao55, co55, eo55⟩ := Kd.R_slice HO_3.out; subst eo55) | (go_at_call 110; (with_reducible refine (ih kj7 (by have := HK1.out; have := HJ7.out; omega) _ _ l0 _ _ l1 (fun k_ => some k_ = (.slice (some ⟨go23, 0, none⟩) x2_1.length co23 : Value).ownBlock) (.slice (some ⟨go23, 0, none⟩) x2_1.length co23) y415 (fun k_ => some k_ = (.slice Ao55 x3_1.length co55 : Value).ownBlock) (.slice Ao55 x3_1.length co55) x3_1 (fun k_ => some k_ = (.slice (some ad416) x4_1.length co54 : Value).ownBlock) (.slice (some ad416) x4_1.length co54) x4_1 (rd x4_1 x13_1) false t421 t422 t423 w0 _ ?side1 ?side2 ?side3 ?side4 ?side5 ?side6 ?side7 ?side8 ?side9 ?side10 A37.out).mono ?_); (case side1 => repeat (first | (with_reducible first | exact HB.out | apply below_alloc | apply pw_below_drewN | apply below_drew1) | exact HB.out)); (case side2 => exact Kd.C_kept_call HR0.out (by repeat (first | (with_reducible first | exact HK.out | apply Kept.alloc | apply Kept.drewN | apply Kept.drew) | exact HK.out)) (fun k_ hs_ => Or.elim hs_ (fun e_ => (fun e_ => (HO_2.out.1 k_ e_.symm)) e_) (fun e_ => Or.elim e_ (fun e_ => (fun e_ => (HO_3.out.1 k_ e_.symm).1) e_) (fun e_ => (fun e_ => (HO_4.out.1 k_ e_.symm).1) e_)))); (case side3 => exact HC0.out); (case side4 => exact Kd.C_kept_call HR1.out (by repeat (first | (with_reducible first | exact HK.out | apply Kept.alloc | apply Kept.drewN | apply Kept.drew) | exact HK.out)) (fun k_ hs_ => Or.elim hs_ (fun e_ => (fun e_ => (HO_2.out.1 k_ e_.symm)) e_) (fun e_ => Or.elim e_ (fun e_ => (fun e_ => (HO_3.out.1 k_ e_.symm).1) e_) (fun e_ => (fun e_ => (HO_4.out.1 k_ e_.symm).1) e_)))); (case side5 => exact HC1.out); (case side6 => exact Kd.R_tight rfl HO_2.out); (case side7 => exact Kd.R_tight rfl HO_3.out); (case side8 => exact fun k_ e_ => (HO_3.out.1 k_ e_.symm).2); (case side9 => exact Kd.R_tight rfl HO_4.out); (case side10 => exact fun k_ e_ => (HO_4.out.1 k_ e_.symm).2); rintro e w56 ⟨rfl, hy0, hy1, hy2, hb, hkp⟩; have n0_ := Aside0.mk (Kd.R_reok rfl hy0 (fun k_ e_ => HO_2.out.1 k_ e_)); have n1_ := Aside0.mk (Kd.R_reok rfl hy1 (fun k_ e_ => HO_3.out.1 k_ e_)); have n2_ := Aside0.mk (Kd.R_reok rfl hy2 (fun k_ e_ => HO_4.out.1 k_ e_)); have n3_ := Aside0.mk (Kept.then_ (S := (fun k_ => P2_ k_ ∨ P3_ k_ ∨ P4_ k_)) (by repeat (first | (with_reducible first | exact HK.out | apply Kept.alloc | apply Kept.drewN | apply Kept.drew) | exact HK.out)) hkp (fun k_ hs_ => Or.elim hs_ (fun e_ => (fun e_ => (HO_2.out.1 k_ e_.symm)) e_) (fun e_ => Or.elim e_ (fun e_ => (fun e_ => (HO_3.out.1 k_ e_.symm).1) e_) (fun e_ => (fun e_ => (HO_4.out.1 k_ e_.symm).1) e_)))); have n4_ := Aside0.mk (hb); clear HO_2; clear HO_3; clear HO_4; clear HK; clear HB; have HO_2 := n0_; have HO_3 := n1_; have HO_4 := n2_; have HK := n3_; have HB := n4_; clear n0_ n1_ n2_ n3_ n4_; (try clear hb); (try clear hkp); (try clear hy0); (try clear hy1); (try clear hy2)))
            go_roundg kj7
            case measure => have := HK1.out; have := HJ7.out; omega
            case rel => exact ⟨(t421), (t422), (t423), (wrap64 (x13_1 + 1)), (by first | rfl | (simp; done) | (simp [*]; done)), H', ⟨by have := HK1.out; have := HJ7.out; omega⟩, ⟨by (with_reducible repeat (first | apply Kd.R_alloc | apply Kd.R_drewN | apply Kd.R_drew)); exact HO_2.out⟩, ⟨by (with_reducible repeat (first | apply Kd.R_alloc | apply Kd.R_drewN | apply Kd.R_drew)); exact HO_3.out⟩, ⟨by (with_reducible repeat (first | apply Kd.R_alloc | apply Kd.R_drewN | apply Kd.R_drew)); exact HO_4.out⟩, ⟨by repeat (first | (with_reducible first | exact HK.out | apply Kept.alloc | apply Kept.drewN | apply Kept.drew) | exact HK.out)⟩, ⟨by repeat (first | (with_reducible first | exact HB.out | apply below_alloc | apply pw_below_drewN | apply below_drew1) | exact HB.out)⟩⟩
         ·rw [if_neg c24] at H
          exact absurd H (by simp)
        ·rw [if_neg c22] at H
         exact absurd H (by simp)
       ·rw [if_neg c21] at H
        exact absurd H (by simp)
   ·rw [if_neg c7] at H
    have c7b0 : decide (x13_1 < (l0.length : Int)) = false := decide_eq_false c7
    clear c7
    simp only [Option.some.injEq, Prod.mk.injEq] at H
    obtain ⟨rfl, rfl, rfl, rfl⟩ := H
    go_wp2
    go_ret
    exact ⟨by first | rfl | (simp [errW_none, errW_some] <;> rfl) | (simp [*, errW_none, errW_some] <;> rfl), by (with_reducible repeat (first | apply Kd.R_alloc | apply Kd.R_drewN | apply Kd.R_drew)); exact HO_2.out, by (with_reducible repeat (first | apply Kd.R_alloc | apply Kd.R_drewN | apply Kd.R_drew)); exact Kd.R_mono HO_3.out (fun _ hk => hk.1), by (with_reducible repeat (first | apply Kd.R_alloc | apply Kd.R_drewN | apply Kd.R_drew)); exact Kd.R_mono HO_4.out (fun _ hk => hk.1), by repeat (first | (with_reducible first | exact HB.out | apply below_alloc | apply pw_below_drewN | apply below_drew1) | exact HB.out), by repeat (first | (with_reducible first | exact HK.out | apply Kept.alloc | apply Kept.drewN | apply Kept.drew) | exact HK.out)⟩
end Go.Proofs.Ytnbdfmdjedakcaa.PP
