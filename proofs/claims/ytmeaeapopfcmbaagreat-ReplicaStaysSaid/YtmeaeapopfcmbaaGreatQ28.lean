/- No conditions. -/
import Derived.Test.YtmeaeapopfcmbaaGreatQ0
namespace Go.Proofs.YtmeaeapopfcmbaaGreat.PP
open Go.RowKit Go.Proofs.YtmeaeapopfcmbaaGreatW.PrintWords Go.Proofs.YtmeaeapopfcmbaaGreatW.PrintLast Go.Proofs.YtmeaeapopfcmbaaGreatW.PrintMore
attribute [local go_sem] max2_int min2_int max_two min_two max_three min_three max_four min_four
set_option linter.unusedVariables false
set_option linter.unusedSimpArgs false
def kimberlitelaw08_brief.l0 : Nat → List (S61) → Int → Option (Bool)
 | 0, _, _ => none
 | k + 1, x0, x3 => if x3 < (x0.length : Int) then (if x3 ≥ 60 then (some false) else (if 0 ≤ x3 then (if (((rd_T61 x0 x3).f2.f3).size : Int) > 300 then (some false) else (kimberlitelaw08_brief.l0 k x0 (wrap64 (x3 + 1)))) else (none))) else (some true)
def kimberlitelaw08_brief.f (k : Nat) (l0 : List (S61)) : Option (Bool) := kimberlitelaw08_brief.l0 k l0 0
theorem kimberlitelaw08_brief.mono_l : ∀ k, (∀ y0 y1, LeO (kimberlitelaw08_brief.l0 k y0 y1) (kimberlitelaw08_brief.l0 (k + 1) y0 y1))
 | 0 => fun _ _ r h => by simp [kimberlitelaw08_brief.l0] at h
 | k + 1 => by
  have ih0 := kimberlitelaw08_brief.mono_l k
  ·intro y0 y1
   unfold kimberlitelaw08_brief.l0
   repeat' first
   | (with_reducible exact ih0 _ _)
   | (with_reducible exact LeO.refl _)
   | (with_reducible exact LeO.none _)
   | (with_reducible refine LeO.ite ?_ ?_)
   | (with_reducible refine LeO.bind ?_ (fun _ => ?_))
   | exact ih0 _ _
   | exact LeO.none _
   | refine LeO.ite ?_ ?_
   | refine LeO.bind ?_ (fun _ => ?_)
theorem kimberlitelaw08_brief.mono : ∀ a0 k, LeO (kimberlitelaw08_brief.f k a0) (kimberlitelaw08_brief.f (k + 1) a0) := by
 intro a0 k
 have ih0 := kimberlitelaw08_brief.mono_l k
 unfold kimberlitelaw08_brief.f
 repeat' first
   | (with_reducible exact ih0 _ _)
   | (with_reducible exact LeO.refl _)
   | (with_reducible exact LeO.none _)
   | (with_reducible refine LeO.ite ?_ ?_)
   | (with_reducible refine LeO.bind ?_ (fun _ => ?_))
   | exact ih0 _ _
   | exact LeO.none _
   | refine LeO.ite ?_ ?_
   | refine LeO.bind ?_ (fun _ => ?_)
set_option maxHeartbeats 8000000 in
set_option maxRecDepth 100000 in
theorem kimberlitelaw08_brief.calls (k : Nat) (A0 : Option Addr) (c0 : Nat) (l0 : List (S61)) (r : Bool) (w : World) (hr0 : Kd.C k61 w A0 l0.length l0) (hc0 : l0.length ≤ c0) (h : kimberlitelaw08_brief.f k l0 = some r) :
  Calls Tryz.prog 28 #[.slice A0 l0.length c0] w fun e w' => e = .returned (.bool r) ∧ Drawn0 w w' := by
 have HR0 := Aside0.mk hr0
 have HC0 := Aside0.mk hc0
 clear hr0 hc0
 have H : (kimberlitelaw08_brief.l0 k l0 0) = some r := h
 clear h
 have H' := Aside0.mk H
 clear H
 go_enter Tryz.func28, Tryz.ntmps28
 go_wp2
 go_loopg [3] k (fun kq v3 w' => ∃ (x3_1 : Int), v3 = .int .i64 x3_1 ∧ Aside0 (kimberlitelaw08_brief.l0 kq l0 x3_1 = some r) ∧ Aside0 (kq ≤ k) ∧ Drawn0 w w')
 case atStart => exact ⟨(0), (by first | rfl | (simp; done) | (simp [*]; done)), H', ⟨Nat.le_refl _⟩, by repeat (first | exact Drawn0.refl _ | apply Drawn0.step)⟩
 case round =>
  clear H'
  obtain ⟨x3_1, rfl, HA, HK1, ⟨m1, rfl⟩⟩ := hrel
  cases gk with
  | zero => exact absurd HA.out (by simp [kimberlitelaw08_brief.l0])
  | succ k1 =>
   have H := HA.out
   clear HA
   simp only [kimberlitelaw08_brief.l0] at H
   by_cases c2 : x3_1 < (l0.length : Int)
   ·rw [if_pos c2] at H
    have c2b0 : decide (x3_1 < (l0.length : Int)) = true := decide_eq_true c2
    clear c2
    by_cases c3 : x3_1 ≥ 60
    ·rw [if_pos c3] at H
     have c3b0 : decide (60 ≤ x3_1) = true := decide_eq_true c3
     clear c3
     obtain rfl := Option.some.inj H
     go_wp2
     go_ret
     exact ⟨by first | rfl | (simp; done) | (simp [*]; done), by repeat (first | exact Drawn0.refl _ | apply Drawn0.step)⟩
    ·rw [if_neg c3] at H
     have c3b0 : decide (60 ≤ x3_1) = false := decide_eq_false c3
     clear c3
     by_cases c4 : 0 ≤ x3_1
     ·rw [if_pos c4] at H
      have c4b0 : decide (0 ≤ x3_1) = true := decide_eq_true c4
      clear c4
      by_cases c5 : (((rd_T61 l0 x3_1).f2.f3).size : Int) > 300
      ·rw [if_pos c5] at H
       have c5b0 : decide (300 < (((rd_T61 l0 x3_1).f2.f3).size : Int)) = true := decide_eq_true c5
       have c5b1 : decide (300 < ((rd_T61 l0 x3_1).f2.f3).size) = true := decide_eq_true (by omega)
       clear c5
       obtain rfl := Option.some.inj H
       have p344 : 0 ≤ (x3_1 : Int) := of_decide_eq_true (by first | (with_reducible assumption) | assumption)
       have q344 : x3_1 < (l0.length : Int) := of_decide_eq_true (by first | (with_reducible assumption) | assumption)
       obtain ⟨ad344, A344_7, c344_7, A344_8, c344_8, A344_9, c344_9, A344_10, c344_10, A344_11, c344_11, e344, hx344_0, hx344_1, hx344_2, hx344_3, hx344_4, hx344_5, hx344_6, hx344_7, hx344_8, hx344_9, hx344_10, hx344_11, hl344_7, hi344_7, hl344_8, hi344_8, hl344_9, hi344_9, hl344_10, hi344_10, hl344_11, hi344_11⟩ := at_T61 HR0.out x3_1 p344 q344
       cases e344
       have HR344_7 := Aside0.mk hi344_7
       have HC344_7 := Aside0.mk hl344_7
       clear hi344_7 hl344_7
       have HR344_8 := Aside0.mk hi344_8
       have HC344_8 := Aside0.mk hl344_8
       clear hi344_8 hl344_8
       have HR344_9 := Aside0.mk hi344_9
       have HC344_9 := Aside0.mk hl344_9
       clear hi344_9 hl344_9
       have HR344_10 := Aside0.mk hi344_10
       have HC344_10 := Aside0.mk hl344_10
       clear hi344_10 hl344_10
       have HR344_11 := Aside0.mk hi344_11
       have HC344_11 := Aside0.mk hl344_11
       clear hi344_11 hl344_11
       replace p344 := eq_true p344
       replace q344 := eq_true q344
       go_wp2
       go_ret
       exact ⟨by first | rfl | (simp; done) | (simp [*]; done), by repeat (first | exact Drawn0.refl _ | apply Drawn0.step)⟩
      ·rw [if_neg c5] at H
       have c5b0 : decide (300 < (((rd_T61 l0 x3_1).f2.f3).size : Int)) = false := decide_eq_false c5
       have c5b1 : decide (300 < ((rd_T61 l0 x3_1).f2.f3).size) = false := decide_eq_false (by omega)
       clear c5
       have H' := Aside0.mk H
       clear H
       have p344 : 0 ≤ (x3_1 : Int) := of_decide_eq_true (by first | (with_reducible assumption) | assumption)
       have q344 : x3_1 < (l0.length : Int) := of_decide_eq_true (by first | (with_reducible assumption) | assumption)
       obtain ⟨ad344, A344_7, c344_7, A344_8, c344_8, A344_9, c344_9, A344_10, c344_10, A344_11, c344_11, e344, hx344_0, hx344_1, hx344_2, hx344_3, hx344_4, hx344_5, hx344_6, hx344_7, hx344_8, hx344_9, hx344_10, hx344_11, hl344_7, hi344_7, hl344_8, hi344_8, hl344_9, hi344_9, hl344_10, hi344_10, hl344_11, hi344_11⟩ := at_T61 HR0.out x3_1 p344 q344
       cases e344
       have HR344_7 := Aside0.mk hi344_7
       have HC344_7 := Aside0.mk hl344_7
       clear hi344_7 hl344_7
       have HR344_8 := Aside0.mk hi344_8
       have HC344_8 := Aside0.mk hl344_8
       clear hi344_8 hl344_8
       have HR344_9 := Aside0.mk hi344_9
       have HC344_9 := Aside0.mk hl344_9
       clear hi344_9 hl344_9
       have HR344_10 := Aside0.mk hi344_10
       have HC344_10 := Aside0.mk hl344_10
       clear hi344_10 hl344_10
       have HR344_11 := Aside0.mk hi344_11
       have HC344_11 := Aside0.mk hl344_11
       clear hi344_11 hl344_11
       replace p344 := eq_true p344
       replace q344 := eq_true q344
       go_wp2
       go_roundg k1
       case measure => have := HK1.out; omega
       case rel => exact ⟨(wrap64 (x3_1 + 1)), (by first | rfl | (simp; done) | (simp [*]; done)), H', ⟨by have := HK1.out; omega⟩, by repeat (first | exact Drawn0.refl _ | apply Drawn0.step)⟩
     ·rw [if_neg c4] at H
      exact absurd H (by simp)
   ·rw [if_neg c2] at H
    have c2b0 : decide (x3_1 < (l0.length : Int)) = false := decide_eq_false c2
    clear c2
    obtain rfl := Option.some.inj H
    go_wp2
    go_ret
    exact ⟨by first | rfl | (simp; done) | (simp [*]; done), by repeat (first | exact Drawn0.refl _ | apply Drawn0.step)⟩
end Go.Proofs.YtmeaeapopfcmbaaGreat.PP
