/- No conditions. -/
import Derived.Test.YtnbdfmdjedakcaaQ0
namespace Go.Proofs.Ytnbdfmdjedakcaa.PP
open Go.RowKit Go.Proofs.YtnbdfmdjedakcaaW.PrintWords Go.Proofs.YtnbdfmdjedakcaaW.PrintLast Go.Proofs.YtnbdfmdjedakcaaW.PrintMore
attribute [local go_sem] max2_int min2_int max_two min_two max_three min_three max_four min_four
set_option linter.unusedVariables false
set_option linter.unusedSimpArgs false
def kimberliteref02_Loss.l0 : Nat → List (S38) → List Int → Int → Int → Option (Int)
 | 0, _, _, _, _ => none
 | k + 1, x0, x1, x5, x6 => if x6 < (x0.length : Int) then (if x6 < (x1.length : Int) then (if 0 ≤ x6 then (kimberliteref02_Loss.l0 k x0 x1 (wrap64 (x5 + (wrap64 (((rd_T38 x0 x6).f2) * (mx (wrap64 ((rd x1 x6) - ((rd_T38 x0 x6).f1))) (wrap64 (((rd_T38 x0 x6).f1) - (rd x1 x6)))))))) (wrap64 (x6 + 1))) else (none)) else (some x5)) else (some x5)
def kimberliteref02_Loss.f (k : Nat) (l0 : List (S38)) (l1 : List Int) : Option (Int) := kimberliteref02_Loss.l0 k l0 l1 0 0
theorem kimberliteref02_Loss.mono_l : ∀ k, (∀ y0 y1 y2 y3, LeO (kimberliteref02_Loss.l0 k y0 y1 y2 y3) (kimberliteref02_Loss.l0 (k + 1) y0 y1 y2 y3))
 | 0 => fun _ _ _ _ r h => by simp [kimberliteref02_Loss.l0] at h
 | k + 1 => by
  have ih0 := kimberliteref02_Loss.mono_l k
  ·intro y0 y1 y2 y3
   unfold kimberliteref02_Loss.l0
   repeat' first
   | (with_reducible exact ih0 _ _ _ _)
   | (with_reducible exact LeO.refl _)
   | (with_reducible exact LeO.none _)
   | (with_reducible refine LeO.ite ?_ ?_)
   | (with_reducible refine LeO.bind ?_ (fun _ => ?_))
   | exact ih0 _ _ _ _
   | exact LeO.none _
   | refine LeO.ite ?_ ?_
   | refine LeO.bind ?_ (fun _ => ?_)
theorem kimberliteref02_Loss.mono : ∀ a0 a1 k, LeO (kimberliteref02_Loss.f k a0 a1) (kimberliteref02_Loss.f (k + 1) a0 a1) := by
 intro a0 a1 k
 have ih0 := kimberliteref02_Loss.mono_l k
 unfold kimberliteref02_Loss.f
 repeat' first
   | (with_reducible exact ih0 _ _ _ _)
   | (with_reducible exact LeO.refl _)
   | (with_reducible exact LeO.none _)
   | (with_reducible refine LeO.ite ?_ ?_)
   | (with_reducible refine LeO.bind ?_ (fun _ => ?_))
   | exact ih0 _ _ _ _
   | exact LeO.none _
   | refine LeO.ite ?_ ?_
   | refine LeO.bind ?_ (fun _ => ?_)
set_option maxHeartbeats 8000000 in
set_option maxRecDepth 100000 in
theorem kimberliteref02_Loss.calls (k : Nat) (A0 : Option Addr) (c0 : Nat) (l0 : List (S38)) (A1 : Option Addr) (c1 : Nat) (l1 : List Int) (r : Int) (w : World) (hr0 : Kd.C k38 w A0 l0.length l0) (hc0 : l0.length ≤ c0) (hr1 : Kd.C (Kd.int .i64) w A1 l1.length l1) (hc1 : l1.length ≤ c1) (h : kimberliteref02_Loss.f k l0 l1 = some r) :
  Calls Try.prog 63 #[.slice A0 l0.length c0, .slice A1 l1.length c1] w fun e w' => e = .returned (.int .i64 r) ∧ Below w.heap.size w w' := by
 have HR0 := Aside0.mk hr0
 have HC0 := Aside0.mk hc0
 clear hr0 hc0
 have HR1 := Aside0.mk hr1
 have HC1 := Aside0.mk hc1
 clear hr1 hc1
 have HB := Aside0.mk (Below.refl w.heap.size w)
 have H : (kimberliteref02_Loss.l0 k l0 l1 0 0) = some r := h
 clear h
 have H' := Aside0.mk H
 clear H
 go_enter Try.func63, Try.ntmps63
 go_wp2
 repeat (go_quiet (fail); try go_wp2)
 go_loopg [5, 6] k (fun kq v5 v6 w' => ∃ (x5_1 : Int) (x6_1 : Int), v5 = .int .i64 x5_1 ∧ v6 = .int .i64 x6_1 ∧ Aside0 (kimberliteref02_Loss.l0 kq l0 l1 x5_1 x6_1 = some r) ∧ Aside0 (kq ≤ k) ∧ Aside0 (Below w.heap.size w w'))
 case atStart => exact ⟨(0), (0), (by first | rfl | (simp; done) | (simp [*]; done)), (by first | rfl | (simp; done) | (simp [*]; done)), H', ⟨Nat.le_refl _⟩, ⟨by repeat (first | (with_reducible first | exact HB.out | apply below_alloc | apply pw_below_drewN | apply below_drew1) | exact HB.out)⟩⟩
 case round =>
  clear H'
  try clear c1
  try clear p2
  obtain ⟨x5_1, x6_1, rfl, rfl, HA, HK1, HB⟩ := hrel
  cases gk with
  | zero => exact absurd HA.out (by simp [kimberliteref02_Loss.l0])
  | succ k1 =>
   have H := HA.out
   clear HA
   simp only [kimberliteref02_Loss.l0] at H
   by_cases c3 : x6_1 < (l0.length : Int)
   ·rw [if_pos c3] at H
    have c3b0 : decide (x6_1 < (l0.length : Int)) = true := decide_eq_true c3
    clear c3
    by_cases c4 : x6_1 < (l1.length : Int)
    ·rw [if_pos c4] at H
     have c4b0 : decide (x6_1 < (l1.length : Int)) = true := decide_eq_true c4
     clear c4
     by_cases c5 : 0 ≤ x6_1
     ·rw [if_pos c5] at H
      have c5b0 : decide (0 ≤ x6_1) = true := decide_eq_true c5
      clear c5
      obtain ⟨ji6, hji6⟩ : ∃ j_ : Int, (mx (wrap64 ((rd l1 x6_1) - ((rd_T38 l0 x6_1).f1))) (wrap64 (((rd_T38 l0 x6_1).f1) - (rd l1 x6_1)))) = j_ := ⟨_, rfl⟩
      replace H : (kimberliteref02_Loss.l0 k1 l0 l1 (wrap64 (x5_1 + (wrap64 (((rd_T38 l0 x6_1).f2) * (ji6))))) (wrap64 (x6_1 + 1))) = some r := by first | (rw [hji6] at H; exact H) | (simp only [hji6] at H ⊢; exact H)
      have hji6_ : (if (wrap64 ((rd l1 x6_1) - ((rd_T38 l0 x6_1).f1))) < (wrap64 (((rd_T38 l0 x6_1).f1) - (rd l1 x6_1))) then (wrap64 (((rd_T38 l0 x6_1).f1) - (rd l1 x6_1))) else (wrap64 ((rd l1 x6_1) - ((rd_T38 l0 x6_1).f1)))) = ji6 := hji6
      have H' := Aside0.mk H
      clear H
      have p816 : 0 ≤ (x6_1 : Int) := of_decide_eq_true (by first | (with_reducible assumption) | assumption)
      have q816 : x6_1 < (l0.length : Int) := of_decide_eq_true (by first | (with_reducible assumption) | assumption)
      obtain ⟨ad816, e816, hx816_0, hx816_1, hx816_2, hx816_3, hx816_4⟩ := at_T38 HR0.out x6_1 p816 q816
      cases e816
      replace hx816_0 := (HB.out.cell (World.block_lt_of_cell? w _ hx816_0)).trans hx816_0
      replace hx816_1 := (HB.out.cell (World.block_lt_of_cell? w _ hx816_1)).trans hx816_1
      replace hx816_2 := (HB.out.cell (World.block_lt_of_cell? w _ hx816_2)).trans hx816_2
      replace hx816_3 := (HB.out.cell (World.block_lt_of_cell? w _ hx816_3)).trans hx816_3
      replace hx816_4 := (HB.out.cell (World.block_lt_of_cell? w _ hx816_4)).trans hx816_4
      replace p816 := eq_true p816
      replace q816 := eq_true q816
      have p817 : 0 ≤ (x6_1 : Int) := of_decide_eq_true (by first | (with_reducible assumption) | assumption)
      have q817 : x6_1 < (l1.length : Int) := of_decide_eq_true (by first | (with_reducible assumption) | assumption)
      obtain ⟨ad817, e817, hx817_0⟩ := Kd.at_int HR1.out x6_1 p817 q817
      cases e817
      replace hx817_0 := (HB.out.cell (World.block_lt_of_cell? w _ hx817_0)).trans hx817_0
      replace p817 := eq_true p817
      replace q817 := eq_true q817
      have p818 : 0 ≤ (x6_1 : Int) := of_decide_eq_true (by first | (with_reducible assumption) | assumption)
      have q818 : x6_1 < (l0.length : Int) := of_decide_eq_true (by first | (with_reducible assumption) | assumption)
      obtain ⟨ad818, e818, hx818_0, hx818_1, hx818_2, hx818_3, hx818_4⟩ := at_T38 HR0.out x6_1 p818 q818
      obtain rfl : ad816 = ad818 := (by injection e818)
      replace hx818_0 := (HB.out.cell (World.block_lt_of_cell? w _ hx818_0)).trans hx818_0
      replace hx818_1 := (HB.out.cell (World.block_lt_of_cell? w _ hx818_1)).trans hx818_1
      replace hx818_2 := (HB.out.cell (World.block_lt_of_cell? w _ hx818_2)).trans hx818_2
      replace hx818_3 := (HB.out.cell (World.block_lt_of_cell? w _ hx818_3)).trans hx818_3
      replace hx818_4 := (HB.out.cell (World.block_lt_of_cell? w _ hx818_4)).trans hx818_4
      replace p818 := eq_true p818
      replace q818 := eq_true q818
      have p819 : 0 ≤ (x6_1 : Int) := of_decide_eq_true (by first | (with_reducible assumption) | assumption)
      have q819 : x6_1 < (l0.length : Int) := of_decide_eq_true (by first | (with_reducible assumption) | assumption)
      obtain ⟨ad819, e819, hx819_0, hx819_1, hx819_2, hx819_3, hx819_4⟩ := at_T38 HR0.out x6_1 p819 q819
      obtain rfl : ad816 = ad819 := (by injection e819)
      replace hx819_0 := (HB.out.cell (World.block_lt_of_cell? w _ hx819_0)).trans hx819_0
      replace hx819_1 := (HB.out.cell (World.block_lt_of_cell? w _ hx819_1)).trans hx819_1
      replace hx819_2 := (HB.out.cell (World.block_lt_of_cell? w _ hx819_2)).trans hx819_2
      replace hx819_3 := (HB.out.cell (World.block_lt_of_cell? w _ hx819_3)).trans hx819_3
      replace hx819_4 := (HB.out.cell (World.block_lt_of_cell? w _ hx819_4)).trans hx819_4
      replace p819 := eq_true p819
      replace q819 := eq_true q819
      have p820 : 0 ≤ (x6_1 : Int) := of_decide_eq_true (by first | (with_reducible assumption) | assumption)
      have q820 : x6_1 < (l1.length : Int) := of_decide_eq_true (by first | (with_reducible assumption) | assumption)
      obtain ⟨ad820, e820, hx820_0⟩ := Kd.at_int HR1.out x6_1 p820 q820
      obtain rfl : ad817 = ad820 := (by injection e820)
      replace hx820_0 := (HB.out.cell (World.block_lt_of_cell? w _ hx820_0)).trans hx820_0
      replace p820 := eq_true p820
      replace q820 := eq_true q820
      go_wp2
      repeat (go_quiet (fail); try go_wp2)
      go_roundg k1
      case measure => have := HK1.out; omega
      case rel => exact ⟨(wrap64 (x5_1 + (wrap64 (((rd_T38 l0 x6_1).f2) * (ji6))))), (wrap64 (x6_1 + 1)), (by first | rfl | (simp; done) | (simp only [← hji6] <;> (first | rfl | simp)) | (simp [*]; done)), (by first | rfl | (simp; done) | (simp [*]; done)), H', ⟨by have := HK1.out; omega⟩, ⟨by repeat (first | (with_reducible first | exact HB.out | apply below_alloc | apply pw_below_drewN | apply below_drew1) | exact HB.out)⟩⟩
     ·rw [if_neg c5] at H
      exact absurd H (by simp)
    ·rw [if_neg c4] at H
     have c4b0 : decide (x6_1 < (l1.length : Int)) = false := decide_eq_false c4
     clear c4
     obtain rfl := Option.some.inj H
     go_wp2
     repeat (go_quiet (fail); try go_wp2)
     go_ret
     exact ⟨by first | rfl | (simp [errW_none, errW_some] <;> rfl) | (simp [*, errW_none, errW_some] <;> rfl), by repeat (first | (with_reducible first | exact HB.out | apply below_alloc | apply pw_below_drewN | apply below_drew1) | exact HB.out)⟩
   ·rw [if_neg c3] at H
    have c3b0 : decide (x6_1 < (l0.length : Int)) = false := decide_eq_false c3
    clear c3
    obtain rfl := Option.some.inj H
    go_wp2
    repeat (go_quiet (fail); try go_wp2)
    go_ret
    exact ⟨by first | rfl | (simp [errW_none, errW_some] <;> rfl) | (simp [*, errW_none, errW_some] <;> rfl), by repeat (first | (with_reducible first | exact HB.out | apply below_alloc | apply pw_below_drewN | apply below_drew1) | exact HB.out)⟩
end Go.Proofs.Ytnbdfmdjedakcaa.PP
