/- No conditions. -/
import Derived.Test.YtnbdfmdjedakcaaQ0
import Derived.Test.YtnbdfmdjedakcaaQ18
import Derived.Test.YtnbdfmdjedakcaaQ26
import Derived.Test.YtnbdfmdjedakcaaQ37
import Derived.Test.YtnbdfmdjedakcaaQ50
import Derived.Test.YtnbdfmdjedakcaaQ51
import Derived.Test.YtnbdfmdjedakcaaExt
import Derived.Test.YtnbdfmdjedakcaaExt2
namespace Go.Proofs.Ytnbdfmdjedakcaa.PP
open Go.RowKit Go.Proofs.YtnbdfmdjedakcaaW.PrintWords Go.Proofs.YtnbdfmdjedakcaaW.PrintLast Go.Proofs.YtnbdfmdjedakcaaW.PrintMore
attribute [local go_sem] max2_int min2_int max_two min_two max_three min_three max_four min_four
set_option linter.unusedVariables false
set_option linter.unusedSimpArgs false
mutual
def kimberlitelaw02_GradeDual.j0 : Nat → List (S36) → List (S36) → Bool → Int → Int → Int → Option (Bool)
 | 0, _, _, _, _, _, _ => none
 | k + 1, x5, x6, x58, x523000, x523001, x523002 => if x58 = true then (some false) else ((grade_In.f k x5 x523000 x523001 x523002).bind fun bt541 => (if bt541.2 = 0 then (kimberlitelaw02_GradeDual.l0 k x6 bt541.1 0 x523000 x523001 x523002) else (if bt541.2 = 2 then ((kimberliteref02_Good.f x523000 x523001 x523002).bind fun t543 => (if t543 = true then (some false) else ((kimberlitelaw02_alive.f k).bind fun t544 => (some t544)))) else (some false))))
def kimberlitelaw02_GradeDual.l0 : Nat → List (S36) → Bool → Int → Int → Int → Int → Option (Bool)
 | 0, _, _, _, _, _, _ => none
 | k + 1, x6, x12, x14, x523000, x523001, x523002 => if x14 < (x6.length : Int) then (if 0 ≤ x14 then ((grade_Below.f x523000 x523001 x523002 ((rd_T36 x6 x14).f0) ((rd_T36 x6 x14).f1) ((rd_T36 x6 x14).f2)).bind fun t547 => (if t547 = true then (if x12 = true then (some false) else ((kimberlitelaw02_alive.f k).bind fun t548 => (some t548))) else (kimberlitelaw02_GradeDual.l0 k x6 x12 (wrap64 (x14 + 1)) x523000 x523001 x523002))) else (none)) else (if x12 = true then ((kimberlitelaw02_alive.f k).bind fun t545 => (some t545)) else (some false))
end
def kimberlitelaw02_GradeDual.f (k : Nat) (l0 : List (S36)) (a1_0 : Int) (a1_1 : Int) (a1_2 : Int) : Option (Bool) := (kimberlitelaw02_class.f l0).bind fun t523 => ((grade_Outside.f t523).bind fun bt526 => ((grade_Beyond.f bt526.1).bind fun bt530 => ((grade_Outside.f bt530.1).bind fun bt534 => (if bt526.2 = 0 then (if bt530.2 = 0 then (if bt534.2 = 0 then ((kimberlitelaw02_alike.f k bt530.1 t523).bind fun t538 => (if t538 = true then ((kimberlitelaw02_alike.f k bt534.1 bt526.1).bind fun t539 => (if t539 = true then ((kimberliteref02_Antichain.f k bt526.1).bind fun t540 => (kimberlitelaw02_GradeDual.j0 k t523 bt526.1 (!t540) a1_0 a1_1 a1_2)) else (kimberlitelaw02_GradeDual.j0 k t523 bt526.1 true a1_0 a1_1 a1_2))) else (kimberlitelaw02_GradeDual.j0 k t523 bt526.1 true a1_0 a1_1 a1_2))) else (kimberlitelaw02_GradeDual.j0 k t523 bt526.1 true a1_0 a1_1 a1_2)) else (kimberlitelaw02_GradeDual.j0 k t523 bt526.1 true a1_0 a1_1 a1_2)) else (kimberlitelaw02_GradeDual.j0 k t523 bt526.1 true a1_0 a1_1 a1_2)))))
theorem kimberlitelaw02_GradeDual.mono_l : ∀ k, (∀ y0 y1 y2 y3 y4 y5, LeO (kimberlitelaw02_GradeDual.j0 k y0 y1 y2 y3 y4 y5) (kimberlitelaw02_GradeDual.j0 (k + 1) y0 y1 y2 y3 y4 y5)) ∧ (∀ y0 y1 y2 y3 y4 y5, LeO (kimberlitelaw02_GradeDual.l0 k y0 y1 y2 y3 y4 y5) (kimberlitelaw02_GradeDual.l0 (k + 1) y0 y1 y2 y3 y4 y5))
 | 0 => ⟨fun _ _ _ _ _ _ r h => by simp [kimberlitelaw02_GradeDual.j0] at h, fun _ _ _ _ _ _ r h => by simp [kimberlitelaw02_GradeDual.l0] at h⟩
 | k + 1 => by
  obtain ⟨ih0, ih1⟩ := kimberlitelaw02_GradeDual.mono_l k
  refine ⟨?_, ?_⟩
  ·intro y0 y1 y2 y3 y4 y5
   unfold kimberlitelaw02_GradeDual.j0
   repeat' first
   | (with_reducible exact ih0 _ _ _ _ _ _)
   | (with_reducible exact ih1 _ _ _ _ _ _)
   | (with_reducible exact grade_In.mono _ _ _ _ _)
   | (with_reducible exact kimberlitelaw02_alike.mono _ _ _)
   | (with_reducible exact kimberlitelaw02_alive.mono _)
   | (with_reducible exact kimberliteref02_Antichain.mono _ _)
   | (with_reducible exact LeO.refl _)
   | (with_reducible exact LeO.none _)
   | (with_reducible refine LeO.ite ?_ ?_)
   | (with_reducible refine LeO.bind ?_ (fun _ => ?_))
   | exact ih0 _ _ _ _ _ _
   | exact ih1 _ _ _ _ _ _
   | exact grade_In.mono _ _ _ _ _
   | exact kimberlitelaw02_alike.mono _ _ _
   | exact kimberlitelaw02_alive.mono _
   | exact kimberliteref02_Antichain.mono _ _
   | exact LeO.none _
   | refine LeO.ite ?_ ?_
   | refine LeO.bind ?_ (fun _ => ?_)
  ·intro y0 y1 y2 y3 y4 y5
   unfold kimberlitelaw02_GradeDual.l0
   repeat' first
   | (with_reducible exact ih0 _ _ _ _ _ _)
   | (with_reducible exact ih1 _ _ _ _ _ _)
   | (with_reducible exact grade_In.mono _ _ _ _ _)
   | (with_reducible exact kimberlitelaw02_alike.mono _ _ _)
   | (with_reducible exact kimberlitelaw02_alive.mono _)
   | (with_reducible exact kimberliteref02_Antichain.mono _ _)
   | (with_reducible exact LeO.refl _)
   | (with_reducible exact LeO.none _)
   | (with_reducible refine LeO.ite ?_ ?_)
   | (with_reducible refine LeO.bind ?_ (fun _ => ?_))
   | exact ih0 _ _ _ _ _ _
   | exact ih1 _ _ _ _ _ _
   | exact grade_In.mono _ _ _ _ _
   | exact kimberlitelaw02_alike.mono _ _ _
   | exact kimberlitelaw02_alive.mono _
   | exact kimberliteref02_Antichain.mono _ _
   | exact LeO.none _
   | refine LeO.ite ?_ ?_
   | refine LeO.bind ?_ (fun _ => ?_)
theorem kimberlitelaw02_GradeDual.mono : ∀ a0 a1 a2 a3 k, LeO (kimberlitelaw02_GradeDual.f k a0 a1 a2 a3) (kimberlitelaw02_GradeDual.f (k + 1) a0 a1 a2 a3) := by
 intro a0 a1 a2 a3 k
 obtain ⟨ih0, ih1⟩ := kimberlitelaw02_GradeDual.mono_l k
 unfold kimberlitelaw02_GradeDual.f
 repeat' first
   | (with_reducible exact ih0 _ _ _ _ _ _)
   | (with_reducible exact ih1 _ _ _ _ _ _)
   | (with_reducible exact grade_In.mono _ _ _ _ _)
   | (with_reducible exact kimberlitelaw02_alike.mono _ _ _)
   | (with_reducible exact kimberlitelaw02_alive.mono _)
   | (with_reducible exact kimberliteref02_Antichain.mono _ _)
   | (with_reducible exact LeO.refl _)
   | (with_reducible exact LeO.none _)
   | (with_reducible refine LeO.ite ?_ ?_)
   | (with_reducible refine LeO.bind ?_ (fun _ => ?_))
   | exact ih0 _ _ _ _ _ _
   | exact ih1 _ _ _ _ _ _
   | exact grade_In.mono _ _ _ _ _
   | exact kimberlitelaw02_alike.mono _ _ _
   | exact kimberlitelaw02_alive.mono _
   | exact kimberliteref02_Antichain.mono _ _
   | exact LeO.none _
   | refine LeO.ite ?_ ?_
   | refine LeO.bind ?_ (fun _ => ?_)
set_option maxHeartbeats 8000000 in
set_option maxRecDepth 100000 in
theorem kimberlitelaw02_GradeDual.calls (k : Nat) (A0 : Option Addr) (c0 : Nat) (l0 : List (S36)) (a1_0 : Int) (a1_1 : Int) (a1_2 : Int) (r : Bool) (w : World) (hr0 : Kd.C k36 w A0 l0.length l0) (hc0 : l0.length ≤ c0) (h : kimberlitelaw02_GradeDual.f k l0 a1_0 a1_1 a1_2 = some r) :
  Calls Try.prog 9 #[.slice A0 l0.length c0, .agg #[.int .i64 a1_0, .int .i64 a1_1, .int .i64 a1_2]] w fun e w' => e = .returned (.bool r) ∧ Below w.heap.size w w' := by
 have hu36 := Try.underlying36
 have HR0 := Aside0.mk hr0
 have HC0 := Aside0.mk hc0
 clear hr0 hc0
 have HB := Aside0.mk (Below.refl w.heap.size w)
 have H : ((kimberlitelaw02_class.f l0).bind fun t523 => ((grade_Outside.f t523).bind fun bt526 => ((grade_Beyond.f bt526.1).bind fun bt530 => ((grade_Outside.f bt530.1).bind fun bt534 => (if bt526.2 = 0 then (if bt530.2 = 0 then (if bt534.2 = 0 then ((kimberlitelaw02_alike.f k bt530.1 t523).bind fun t538 => (if t538 = true then ((kimberlitelaw02_alike.f k bt534.1 bt526.1).bind fun t539 => (if t539 = true then ((kimberliteref02_Antichain.f k bt526.1).bind fun t540 => (kimberlitelaw02_GradeDual.j0 k t523 bt526.1 (!t540) a1_0 a1_1 a1_2)) else (kimberlitelaw02_GradeDual.j0 k t523 bt526.1 true a1_0 a1_1 a1_2))) else (kimberlitelaw02_GradeDual.j0 k t523 bt526.1 true a1_0 a1_1 a1_2))) else (kimberlitelaw02_GradeDual.j0 k t523 bt526.1 true a1_0 a1_1 a1_2)) else (kimberlitelaw02_GradeDual.j0 k t523 bt526.1 true a1_0 a1_1 a1_2)) else (kimberlitelaw02_GradeDual.j0 k t523 bt526.1 true a1_0 a1_1 a1_2)))))) = some r := h
 clear h
 replace H := Option.bind_eq_some_iff.mp H
 obtain ⟨t523, A30, H⟩ := H
 replace H : ((grade_Outside.f t523).bind fun bt526 => ((grade_Beyond.f bt526.1).bind fun bt530 => ((grade_Outside.f bt530.1).bind fun bt534 => (if bt526.2 = 0 then (if bt530.2 = 0 then (if bt534.2 = 0 then ((kimberlitelaw02_alike.f k bt530.1 t523).bind fun t538 => (if t538 = true then ((kimberlitelaw02_alike.f k bt534.1 bt526.1).bind fun t539 => (if t539 = true then ((kimberliteref02_Antichain.f k bt526.1).bind fun t540 => (kimberlitelaw02_GradeDual.j0 k t523 bt526.1 (!t540) a1_0 a1_1 a1_2)) else (kimberlitelaw02_GradeDual.j0 k t523 bt526.1 true a1_0 a1_1 a1_2))) else (kimberlitelaw02_GradeDual.j0 k t523 bt526.1 true a1_0 a1_1 a1_2))) else (kimberlitelaw02_GradeDual.j0 k t523 bt526.1 true a1_0 a1_1 a1_2)) else (kimberlitelaw02_GradeDual.j0 k t523 bt526.1 true a1_0 a1_1 a1_2)) else (kimberlitelaw02_GradeDual.j0 k t523 bt526.1 true a1_0 a1_1 a1_2))))) = some r := H
 have A3 := Aside0.mk A30
 clear A30
 replace H := Option.bind_eq_some_iff.mp H
 obtain ⟨⟨t526, t527⟩, A40, H⟩ := H
 replace H : ((grade_Beyond.f t526).bind fun bt530 => ((grade_Outside.f bt530.1).bind fun bt534 => (if t527 = 0 then (if bt530.2 = 0 then (if bt534.2 = 0 then ((kimberlitelaw02_alike.f k bt530.1 t523).bind fun t538 => (if t538 = true then ((kimberlitelaw02_alike.f k bt534.1 t526).bind fun t539 => (if t539 = true then ((kimberliteref02_Antichain.f k t526).bind fun t540 => (kimberlitelaw02_GradeDual.j0 k t523 t526 (!t540) a1_0 a1_1 a1_2)) else (kimberlitelaw02_GradeDual.j0 k t523 t526 true a1_0 a1_1 a1_2))) else (kimberlitelaw02_GradeDual.j0 k t523 t526 true a1_0 a1_1 a1_2))) else (kimberlitelaw02_GradeDual.j0 k t523 t526 true a1_0 a1_1 a1_2)) else (kimberlitelaw02_GradeDual.j0 k t523 t526 true a1_0 a1_1 a1_2)) else (kimberlitelaw02_GradeDual.j0 k t523 t526 true a1_0 a1_1 a1_2)))) = some r := H
 have A4 := Aside0.mk A40
 clear A40
 replace H := Option.bind_eq_some_iff.mp H
 obtain ⟨⟨t530, t531⟩, A50, H⟩ := H
 replace H : ((grade_Outside.f t530).bind fun bt534 => (if t527 = 0 then (if t531 = 0 then (if bt534.2 = 0 then ((kimberlitelaw02_alike.f k t530 t523).bind fun t538 => (if t538 = true then ((kimberlitelaw02_alike.f k bt534.1 t526).bind fun t539 => (if t539 = true then ((kimberliteref02_Antichain.f k t526).bind fun t540 => (kimberlitelaw02_GradeDual.j0 k t523 t526 (!t540) a1_0 a1_1 a1_2)) else (kimberlitelaw02_GradeDual.j0 k t523 t526 true a1_0 a1_1 a1_2))) else (kimberlitelaw02_GradeDual.j0 k t523 t526 true a1_0 a1_1 a1_2))) else (kimberlitelaw02_GradeDual.j0 k t523 t526 true a1_0 a1_1 a1_2)) else (kimberlitelaw02_GradeDual.j0 k t523 t526 true a1_0 a1_1 a1_2)) else (kimberlitelaw02_GradeDual.j0 k t523 t526 true a1_0 a1_1 a1_2))) = some r := H
 have A5 := Aside0.mk A50
 clear A50
 replace H := Option.bind_eq_some_iff.mp H
 obtain ⟨⟨t534, t535⟩, A60, H⟩ := H
 replace H : (if t527 = 0 then (if t531 = 0 then (if t535 = 0 then ((kimberlitelaw02_alike.f k t530 t523).bind fun t538 => (if t538 = true then ((kimberlitelaw02_alike.f k t534 t526).bind fun t539 => (if t539 = true then ((kimberliteref02_Antichain.f k t526).bind fun t540 => (kimberlitelaw02_GradeDual.j0 k t523 t526 (!t540) a1_0 a1_1 a1_2)) else (kimberlitelaw02_GradeDual.j0 k t523 t526 true a1_0 a1_1 a1_2))) else (kimberlitelaw02_GradeDual.j0 k t523 t526 true a1_0 a1_1 a1_2))) else (kimberlitelaw02_GradeDual.j0 k t523 t526 true a1_0 a1_1 a1_2)) else (kimberlitelaw02_GradeDual.j0 k t523 t526 true a1_0 a1_1 a1_2)) else (kimberlitelaw02_GradeDual.j0 k t523 t526 true a1_0 a1_1 a1_2)) = some r := H
 have A6 := Aside0.mk A60
 clear A60
 have HC7 := Aside0.mk H
 clear H
 go_enter Try.func9, Try.ntmps9
 go_upto_region 5 with (first | ((with_reducible refine gate_dst (N := 3) rfl ?_); refine box_event ?hg (N := 3) ?hd (cs := #[.int .i64 a1_0, .int .i64 a1_1, .int .i64 a1_2]) (t := 36) ?hr ?_; (case hd => rfl); (case hg => rfl); (case hr => first | (go_simp; done) | (go_simp; rfl)); intro gb522 hg w8 hbox hb; have n0_ := Aside0.mk (below_step (by repeat (first | (with_reducible first | exact HB.out | apply below_alloc | apply pw_below_drewN | apply below_drew1) | exact HB.out)) hb); have n1_ := Aside0.mk (hbox); have n2_ := Aside0.mk ((by rw [hg]; exact (below_size (by repeat (first | (with_reducible first | exact HB.out | apply below_alloc | apply pw_below_drewN | apply below_drew1) | exact HB.out))) : w.heap.size ≤ gb522)); have n3_ := Aside0.mk ((by rw [hg]; exact (below_size (by repeat (first | (with_reducible first | exact HB.out | apply below_alloc | apply pw_below_drewN | apply below_drew1) | exact HB.out))) : w.heap.size ≤ gb522)); clear HB; have HB := n0_; have BK522 := n1_; have GW522 := n2_; have GE522 := n3_; clear n0_ n1_ n2_ n3_; clear hb hbox hg) | ((with_reducible refine gate_callee (f := 47) rfl ?_); refine goesL_ (some 16) rfl rfl Try.func47 (by kernel_rfl) rfl #[.slice A0 l0.length c0] rfl (by (try simp only [List.map_toArray, List.map_cons, List.map_nil]); first | done | rfl | (simp only [List.length_drop, List.length_take]; rfl)) ?_; (with_reducible refine (kimberlitelaw02_class.calls _ _ l0 t523 _ ?side1 ?side2 A3.out).mono ?_); (case side1 => repeat (first | exact (Kd.C_below HR0.out HB.out) | (with_reducible refine Kd.C_alloc ?_ _) | (with_reducible refine Kd.C_drewN ?_ _) | (with_reducible refine Kd.C_drew ?_))); (case side2 => exact HC0.out); rintro e w9 ⟨v524, rfl, ho0, hb⟩; refine ⟨_, rfl, ?_⟩; have n0_ := Aside0.mk (Kd.R_lower (Kd.R_newB ho0 (g := gb522) (o := .cells #[.int .i64 a1_0, .int .i64 a1_1, .int .i64 a1_2] 36 (0, 0)) (by (with_reducible repeat (first | refine blk_drewN ?_ _ | refine blk_drew ?_ | refine blk_alloc ?_ _)); exact BK522.out)) (below_size (by repeat (first | (with_reducible first | exact HB.out | apply below_alloc | apply pw_below_drewN | apply below_drew1 | refine below_set ?_ GE522.out) | exact HB.out)))); have n1_ := Aside0.mk (blk_below (g := gb522) (o := .cells #[.int .i64 a1_0, .int .i64 a1_1, .int .i64 a1_2] 36 (0, 0)) (by (with_reducible repeat (first | refine blk_drewN ?_ _ | refine blk_drew ?_ | refine blk_alloc ?_ _)); exact BK522.out) hb); have n2_ := Aside0.mk (below_step (by repeat (first | (with_reducible first | exact HB.out | apply below_alloc | apply pw_below_drewN | apply below_drew1 | refine below_set ?_ GE522.out) | exact HB.out)) hb); clear BK522; clear HB; have HO525 := n0_; have BK522 := n1_; have HB := n2_; clear n0_ n1_ n2_; (try clear hb); (try clear hb2); (try clear hk); (try clear hi); (try clear ho0); obtain ⟨Ao10, co10, eo10⟩ := Kd.R_slice HO525.out; subst eo10) | ((with_reducible refine gate_callee (f := 48) rfl ?_); refine goesL_ (some 19) rfl rfl Try.func48 (by kernel_rfl) rfl #[.slice Ao10 t523.length co10] rfl (by (try simp only [List.map_toArray, List.map_cons, List.map_nil]); first | done | rfl | (simp only [List.length_drop, List.length_take]; rfl)) ?_; (with_reducible refine (grade_Outside.calls _ _ t523 t526 t527 _ ?side1 ?side2 A4.out).mono ?_); (case side1 => repeat (first | exact (Kd.R_reads' HO525.out).2.2 | (with_reducible refine Kd.C_alloc ?_ _) | (with_reducible refine Kd.C_drewN ?_ _) | (with_reducible refine Kd.C_drew ?_))); (case side2 => exact (Kd.R_reads' HO525.out).2.1); rintro e w11 ⟨v528, rfl, ho0, hb⟩; refine ⟨_, rfl, ?_⟩; have n0_ := Aside0.mk (Kd.R_elder' (by (with_reducible repeat (first | apply Kd.R_alloc | apply Kd.R_drewN | apply Kd.R_drew)); exact HO525.out) (Kd.R_base ho0) hb); have n1_ := Aside0.mk (Kd.R_lower (Kd.R_newB (Kd.R_new' ho0 (Kd.R_lt (by (with_reducible repeat (first | apply Kd.R_alloc | apply Kd.R_drewN | apply Kd.R_drew)); exact HO525.out))) (g := gb522) (o := .cells #[.int .i64 a1_0, .int .i64 a1_1, .int .i64 a1_2] 36 (0, 0)) (by (with_reducible repeat (first | refine blk_drewN ?_ _ | refine blk_drew ?_ | refine blk_alloc ?_ _)); exact BK522.out)) (below_size (by repeat (first | (with_reducible first | exact HB.out | apply below_alloc | apply pw_below_drewN | apply below_drew1 | refine below_set ?_ GE522.out) | exact HB.out)))); have n2_ := Aside0.mk (blk_below (g := gb522) (o := .cells #[.int .i64 a1_0, .int .i64 a1_1, .int .i64 a1_2] 36 (0, 0)) (by (with_reducible repeat (first | refine blk_drewN ?_ _ | refine blk_drew ?_ | refine blk_alloc ?_ _)); exact BK522.out) hb); have n3_ := Aside0.mk (below_step (by repeat (first | (with_reducible first | exact HB.out | apply below_alloc | apply pw_below_drewN | apply below_drew1 | refine below_set ?_ GE522.out) | exact HB.out)) hb); clear HO525; clear BK522; clear HB; have HO525 := n0_; have HO529 := n1_; have BK522 := n2_; have HB := n3_; clear n0_ n1_ n2_ n3_; (try clear hb); (try clear hb2); (try clear hk); (try clear hi); (try clear ho0); obtain ⟨Ao12, co12, eo12⟩ := Kd.R_slice HO529.out; subst eo12) | ((with_reducible refine gate_callee (f := 49) rfl ?_); refine goesL_ (some 24) rfl rfl Try.func49 (by kernel_rfl) rfl #[.slice Ao12 t526.length co12] rfl (by (try simp only [List.map_toArray, List.map_cons, List.map_nil]); first | done | rfl | (simp only [List.length_drop, List.length_take]; rfl)) ?_; (with_reducible refine (grade_Beyond.calls _ _ t526 t530 t531 _ ?side1 ?side2 A5.out).mono ?_); (case side1 => repeat (first | exact (Kd.R_reads' HO529.out).2.2 | (with_reducible refine Kd.C_alloc ?_ _) | (with_reducible refine Kd.C_drewN ?_ _) | (with_reducible refine Kd.C_drew ?_))); (case side2 => exact (Kd.R_reads' HO529.out).2.1); rintro e w13 ⟨v532, rfl, ho0, hb⟩; refine ⟨_, rfl, ?_⟩; have n0_ := Aside0.mk (Kd.R_elder' (by (with_reducible repeat (first | apply Kd.R_alloc | apply Kd.R_drewN | apply Kd.R_drew)); exact HO525.out) (Kd.R_base ho0) hb); have n1_ := Aside0.mk (Kd.R_elder' (by (with_reducible repeat (first | apply Kd.R_alloc | apply Kd.R_drewN | apply Kd.R_drew)); exact HO529.out) (Kd.R_base ho0) hb); have n2_ := Aside0.mk (Kd.R_lower (Kd.R_newB (Kd.R_new' (Kd.R_new' ho0 (Kd.R_lt (by (with_reducible repeat (first | apply Kd.R_alloc | apply Kd.R_drewN | apply Kd.R_drew)); exact HO525.out))) (Kd.R_lt (by (with_reducible repeat (first | apply Kd.R_alloc | apply Kd.R_drewN | apply Kd.R_drew)); exact HO529.out))) (g := gb522) (o := .cells #[.int .i64 a1_0, .int .i64 a1_1, .int .i64 a1_2] 36 (0, 0)) (by (with_reducible repeat (first | refine blk_drewN ?_ _ | refine blk_drew ?_ | refine blk_alloc ?_ _)); exact BK522.out)) (below_size (by repeat (first | (with_reducible first | exact HB.out | apply below_alloc | apply pw_below_drewN | apply below_drew1 | refine below_set ?_ GE522.out) | exact HB.out)))); have n3_ := Aside0.mk (blk_below (g := gb522) (o := .cells #[.int .i64 a1_0, .int .i64 a1_1, .int .i64 a1_2] 36 (0, 0)) (by (with_reducible repeat (first | refine blk_drewN ?_ _ | refine blk_drew ?_ | refine blk_alloc ?_ _)); exact BK522.out) hb); have n4_ := Aside0.mk (below_step (by repeat (first | (with_reducible first | exact HB.out | apply below_alloc | apply pw_below_drewN | apply below_drew1 | refine below_set ?_ GE522.out) | exact HB.out)) hb); clear HO525; clear HO529; clear BK522; clear HB; have HO525 := n0_; have HO529 := n1_; have HO533 := n2_; have BK522 := n3_; have HB := n4_; clear n0_ n1_ n2_ n3_ n4_; (try clear hb); (try clear hb2); (try clear hk); (try clear hi); (try clear ho0); obtain ⟨Ao14, co14, eo14⟩ := Kd.R_slice HO533.out; subst eo14) | ((with_reducible refine gate_callee (f := 48) rfl ?_); refine goesL_ (some 29) rfl rfl Try.func48 (by kernel_rfl) rfl #[.slice Ao14 t530.length co14] rfl (by (try simp only [List.map_toArray, List.map_cons, List.map_nil]); first | done | rfl | (simp only [List.length_drop, List.length_take]; rfl)) ?_; (with_reducible refine (grade_Outside.calls _ _ t530 t534 t535 _ ?side1 ?side2 A6.out).mono ?_); (case side1 => repeat (first | exact (Kd.R_reads' HO533.out).2.2 | (with_reducible refine Kd.C_alloc ?_ _) | (with_reducible refine Kd.C_drewN ?_ _) | (with_reducible refine Kd.C_drew ?_))); (case side2 => exact (Kd.R_reads' HO533.out).2.1); rintro e w15 ⟨v536, rfl, ho0, hb⟩; refine ⟨_, rfl, ?_⟩; have n0_ := Aside0.mk (Kd.R_elder' (by (with_reducible repeat (first | apply Kd.R_alloc | apply Kd.R_drewN | apply Kd.R_drew)); exact HO525.out) (Kd.R_base ho0) hb); have n1_ := Aside0.mk (Kd.R_elder' (by (with_reducible repeat (first | apply Kd.R_alloc | apply Kd.R_drewN | apply Kd.R_drew)); exact HO529.out) (Kd.R_base ho0) hb); have n2_ := Aside0.mk (Kd.R_elder' (by (with_reducible repeat (first | apply Kd.R_alloc | apply Kd.R_drewN | apply Kd.R_drew)); exact HO533.out) (Kd.R_base ho0) hb); have n3_ := Aside0.mk (Kd.R_lower (Kd.R_newB (Kd.R_new' (Kd.R_new' (Kd.R_new' ho0 (Kd.R_lt (by (with_reducible repeat (first | apply Kd.R_alloc | apply Kd.R_drewN | apply Kd.R_drew)); exact HO525.out))) (Kd.R_lt (by (with_reducible repeat (first | apply Kd.R_alloc | apply Kd.R_drewN | apply Kd.R_drew)); exact HO529.out))) (Kd.R_lt (by (with_reducible repeat (first | apply Kd.R_alloc | apply Kd.R_drewN | apply Kd.R_drew)); exact HO533.out))) (g := gb522) (o := .cells #[.int .i64 a1_0, .int .i64 a1_1, .int .i64 a1_2] 36 (0, 0)) (by (with_reducible repeat (first | refine blk_drewN ?_ _ | refine blk_drew ?_ | refine blk_alloc ?_ _)); exact BK522.out)) (below_size (by repeat (first | (with_reducible first | exact HB.out | apply below_alloc | apply pw_below_drewN | apply below_drew1 | refine below_set ?_ GE522.out) | exact HB.out)))); have n4_ := Aside0.mk (blk_below (g := gb522) (o := .cells #[.int .i64 a1_0, .int .i64 a1_1, .int .i64 a1_2] 36 (0, 0)) (by (with_reducible repeat (first | refine blk_drewN ?_ _ | refine blk_drew ?_ | refine blk_alloc ?_ _)); exact BK522.out) hb); have n5_ := Aside0.mk (below_step (by repeat (first | (with_reducible first | exact HB.out | apply below_alloc | apply pw_below_drewN | apply below_drew1 | refine below_set ?_ GE522.out) | exact HB.out)) hb); clear HO525; clear HO529; clear HO533; clear BK522; clear HB; have HO525 := n0_; have HO529 := n1_; have HO533 := n2_; have HO537 := n3_; have BK522 := n4_; have HB := n5_; clear n0_ n1_ n2_ n3_ n4_ n5_; (try clear hb); (try clear hb2); (try clear hk); (try clear hi); (try clear ho0)))
 (try simp only [Act.put, List.setIfInBounds_toArray, List.set_cons_zero, List.set_cons_succ])
 go_cut [58] (fun v58 wc => ∃ (kq : Nat) (x58_6 : Bool), v58 = .bool x58_6 ∧ Aside0 (kimberlitelaw02_GradeDual.j0 kq t523 t526 x58_6 a1_0 a1_1 a1_2 = some r) ∧ Aside0 (kq ≤ k) ∧ Aside0 (Kd.R k36 36 wc w.heap.size (fun k_ => some k_ ≠ ((.slice Ao12 t526.length co12) : Value).ownBlock ∧ k_ ≠ gb522) (.slice Ao10 t523.length co10) t523) ∧ Aside0 (Kd.R k36 36 wc w.heap.size (fun k_ => some k_ ≠ ((.slice Ao10 t523.length co10) : Value).ownBlock ∧ k_ ≠ gb522) (.slice Ao12 t526.length co12) t526) ∧ Aside0 (wc.heap[gb522]? = some (.cells #[.int .i64 a1_0, .int .i64 a1_1, .int .i64 a1_2] 36 (0, 0))) ∧ Aside0 (Below w.heap.size w wc))
 case first =>
  have H := HC7.out
  clear HC7
  by_cases c16 : t527 = 0
  ·rw [if_pos c16] at H
   have c16b0 : (t527 == 0) = true := beq_iff_eq.mpr c16
   have c16b1 : (t527 != 0) = false := bne_eq_false_iff_eq.mpr c16
   clear c16
   (first | rw [c16b0] | (simp only [i64_w, i32_w]; rw [c16b0]) | skip)
   by_cases c17 : t531 = 0
   ·rw [if_pos c17] at H
    have c17b0 : (t531 == 0) = true := beq_iff_eq.mpr c17
    have c17b1 : (t531 != 0) = false := bne_eq_false_iff_eq.mpr c17
    clear c17
    by_cases c18 : t535 = 0
    ·rw [if_pos c18] at H
     have c18b0 : (t535 == 0) = true := beq_iff_eq.mpr c18
     have c18b1 : (t535 != 0) = false := bne_eq_false_iff_eq.mpr c18
     clear c18
     replace H := Option.bind_eq_some_iff.mp H
     obtain ⟨t538, A190, H⟩ := H
     replace H : (if t538 = true then ((kimberlitelaw02_alike.f k t534 t526).bind fun t539 => (if t539 = true then ((kimberliteref02_Antichain.f k t526).bind fun t540 => (kimberlitelaw02_GradeDual.j0 k t523 t526 (!t540) a1_0 a1_1 a1_2)) else (kimberlitelaw02_GradeDual.j0 k t523 t526 true a1_0 a1_1 a1_2))) else (kimberlitelaw02_GradeDual.j0 k t523 t526 true a1_0 a1_1 a1_2)) = some r := H
     have A19 := Aside0.mk A190
     clear A190
     by_cases c20 : t538 = true
     ·subst c20
      have H1 : ((kimberlitelaw02_alike.f k t534 t526).bind fun t539 => (if t539 = true then ((kimberliteref02_Antichain.f k t526).bind fun t540 => (kimberlitelaw02_GradeDual.j0 k t523 t526 (!t540) a1_0 a1_1 a1_2)) else (kimberlitelaw02_GradeDual.j0 k t523 t526 true a1_0 a1_1 a1_2))) = some r := by rw [if_pos rfl] at H; exact H
      clear H
      have H := H1
      clear H1
      replace H := Option.bind_eq_some_iff.mp H
      obtain ⟨t539, A210, H⟩ := H
      replace H : (if t539 = true then ((kimberliteref02_Antichain.f k t526).bind fun t540 => (kimberlitelaw02_GradeDual.j0 k t523 t526 (!t540) a1_0 a1_1 a1_2)) else (kimberlitelaw02_GradeDual.j0 k t523 t526 true a1_0 a1_1 a1_2)) = some r := H
      have A21 := Aside0.mk A210
      clear A210
      by_cases c22 : t539 = true
      ·subst c22
       have H1 : ((kimberliteref02_Antichain.f k t526).bind fun t540 => (kimberlitelaw02_GradeDual.j0 k t523 t526 (!t540) a1_0 a1_1 a1_2)) = some r := by rw [if_pos rfl] at H; exact H
       clear H
       have H := H1
       clear H1
       replace H := Option.bind_eq_some_iff.mp H
       obtain ⟨t540, A230, H⟩ := H
       replace H : (kimberlitelaw02_GradeDual.j0 k t523 t526 (!t540) a1_0 a1_1 a1_2) = some r := H
       have A23 := Aside0.mk A230
       clear A230
       have H' := Aside0.mk H
       clear H
       go_wp2_with (first | (go_at_call 37; (with_reducible refine (kimberlitelaw02_alike.calls k _ _ t530 _ _ t523 true _ ?side1 ?side2 ?side3 ?side4 A19.out).mono ?_); (case side1 => repeat (first | exact (Kd.R_reads' HO533.out).2.2 | (with_reducible refine Kd.C_alloc ?_ _) | (with_reducible refine Kd.C_drewN ?_ _) | (with_reducible refine Kd.C_drew ?_))); (case side2 => exact (Kd.R_reads' HO533.out).2.1); (case side3 => repeat (first | exact (Kd.R_reads' HO525.out).2.2 | (with_reducible refine Kd.C_alloc ?_ _) | (with_reducible refine Kd.C_drewN ?_ _) | (with_reducible refine Kd.C_drew ?_))); (case side4 => exact (Kd.R_reads' HO525.out).2.1); rintro e w' ⟨rfl, ⟨nd, rfl⟩⟩; obtain ⟨Ao24, co24, eo24⟩ := Kd.R_slice HO537.out; subst eo24) | (go_at_call 37; (with_reducible refine (kimberlitelaw02_alike.calls k _ _ t534 _ _ t526 true _ ?side1 ?side2 ?side3 ?side4 A21.out).mono ?_); (case side1 => repeat (first | exact (Kd.R_reads' HO537.out).2.2 | (with_reducible refine Kd.C_alloc ?_ _) | (with_reducible refine Kd.C_drewN ?_ _) | (with_reducible refine Kd.C_drew ?_))); (case side2 => exact (Kd.R_reads' HO537.out).2.1); (case side3 => repeat (first | exact (Kd.R_reads' HO529.out).2.2 | (with_reducible refine Kd.C_alloc ?_ _) | (with_reducible refine Kd.C_drewN ?_ _) | (with_reducible refine Kd.C_drew ?_))); (case side4 => exact (Kd.R_reads' HO529.out).2.1); rintro e w' ⟨rfl, ⟨nd, rfl⟩⟩) | (go_at_call 50; (with_reducible refine (kimberliteref02_Antichain.calls k _ _ t526 t540 _ ?side1 ?side2 A23.out).mono ?_); (case side1 => repeat (first | exact (Kd.R_reads' HO529.out).2.2 | (with_reducible refine Kd.C_alloc ?_ _) | (with_reducible refine Kd.C_drewN ?_ _) | (with_reducible refine Kd.C_drew ?_))); (case side2 => exact (Kd.R_reads' HO529.out).2.1); rintro e w25 ⟨rfl, hb⟩; have n0_ := Aside0.mk (Kd.R_below (by (with_reducible repeat (first | apply Kd.R_alloc | apply Kd.R_drewN | apply Kd.R_drew)); exact HO525.out) hb); have n1_ := Aside0.mk (Kd.R_below (by (with_reducible repeat (first | apply Kd.R_alloc | apply Kd.R_drewN | apply Kd.R_drew)); exact HO529.out) hb); have n2_ := Aside0.mk (Kd.R_below (by (with_reducible repeat (first | apply Kd.R_alloc | apply Kd.R_drewN | apply Kd.R_drew)); exact HO533.out) hb); have n3_ := Aside0.mk (Kd.R_below (by (with_reducible repeat (first | apply Kd.R_alloc | apply Kd.R_drewN | apply Kd.R_drew)); exact HO537.out) hb); have n4_ := Aside0.mk (blk_below (g := gb522) (o := .cells #[.int .i64 a1_0, .int .i64 a1_1, .int .i64 a1_2] 36 (0, 0)) (by (with_reducible repeat (first | refine blk_drewN ?_ _ | refine blk_drew ?_ | refine blk_alloc ?_ _)); exact BK522.out) hb); have n5_ := Aside0.mk (below_step (by repeat (first | (with_reducible first | exact HB.out | apply below_alloc | apply pw_below_drewN | apply below_drew1 | refine below_set ?_ GE522.out) | exact HB.out)) hb); clear HO525; clear HO529; clear HO533; clear HO537; clear BK522; clear HB; have HO525 := n0_; have HO529 := n1_; have HO533 := n2_; have HO537 := n3_; have BK522 := n4_; have HB := n5_; clear n0_ n1_ n2_ n3_ n4_ n5_; (try clear hb); (try clear hb2); (try clear hk); (try clear hi)))
       go_meet
       case rel => exact ⟨_, (!t540), (by first | rfl | (simp; done) | (simp [*]; done)), H', ⟨by first | omega | exact Nat.le_refl _⟩, ⟨by (with_reducible repeat (first | apply Kd.R_alloc | apply Kd.R_drewN | apply Kd.R_drew)); exact Kd.R_mono HO525.out (fun _ hk => ⟨hk.1.1.2, hk.1.1.1.2⟩)⟩, ⟨by (with_reducible repeat (first | apply Kd.R_alloc | apply Kd.R_drewN | apply Kd.R_drew)); exact Kd.R_mono HO529.out (fun _ hk => ⟨hk.1.1.1.2, hk.1.1.2⟩)⟩, ⟨by (with_reducible repeat (first | refine blk_drewN ?_ _ | refine blk_drew ?_ | refine blk_alloc ?_ _)); exact BK522.out⟩, ⟨by repeat (first | (with_reducible first | exact HB.out | apply below_alloc | apply pw_below_drewN | apply below_drew1 | refine below_set ?_ GE522.out) | exact HB.out)⟩⟩
      ·replace c22 := Bool.eq_false_iff.mpr c22
       subst c22
       have H1 : (kimberlitelaw02_GradeDual.j0 k t523 t526 true a1_0 a1_1 a1_2) = some r := by rw [if_neg (show ¬ (false = true) by decide)] at H; exact H
       clear H
       have H := H1
       clear H1
       have H' := Aside0.mk H
       clear H
       go_wp2_with (first | (go_at_call 37; (with_reducible refine (kimberlitelaw02_alike.calls k _ _ t530 _ _ t523 true _ ?side1 ?side2 ?side3 ?side4 A19.out).mono ?_); (case side1 => repeat (first | exact (Kd.R_reads' HO533.out).2.2 | (with_reducible refine Kd.C_alloc ?_ _) | (with_reducible refine Kd.C_drewN ?_ _) | (with_reducible refine Kd.C_drew ?_))); (case side2 => exact (Kd.R_reads' HO533.out).2.1); (case side3 => repeat (first | exact (Kd.R_reads' HO525.out).2.2 | (with_reducible refine Kd.C_alloc ?_ _) | (with_reducible refine Kd.C_drewN ?_ _) | (with_reducible refine Kd.C_drew ?_))); (case side4 => exact (Kd.R_reads' HO525.out).2.1); rintro e w' ⟨rfl, ⟨nd, rfl⟩⟩; obtain ⟨Ao26, co26, eo26⟩ := Kd.R_slice HO537.out; subst eo26) | (go_at_call 37; (with_reducible refine (kimberlitelaw02_alike.calls k _ _ t534 _ _ t526 false _ ?side1 ?side2 ?side3 ?side4 A21.out).mono ?_); (case side1 => repeat (first | exact (Kd.R_reads' HO537.out).2.2 | (with_reducible refine Kd.C_alloc ?_ _) | (with_reducible refine Kd.C_drewN ?_ _) | (with_reducible refine Kd.C_drew ?_))); (case side2 => exact (Kd.R_reads' HO537.out).2.1); (case side3 => repeat (first | exact (Kd.R_reads' HO529.out).2.2 | (with_reducible refine Kd.C_alloc ?_ _) | (with_reducible refine Kd.C_drewN ?_ _) | (with_reducible refine Kd.C_drew ?_))); (case side4 => exact (Kd.R_reads' HO529.out).2.1); rintro e w' ⟨rfl, ⟨nd, rfl⟩⟩))
       go_meet
       case rel => exact ⟨_, (true), (by first | rfl | (simp; done) | (simp [*]; done)), H', ⟨by first | omega | exact Nat.le_refl _⟩, ⟨by (with_reducible repeat (first | apply Kd.R_alloc | apply Kd.R_drewN | apply Kd.R_drew)); exact Kd.R_mono HO525.out (fun _ hk => ⟨hk.1.1.2, hk.1.1.1.2⟩)⟩, ⟨by (with_reducible repeat (first | apply Kd.R_alloc | apply Kd.R_drewN | apply Kd.R_drew)); exact Kd.R_mono HO529.out (fun _ hk => ⟨hk.1.1.1.2, hk.1.1.2⟩)⟩, ⟨by (with_reducible repeat (first | refine blk_drewN ?_ _ | refine blk_drew ?_ | refine blk_alloc ?_ _)); exact BK522.out⟩, ⟨by repeat (first | (with_reducible first | exact HB.out | apply below_alloc | apply pw_below_drewN | apply below_drew1 | refine below_set ?_ GE522.out) | exact HB.out)⟩⟩
     ·replace c20 := Bool.eq_false_iff.mpr c20
      subst c20
      have H1 : (kimberlitelaw02_GradeDual.j0 k t523 t526 true a1_0 a1_1 a1_2) = some r := by rw [if_neg (show ¬ (false = true) by decide)] at H; exact H
      clear H
      have H := H1
      clear H1
      have H' := Aside0.mk H
      clear H
      go_wp2_with (first | (go_at_call 37; (with_reducible refine (kimberlitelaw02_alike.calls k _ _ t530 _ _ t523 false _ ?side1 ?side2 ?side3 ?side4 A19.out).mono ?_); (case side1 => repeat (first | exact (Kd.R_reads' HO533.out).2.2 | (with_reducible refine Kd.C_alloc ?_ _) | (with_reducible refine Kd.C_drewN ?_ _) | (with_reducible refine Kd.C_drew ?_))); (case side2 => exact (Kd.R_reads' HO533.out).2.1); (case side3 => repeat (first | exact (Kd.R_reads' HO525.out).2.2 | (with_reducible refine Kd.C_alloc ?_ _) | (with_reducible refine Kd.C_drewN ?_ _) | (with_reducible refine Kd.C_drew ?_))); (case side4 => exact (Kd.R_reads' HO525.out).2.1); rintro e w' ⟨rfl, ⟨nd, rfl⟩⟩))
      go_meet
      case rel => exact ⟨_, (true), (by first | rfl | (simp; done) | (simp [*]; done)), H', ⟨by first | omega | exact Nat.le_refl _⟩, ⟨by (with_reducible repeat (first | apply Kd.R_alloc | apply Kd.R_drewN | apply Kd.R_drew)); exact Kd.R_mono HO525.out (fun _ hk => ⟨hk.1.1.2, hk.1.1.1.2⟩)⟩, ⟨by (with_reducible repeat (first | apply Kd.R_alloc | apply Kd.R_drewN | apply Kd.R_drew)); exact Kd.R_mono HO529.out (fun _ hk => ⟨hk.1.1.1.2, hk.1.1.2⟩)⟩, ⟨by (with_reducible repeat (first | refine blk_drewN ?_ _ | refine blk_drew ?_ | refine blk_alloc ?_ _)); exact BK522.out⟩, ⟨by repeat (first | (with_reducible first | exact HB.out | apply below_alloc | apply pw_below_drewN | apply below_drew1 | refine below_set ?_ GE522.out) | exact HB.out)⟩⟩
    ·rw [if_neg c18] at H
     have c18b0 : (t535 == 0) = false := beq_eq_false_iff_ne.mpr c18
     have c18b1 : (t535 != 0) = true := bne_iff_ne.mpr c18
     have H' := Aside0.mk H
     clear H
     go_wp2
     go_meet
     case rel => exact ⟨_, (true), (by first | rfl | (simp; done) | (simp [*]; done)), H', ⟨by first | omega | exact Nat.le_refl _⟩, ⟨by (with_reducible repeat (first | apply Kd.R_alloc | apply Kd.R_drewN | apply Kd.R_drew)); exact Kd.R_mono HO525.out (fun _ hk => ⟨hk.1.1.2, hk.1.1.1.2⟩)⟩, ⟨by (with_reducible repeat (first | apply Kd.R_alloc | apply Kd.R_drewN | apply Kd.R_drew)); exact Kd.R_mono HO529.out (fun _ hk => ⟨hk.1.1.1.2, hk.1.1.2⟩)⟩, ⟨by (with_reducible repeat (first | refine blk_drewN ?_ _ | refine blk_drew ?_ | refine blk_alloc ?_ _)); exact BK522.out⟩, ⟨by repeat (first | (with_reducible first | exact HB.out | apply below_alloc | apply pw_below_drewN | apply below_drew1 | refine below_set ?_ GE522.out) | exact HB.out)⟩⟩
   ·rw [if_neg c17] at H
    have c17b0 : (t531 == 0) = false := beq_eq_false_iff_ne.mpr c17
    have c17b1 : (t531 != 0) = true := bne_iff_ne.mpr c17
    have H' := Aside0.mk H
    clear H
    go_wp2
    go_meet
    case rel => exact ⟨_, (true), (by first | rfl | (simp; done) | (simp [*]; done)), H', ⟨by first | omega | exact Nat.le_refl _⟩, ⟨by (with_reducible repeat (first | apply Kd.R_alloc | apply Kd.R_drewN | apply Kd.R_drew)); exact Kd.R_mono HO525.out (fun _ hk => ⟨hk.1.1.2, hk.1.1.1.2⟩)⟩, ⟨by (with_reducible repeat (first | apply Kd.R_alloc | apply Kd.R_drewN | apply Kd.R_drew)); exact Kd.R_mono HO529.out (fun _ hk => ⟨hk.1.1.1.2, hk.1.1.2⟩)⟩, ⟨by (with_reducible repeat (first | refine blk_drewN ?_ _ | refine blk_drew ?_ | refine blk_alloc ?_ _)); exact BK522.out⟩, ⟨by repeat (first | (with_reducible first | exact HB.out | apply below_alloc | apply pw_below_drewN | apply below_drew1 | refine below_set ?_ GE522.out) | exact HB.out)⟩⟩
  ·rw [if_neg c16] at H
   have c16b0 : (t527 == 0) = false := beq_eq_false_iff_ne.mpr c16
   have c16b1 : (t527 != 0) = true := bne_iff_ne.mpr c16
   (first | rw [c16b0] | (simp only [i64_w, i32_w]; rw [c16b0]) | skip)
   have H' := Aside0.mk H
   clear H
   go_wp2
   go_meet
   case rel => exact ⟨_, (true), (by first | rfl | (simp; done) | (simp [*]; done)), H', ⟨by first | omega | exact Nat.le_refl _⟩, ⟨by (with_reducible repeat (first | apply Kd.R_alloc | apply Kd.R_drewN | apply Kd.R_drew)); exact Kd.R_mono HO525.out (fun _ hk => ⟨hk.1.1.2, hk.1.1.1.2⟩)⟩, ⟨by (with_reducible repeat (first | apply Kd.R_alloc | apply Kd.R_drewN | apply Kd.R_drew)); exact Kd.R_mono HO529.out (fun _ hk => ⟨hk.1.1.1.2, hk.1.1.2⟩)⟩, ⟨by (with_reducible repeat (first | refine blk_drewN ?_ _ | refine blk_drew ?_ | refine blk_alloc ?_ _)); exact BK522.out⟩, ⟨by repeat (first | (with_reducible first | exact HB.out | apply below_alloc | apply pw_below_drewN | apply below_drew1 | refine below_set ?_ GE522.out) | exact HB.out)⟩⟩
 case rest =>
  clear HC7
  try clear c1
  try clear c2
  try clear p2
  try clear c4
  try clear c9
  try clear c16
  try clear c16b0
  try clear c16b1
  try clear c17
  try clear c17b0
  try clear c17b1
  try clear c18
  try clear c18b0
  try clear c18b1
  try clear c20
  try clear c22
  obtain ⟨kq, x58_6, rfl, HA, HJ6, HO_5, HO_6, BK522, HB⟩ := hcut
  cases kq with
  | zero => exact absurd HA.out (by simp [kimberlitelaw02_GradeDual.j0])
  | succ kj6 =>
   have H := HA.out
   clear HA
   simp only [kimberlitelaw02_GradeDual.j0] at H
   by_cases c27 : x58_6 = true
   ·subst c27
    have H1 : (some false) = some r := by rw [if_pos rfl] at H; exact H
    clear H
    have H := H1
    clear H1
    obtain rfl := Option.some.inj H
    go_wp2
    go_ret
    exact ⟨by first | rfl | (simp [errW_none, errW_some] <;> rfl) | (simp [*, errW_none, errW_some] <;> rfl), by repeat (first | (with_reducible first | exact HB.out | apply below_alloc | apply pw_below_drewN | apply below_drew1 | refine below_set ?_ GE522.out) | exact HB.out)⟩
   ·replace c27 := Bool.eq_false_iff.mpr c27
    subst c27
    have H1 : ((grade_In.f kj6 t523 a1_0 a1_1 a1_2).bind fun bt541 => (if bt541.2 = 0 then (kimberlitelaw02_GradeDual.l0 kj6 t526 bt541.1 0 a1_0 a1_1 a1_2) else (if bt541.2 = 2 then ((kimberliteref02_Good.f a1_0 a1_1 a1_2).bind fun t543 => (if t543 = true then (some false) else ((kimberlitelaw02_alive.f kj6).bind fun t544 => (some t544)))) else (some false)))) = some r := by rw [if_neg (show ¬ (false = true) by decide)] at H; exact H
    clear H
    have H := H1
    clear H1
    replace H := Option.bind_eq_some_iff.mp H
    obtain ⟨⟨t541, t542⟩, A280, H⟩ := H
    replace H : (if t542 = 0 then (kimberlitelaw02_GradeDual.l0 kj6 t526 t541 0 a1_0 a1_1 a1_2) else (if t542 = 2 then ((kimberliteref02_Good.f a1_0 a1_1 a1_2).bind fun t543 => (if t543 = true then (some false) else ((kimberlitelaw02_alive.f kj6).bind fun t544 => (some t544)))) else (some false))) = some r := H
    have A28 := Aside0.mk A280
    clear A280
    by_cases c29 : t542 = 0
    ·rw [if_pos c29] at H
     have c29b0 : (t542 == 0) = true := beq_iff_eq.mpr c29
     have c29b1 : (t542 != 0) = false := bne_eq_false_iff_eq.mpr c29
     clear c29
     have H' := Aside0.mk H
     clear H
     have hcz30_0 : wc.cell? ⟨gb522, 0, none⟩ = some (.int .i64 a1_0) := (blk_cell BK522.out 0).trans rfl
     have hcz30_1 : wc.cell? ⟨gb522, 1, none⟩ = some (.int .i64 a1_1) := (blk_cell BK522.out 1).trans rfl
     have hcz30_2 : wc.cell? ⟨gb522, 2, none⟩ = some (.int .i64 a1_2) := (blk_cell BK522.out 2).trans rfl
     have hfz30_0 := blk_frozen BK522.out 0
     have hfz30_1 := blk_frozen BK522.out 1
     have hfz30_2 := blk_frozen BK522.out 2
     go_wp2_with (first | ((with_reducible refine gate_callee (f := 51) rfl ?_); refine goesL_ (some 62) rfl rfl Try.func51 (by kernel_rfl) rfl #[.slice Ao10 t523.length co10, .agg #[.int .i64 a1_0, .int .i64 a1_1, .int .i64 a1_2]] rfl (by (try simp only [List.map_toArray, List.map_cons, List.map_nil]); first | done | rfl | (simp only [List.length_drop, List.length_take]; rfl)) ?_; (with_reducible refine (grade_In.calls kj6 _ _ t523 a1_0 a1_1 a1_2 t541 t542 _ ?side1 ?side2 A28.out).mono ?_); (case side1 => repeat (first | exact (Kd.R_reads' HO_5.out).2.2 | (with_reducible refine Kd.C_alloc ?_ _) | (with_reducible refine Kd.C_drewN ?_ _) | (with_reducible refine Kd.C_drew ?_))); (case side2 => exact (Kd.R_reads' HO_5.out).2.1); rintro e w31 ⟨rfl, hb⟩; refine ⟨_, rfl, ?_⟩; have n0_ := Aside0.mk (Kd.R_below (by (with_reducible repeat (first | apply Kd.R_alloc | apply Kd.R_drewN | apply Kd.R_drew)); exact HO_5.out) hb); have n1_ := Aside0.mk (Kd.R_below (by (with_reducible repeat (first | apply Kd.R_alloc | apply Kd.R_drewN | apply Kd.R_drew)); exact HO_6.out) hb); have n2_ := Aside0.mk (blk_below (g := gb522) (o := .cells #[.int .i64 a1_0, .int .i64 a1_1, .int .i64 a1_2] 36 (0, 0)) (by (with_reducible repeat (first | refine blk_drewN ?_ _ | refine blk_drew ?_ | refine blk_alloc ?_ _)); exact BK522.out) hb); have n3_ := Aside0.mk (below_step (by repeat (first | (with_reducible first | exact HB.out | apply below_alloc | apply pw_below_drewN | apply below_drew1 | refine below_set ?_ GE522.out) | exact HB.out)) hb); clear HO_5; clear HO_6; clear BK522; clear HB; have HO_5 := n0_; have HO_6 := n1_; have BK522 := n2_; have HB := n3_; clear n0_ n1_ n2_ n3_; (try clear hb); (try clear hb2); (try clear hk); (try clear hi)))
     go_loopg [14] kj6 (fun kq v14 w' => ∃ (x14_2 : Int), v14 = .int .i64 x14_2 ∧ Aside0 (kimberlitelaw02_GradeDual.l0 kq t526 t541 x14_2 a1_0 a1_1 a1_2 = some r) ∧ Aside0 (kq ≤ kj6) ∧ Aside0 (Kd.R k36 36 w' w.heap.size (fun k_ => k_ ≠ gb522) (.slice Ao12 t526.length co12) t526) ∧ Aside0 (w'.heap[gb522]? = some (.cells #[.int .i64 a1_0, .int .i64 a1_1, .int .i64 a1_2] 36 (0, 0))) ∧ Aside0 (Below w.heap.size w w'))
     case atStart => exact ⟨(0), (by first | rfl | (simp; done) | (simp [*]; done)), H', ⟨Nat.le_refl _⟩, ⟨by (with_reducible repeat (first | apply Kd.R_alloc | apply Kd.R_drewN | apply Kd.R_drew)); exact Kd.R_mono HO_6.out (fun _ hk => hk.2)⟩, ⟨by (with_reducible repeat (first | refine blk_drewN ?_ _ | refine blk_drew ?_ | refine blk_alloc ?_ _)); exact BK522.out⟩, ⟨by repeat (first | (with_reducible first | exact HB.out | apply below_alloc | apply pw_below_drewN | apply below_drew1 | refine below_set ?_ GE522.out) | exact HB.out)⟩⟩
     case round =>
      clear H'
      try clear c1
      try clear c2
      try clear p2
      try clear c4
      try clear c5
      try clear c9
      try clear c16
      try clear c16b0
      try clear c16b1
      try clear c17
      try clear c17b0
      try clear c17b1
      try clear c18
      try clear c18b0
      try clear c18b1
      try clear c20
      try clear c22
      try clear c27
      try clear c29
      try clear c29b0
      try clear c29b1
      try clear hcz30_0
      try clear hcz30_1
      try clear hcz30_2
      try clear hfz30_0
      try clear hfz30_1
      try clear hfz30_2
      try clear p2
      obtain ⟨x14_2, rfl, HA, HK2, HO_6, BK522, HB⟩ := hrel
      cases gk with
      | zero => exact absurd HA.out (by simp [kimberlitelaw02_GradeDual.l0])
      | succ k2 =>
       have H := HA.out
       clear HA
       simp only [kimberlitelaw02_GradeDual.l0] at H
       by_cases c32 : x14_2 < (t526.length : Int)
       ·rw [if_pos c32] at H
        have c32b0 : decide (x14_2 < (t526.length : Int)) = true := decide_eq_true c32
        clear c32
        by_cases c33 : 0 ≤ x14_2
        ·rw [if_pos c33] at H
         have c33b0 : decide (0 ≤ x14_2) = true := decide_eq_true c33
         clear c33
         replace H := Option.bind_eq_some_iff.mp H
         obtain ⟨t547, A340, H⟩ := H
         replace H : (if t547 = true then (if t541 = true then (some false) else ((kimberlitelaw02_alive.f k2).bind fun t548 => (some t548))) else (kimberlitelaw02_GradeDual.l0 k2 t526 t541 (wrap64 (x14_2 + 1)) a1_0 a1_1 a1_2)) = some r := H
         have A34 := Aside0.mk A340
         clear A340
         by_cases c35 : t547 = true
         ·subst c35
          have H1 : (if t541 = true then (some false) else ((kimberlitelaw02_alive.f k2).bind fun t548 => (some t548))) = some r := by rw [if_pos rfl] at H; exact H
          clear H
          have H := H1
          clear H1
          by_cases c36 : t541 = true
          ·subst c36
           have H1 : (some false) = some r := by rw [if_pos rfl] at H; exact H
           clear H
           have H := H1
           clear H1
           obtain rfl := Option.some.inj H
           try go_wp2
           have n0_ := Aside0.mk (Kd.R_drew HO_6.out)
           have n1_ := Aside0.mk (blk_drew BK522.out)
           have n2_ := Aside0.mk (below_drew1 HB.out)
           clear HO_6
           clear BK522
           clear HB
           have HO_6 := n0_
           have BK522 := n1_
           have HB := n2_
           clear n0_ n1_ n2_
           have p546 : 0 ≤ (x14_2 : Int) := of_decide_eq_true (by first | (with_reducible assumption) | assumption)
           have q546 : x14_2 < (t526.length : Int) := of_decide_eq_true (by first | (with_reducible assumption) | assumption)
           obtain ⟨ad546, e546, hx546_0, hx546_1, hx546_2⟩ := at_T36 (Kd.R_reads' HO_6.out).2.2 x14_2 p546 q546
           cases e546
           replace p546 := eq_true p546
           replace q546 := eq_true q546
           refine start_ (n := 6) (S := fun w' => w'.cell? ⟨gb522, 0, none⟩ = some (.int .i64 a1_0) ∧ w'.cell? ⟨gb522, 1, none⟩ = some (.int .i64 a1_1) ∧ w'.cell? ⟨gb522, 2, none⟩ = some (.int .i64 a1_2) ∧ w'.cell? (ad546.add ((x14_2).toNat * 3)) = some (.int .i64 ((rd_T36 t526 x14_2).f0)) ∧ w'.cell? ⟨(ad546.add ((x14_2).toNat * 3)).block, (ad546.add ((x14_2).toNat * 3)).off + 1, none⟩ = some (.int .i64 ((rd_T36 t526 x14_2).f1)) ∧ w'.cell? ⟨(ad546.add ((x14_2).toNat * 3)).block, (ad546.add ((x14_2).toNat * 3)).off + 2, none⟩ = some (.int .i64 ((rd_T36 t526 x14_2).f2))) (ds := []) #[false, false, false, false, false, false] (by kernel_rfl) rfl rfl ⟨(blk_cell BK522.out 0).trans rfl, (blk_cell BK522.out 1).trans rfl, (blk_cell BK522.out 2).trans rfl, hx546_0, hx546_1, hx546_2⟩ (fun hHeld => ?_)
           generalize wr.drew = w37 at HO_6 BK522 HB hx546_0 hx546_1 hx546_2 hHeld ⊢
           refine pure_ (i := 1) (N := some 84) (v := ?_) (a' := ?_) #[false, true, false, false, false, false] rfl rfl (by kernel_rfl) (fun _ _ _ h => h) (Or.inl ⟨by rfl, ?_⟩) ?_ ?_
           rotate_left
           ·intro w'
            go_simp
            with_reducible rfl
           rotate_left
           ·simp only [Act.put, List.setIfInBounds_toArray, List.set_cons_zero, List.set_cons_succ, i64_w, i32_w]
            rfl
           refine pure_ (i := 2) (N := some 85) (v := ?_) (a' := ?_) #[false, true, true, false, false, false] rfl rfl (by kernel_rfl) (fun _ _ _ h => h) (Or.inl ⟨by rfl, ?_⟩) ?_ ?_
           rotate_left
           ·intro w'
            go_simp
            with_reducible rfl
           rotate_left
           ·simp only [Act.put, List.setIfInBounds_toArray, List.set_cons_zero, List.set_cons_succ, i64_w, i32_w]
            rfl
           refine pure_ (i := 3) (N := some 86) (v := ?_) (a' := ?_) #[false, true, true, true, false, false] rfl rfl (by kernel_rfl) (fun _ _ _ h => h) (Or.inl ⟨by rfl, ?_⟩) ?_ ?_
           rotate_left
           ·intro w'
            go_simp
            with_reducible rfl
           rotate_left
           ·simp only [Act.put, List.setIfInBounds_toArray, List.set_cons_zero, List.set_cons_succ, i64_w, i32_w]
            rfl
           refine take_ (i := 0) (N := some 83) (v := ?_) (a' := ?_) #[true, true, true, true, false, false] rfl rfl (by kernel_rfl) (fun _ _ _ h => h) (Or.inl ⟨by rfl, ?_⟩) hHeld ?_ ?_
           rotate_left
           ·rintro w' ⟨s0, s1, s2, s3, s4, s5⟩
            go_simp
            with_reducible rfl
           rotate_left
           ·simp only [Act.put, List.setIfInBounds_toArray, List.set_cons_zero, List.set_cons_succ, i64_w, i32_w]
            rfl
           refine take_ (i := 4) (N := some 87) (v := ?_) (a' := ?_) #[true, true, true, true, true, false] rfl rfl (by kernel_rfl) (fun _ _ _ h => h) (Or.inl ⟨by rfl, ?_⟩) hHeld ?_ ?_
           rotate_left
           ·rintro w' ⟨s0, s1, s2, s3, s4, s5⟩
            go_simp
            with_reducible rfl
           rotate_left
           ·simp only [Act.put, List.setIfInBounds_toArray, List.set_cons_zero, List.set_cons_succ, i64_w, i32_w]
            rfl
           refine one_ (i := 5) (N := some 88) #[true, true, true, true, true, true] rfl rfl (by kernel_rfl) (by decide) (fun K hK => ?_)
           refine goes_ Try.func26 (by kernel_rfl) rfl #[.agg #[.int .i64 a1_0, .int .i64 a1_1, .int .i64 a1_2], .agg #[.int .i64 ((rd_T36 t526 x14_2).f0), .int .i64 ((rd_T36 t526 x14_2).f1), .int .i64 ((rd_T36 t526 x14_2).f2)]] (by rfl) rfl rfl (by (try simp only [List.map_toArray, List.map_cons, List.map_nil]); first | done | rfl | (simp only [List.length_drop, List.length_take]; rfl)) ?_
           with_reducible refine (grade_Below.calls a1_0 a1_1 a1_2 ((rd_T36 t526 x14_2).f0) ((rd_T36 t526 x14_2).f1) ((rd_T36 t526 x14_2).f2) true _ A34.out).mono ?_
           rintro e w38 ⟨rfl, hb⟩
           have HS3_ := (hb.cell (World.block_lt_of_cell? _ _ (hHeld.2.2.2.1))).trans (hHeld.2.2.2.1)
           have HS4_ := (hb.cell (World.block_lt_of_cell? _ _ (hHeld.2.2.2.2.1))).trans (hHeld.2.2.2.2.1)
           have HS5_ := (hb.cell (World.block_lt_of_cell? _ _ (hHeld.2.2.2.2.2))).trans (hHeld.2.2.2.2.2)
           refine ⟨_, rfl, ?_⟩
           have n0_ := Aside0.mk (Kd.R_below (by (with_reducible repeat (first | apply Kd.R_alloc | apply Kd.R_drewN | apply Kd.R_drew)); exact HO_6.out) hb)
           have n1_ := Aside0.mk (blk_below (g := gb522) (o := .cells #[.int .i64 a1_0, .int .i64 a1_1, .int .i64 a1_2] 36 (0, 0)) (by (with_reducible repeat (first | refine blk_drewN ?_ _ | refine blk_drew ?_ | refine blk_alloc ?_ _)); exact BK522.out) hb)
           have n2_ := Aside0.mk (below_step (by repeat (first | (with_reducible first | exact HB.out | apply below_alloc | apply pw_below_drewN | apply below_drew1 | refine below_set ?_ GE522.out) | exact HB.out)) hb)
           clear HO_6
           clear BK522
           clear HB
           have HO_6 := n0_
           have BK522 := n1_
           have HB := n2_
           clear n0_ n1_ n2_
           (try clear hb)
           (try clear hb2)
           (try clear hk)
           (try clear hi)
           refine hK.out _ _ ⟨(blk_cell BK522.out 0).trans rfl, (blk_cell BK522.out 1).trans rfl, (blk_cell BK522.out 2).trans rfl, HS3_, HS4_, HS5_⟩ (fun hHeld => ?_)
           clear hK K
           refine norm_ (a' := ?_) ?_ ?_
           rotate_left
           ·show Act.put _ (some 88) _ = _
            simp only [Act.put, List.setIfInBounds_toArray, List.set_cons_zero, List.set_cons_succ, i64_w, i32_w]
            rfl
           refine done_ (by kernel_rfl) ?_
           try go_wp2
           go_ret
           exact ⟨by first | rfl | (simp [errW_none, errW_some] <;> rfl) | (simp [*, errW_none, errW_some] <;> rfl), by repeat (first | (with_reducible first | exact HB.out | apply below_alloc | apply pw_below_drewN | apply below_drew1 | refine below_set ?_ GE522.out) | exact HB.out)⟩
          ·replace c36 := Bool.eq_false_iff.mpr c36
           subst c36
           have H1 : ((kimberlitelaw02_alive.f k2).bind fun t548 => (some t548)) = some r := by rw [if_neg (show ¬ (false = true) by decide)] at H; exact H
           clear H
           have H := H1
           clear H1
           replace H := Option.bind_eq_some_iff.mp H
           obtain ⟨t548, A390, H⟩ := H
           replace H : (some t548) = some r := H
           have A39 := Aside0.mk A390
           clear A390
           obtain rfl := Option.some.inj H
           try go_wp2
           have n0_ := Aside0.mk (Kd.R_drew HO_6.out)
           have n1_ := Aside0.mk (blk_drew BK522.out)
           have n2_ := Aside0.mk (below_drew1 HB.out)
           clear HO_6
           clear BK522
           clear HB
           have HO_6 := n0_
           have BK522 := n1_
           have HB := n2_
           clear n0_ n1_ n2_
           have p546 : 0 ≤ (x14_2 : Int) := of_decide_eq_true (by first | (with_reducible assumption) | assumption)
           have q546 : x14_2 < (t526.length : Int) := of_decide_eq_true (by first | (with_reducible assumption) | assumption)
           obtain ⟨ad546, e546, hx546_0, hx546_1, hx546_2⟩ := at_T36 (Kd.R_reads' HO_6.out).2.2 x14_2 p546 q546
           cases e546
           replace p546 := eq_true p546
           replace q546 := eq_true q546
           refine start_ (n := 6) (S := fun w' => w'.cell? ⟨gb522, 0, none⟩ = some (.int .i64 a1_0) ∧ w'.cell? ⟨gb522, 1, none⟩ = some (.int .i64 a1_1) ∧ w'.cell? ⟨gb522, 2, none⟩ = some (.int .i64 a1_2) ∧ w'.cell? (ad546.add ((x14_2).toNat * 3)) = some (.int .i64 ((rd_T36 t526 x14_2).f0)) ∧ w'.cell? ⟨(ad546.add ((x14_2).toNat * 3)).block, (ad546.add ((x14_2).toNat * 3)).off + 1, none⟩ = some (.int .i64 ((rd_T36 t526 x14_2).f1)) ∧ w'.cell? ⟨(ad546.add ((x14_2).toNat * 3)).block, (ad546.add ((x14_2).toNat * 3)).off + 2, none⟩ = some (.int .i64 ((rd_T36 t526 x14_2).f2))) (ds := []) #[false, false, false, false, false, false] (by kernel_rfl) rfl rfl ⟨(blk_cell BK522.out 0).trans rfl, (blk_cell BK522.out 1).trans rfl, (blk_cell BK522.out 2).trans rfl, hx546_0, hx546_1, hx546_2⟩ (fun hHeld => ?_)
           generalize wr.drew = w40 at HO_6 BK522 HB hx546_0 hx546_1 hx546_2 hHeld ⊢
           refine pure_ (i := 1) (N := some 84) (v := ?_) (a' := ?_) #[false, true, false, false, false, false] rfl rfl (by kernel_rfl) (fun _ _ _ h => h) (Or.inl ⟨by rfl, ?_⟩) ?_ ?_
           rotate_left
           ·intro w'
            go_simp
            with_reducible rfl
           rotate_left
           ·simp only [Act.put, List.setIfInBounds_toArray, List.set_cons_zero, List.set_cons_succ, i64_w, i32_w]
            rfl
           refine pure_ (i := 2) (N := some 85) (v := ?_) (a' := ?_) #[false, true, true, false, false, false] rfl rfl (by kernel_rfl) (fun _ _ _ h => h) (Or.inl ⟨by rfl, ?_⟩) ?_ ?_
           rotate_left
           ·intro w'
            go_simp
            with_reducible rfl
           rotate_left
           ·simp only [Act.put, List.setIfInBounds_toArray, List.set_cons_zero, List.set_cons_succ, i64_w, i32_w]
            rfl
           refine pure_ (i := 3) (N := some 86) (v := ?_) (a' := ?_) #[false, true, true, true, false, false] rfl rfl (by kernel_rfl) (fun _ _ _ h => h) (Or.inl ⟨by rfl, ?_⟩) ?_ ?_
           rotate_left
           ·intro w'
            go_simp
            with_reducible rfl
           rotate_left
           ·simp only [Act.put, List.setIfInBounds_toArray, List.set_cons_zero, List.set_cons_succ, i64_w, i32_w]
            rfl
           refine take_ (i := 0) (N := some 83) (v := ?_) (a' := ?_) #[true, true, true, true, false, false] rfl rfl (by kernel_rfl) (fun _ _ _ h => h) (Or.inl ⟨by rfl, ?_⟩) hHeld ?_ ?_
           rotate_left
           ·rintro w' ⟨s0, s1, s2, s3, s4, s5⟩
            go_simp
            with_reducible rfl
           rotate_left
           ·simp only [Act.put, List.setIfInBounds_toArray, List.set_cons_zero, List.set_cons_succ, i64_w, i32_w]
            rfl
           refine take_ (i := 4) (N := some 87) (v := ?_) (a' := ?_) #[true, true, true, true, true, false] rfl rfl (by kernel_rfl) (fun _ _ _ h => h) (Or.inl ⟨by rfl, ?_⟩) hHeld ?_ ?_
           rotate_left
           ·rintro w' ⟨s0, s1, s2, s3, s4, s5⟩
            go_simp
            with_reducible rfl
           rotate_left
           ·simp only [Act.put, List.setIfInBounds_toArray, List.set_cons_zero, List.set_cons_succ, i64_w, i32_w]
            rfl
           refine one_ (i := 5) (N := some 88) #[true, true, true, true, true, true] rfl rfl (by kernel_rfl) (by decide) (fun K hK => ?_)
           refine goes_ Try.func26 (by kernel_rfl) rfl #[.agg #[.int .i64 a1_0, .int .i64 a1_1, .int .i64 a1_2], .agg #[.int .i64 ((rd_T36 t526 x14_2).f0), .int .i64 ((rd_T36 t526 x14_2).f1), .int .i64 ((rd_T36 t526 x14_2).f2)]] (by rfl) rfl rfl (by (try simp only [List.map_toArray, List.map_cons, List.map_nil]); first | done | rfl | (simp only [List.length_drop, List.length_take]; rfl)) ?_
           with_reducible refine (grade_Below.calls a1_0 a1_1 a1_2 ((rd_T36 t526 x14_2).f0) ((rd_T36 t526 x14_2).f1) ((rd_T36 t526 x14_2).f2) true _ A34.out).mono ?_
           rintro e w41 ⟨rfl, hb⟩
           have HS3_ := (hb.cell (World.block_lt_of_cell? _ _ (hHeld.2.2.2.1))).trans (hHeld.2.2.2.1)
           have HS4_ := (hb.cell (World.block_lt_of_cell? _ _ (hHeld.2.2.2.2.1))).trans (hHeld.2.2.2.2.1)
           have HS5_ := (hb.cell (World.block_lt_of_cell? _ _ (hHeld.2.2.2.2.2))).trans (hHeld.2.2.2.2.2)
           refine ⟨_, rfl, ?_⟩
           have n0_ := Aside0.mk (Kd.R_below (by (with_reducible repeat (first | apply Kd.R_alloc | apply Kd.R_drewN | apply Kd.R_drew)); exact HO_6.out) hb)
           have n1_ := Aside0.mk (blk_below (g := gb522) (o := .cells #[.int .i64 a1_0, .int .i64 a1_1, .int .i64 a1_2] 36 (0, 0)) (by (with_reducible repeat (first | refine blk_drewN ?_ _ | refine blk_drew ?_ | refine blk_alloc ?_ _)); exact BK522.out) hb)
           have n2_ := Aside0.mk (below_step (by repeat (first | (with_reducible first | exact HB.out | apply below_alloc | apply pw_below_drewN | apply below_drew1 | refine below_set ?_ GE522.out) | exact HB.out)) hb)
           clear HO_6
           clear BK522
           clear HB
           have HO_6 := n0_
           have BK522 := n1_
           have HB := n2_
           clear n0_ n1_ n2_
           (try clear hb)
           (try clear hb2)
           (try clear hk)
           (try clear hi)
           refine hK.out _ _ ⟨(blk_cell BK522.out 0).trans rfl, (blk_cell BK522.out 1).trans rfl, (blk_cell BK522.out 2).trans rfl, HS3_, HS4_, HS5_⟩ (fun hHeld => ?_)
           clear hK K
           refine norm_ (a' := ?_) ?_ ?_
           rotate_left
           ·show Act.put _ (some 88) _ = _
            simp only [Act.put, List.setIfInBounds_toArray, List.set_cons_zero, List.set_cons_succ, i64_w, i32_w]
            rfl
           refine done_ (by kernel_rfl) ?_
           try go_wp2_with (first | (go_at_call 18; (with_reducible refine (kimberlitelaw02_alive.calls k2  t548 _ A39.out).mono ?_); rintro e w42 ⟨rfl, hb⟩; have n0_ := Aside0.mk (Kd.R_below (by (with_reducible repeat (first | apply Kd.R_alloc | apply Kd.R_drewN | apply Kd.R_drew)); exact HO_6.out) hb); have n1_ := Aside0.mk (blk_below (g := gb522) (o := .cells #[.int .i64 a1_0, .int .i64 a1_1, .int .i64 a1_2] 36 (0, 0)) (by (with_reducible repeat (first | refine blk_drewN ?_ _ | refine blk_drew ?_ | refine blk_alloc ?_ _)); exact BK522.out) hb); have n2_ := Aside0.mk (below_step (by repeat (first | (with_reducible first | exact HB.out | apply below_alloc | apply pw_below_drewN | apply below_drew1 | refine below_set ?_ GE522.out) | exact HB.out)) hb); clear HO_6; clear BK522; clear HB; have HO_6 := n0_; have BK522 := n1_; have HB := n2_; clear n0_ n1_ n2_; (try clear hb); (try clear hb2); (try clear hk); (try clear hi)))
           go_ret
           exact ⟨by first | rfl | (simp [errW_none, errW_some] <;> rfl) | (simp [*, errW_none, errW_some] <;> rfl), by repeat (first | (with_reducible first | exact HB.out | apply below_alloc | apply pw_below_drewN | apply below_drew1 | refine below_set ?_ GE522.out) | exact HB.out)⟩
         ·replace c35 := Bool.eq_false_iff.mpr c35
          subst c35
          have H1 : (kimberlitelaw02_GradeDual.l0 k2 t526 t541 (wrap64 (x14_2 + 1)) a1_0 a1_1 a1_2) = some r := by rw [if_neg (show ¬ (false = true) by decide)] at H; exact H
          clear H
          have H := H1
          clear H1
          have H' := Aside0.mk H
          clear H
          try go_wp2
          have n0_ := Aside0.mk (Kd.R_drew HO_6.out)
          have n1_ := Aside0.mk (blk_drew BK522.out)
          have n2_ := Aside0.mk (below_drew1 HB.out)
          clear HO_6
          clear BK522
          clear HB
          have HO_6 := n0_
          have BK522 := n1_
          have HB := n2_
          clear n0_ n1_ n2_
          have p546 : 0 ≤ (x14_2 : Int) := of_decide_eq_true (by first | (with_reducible assumption) | assumption)
          have q546 : x14_2 < (t526.length : Int) := of_decide_eq_true (by first | (with_reducible assumption) | assumption)
          obtain ⟨ad546, e546, hx546_0, hx546_1, hx546_2⟩ := at_T36 (Kd.R_reads' HO_6.out).2.2 x14_2 p546 q546
          cases e546
          replace p546 := eq_true p546
          replace q546 := eq_true q546
          refine start_ (n := 6) (S := fun w' => w'.cell? ⟨gb522, 0, none⟩ = some (.int .i64 a1_0) ∧ w'.cell? ⟨gb522, 1, none⟩ = some (.int .i64 a1_1) ∧ w'.cell? ⟨gb522, 2, none⟩ = some (.int .i64 a1_2) ∧ w'.cell? (ad546.add ((x14_2).toNat * 3)) = some (.int .i64 ((rd_T36 t526 x14_2).f0)) ∧ w'.cell? ⟨(ad546.add ((x14_2).toNat * 3)).block, (ad546.add ((x14_2).toNat * 3)).off + 1, none⟩ = some (.int .i64 ((rd_T36 t526 x14_2).f1)) ∧ w'.cell? ⟨(ad546.add ((x14_2).toNat * 3)).block, (ad546.add ((x14_2).toNat * 3)).off + 2, none⟩ = some (.int .i64 ((rd_T36 t526 x14_2).f2))) (ds := []) #[false, false, false, false, false, false] (by kernel_rfl) rfl rfl ⟨(blk_cell BK522.out 0).trans rfl, (blk_cell BK522.out 1).trans rfl, (blk_cell BK522.out 2).trans rfl, hx546_0, hx546_1, hx546_2⟩ (fun hHeld => ?_)
          generalize wr.drew = w43 at HO_6 BK522 HB hx546_0 hx546_1 hx546_2 hHeld ⊢
          refine pure_ (i := 1) (N := some 84) (v := ?_) (a' := ?_) #[false, true, false, false, false, false] rfl rfl (by kernel_rfl) (fun _ _ _ h => h) (Or.inl ⟨by rfl, ?_⟩) ?_ ?_
          rotate_left
          ·intro w'
           go_simp
           with_reducible rfl
          rotate_left
          ·simp only [Act.put, List.setIfInBounds_toArray, List.set_cons_zero, List.set_cons_succ, i64_w, i32_w]
           rfl
          refine pure_ (i := 2) (N := some 85) (v := ?_) (a' := ?_) #[false, true, true, false, false, false] rfl rfl (by kernel_rfl) (fun _ _ _ h => h) (Or.inl ⟨by rfl, ?_⟩) ?_ ?_
          rotate_left
          ·intro w'
           go_simp
           with_reducible rfl
          rotate_left
          ·simp only [Act.put, List.setIfInBounds_toArray, List.set_cons_zero, List.set_cons_succ, i64_w, i32_w]
           rfl
          refine pure_ (i := 3) (N := some 86) (v := ?_) (a' := ?_) #[false, true, true, true, false, false] rfl rfl (by kernel_rfl) (fun _ _ _ h => h) (Or.inl ⟨by rfl, ?_⟩) ?_ ?_
          rotate_left
          ·intro w'
           go_simp
           with_reducible rfl
          rotate_left
          ·simp only [Act.put, List.setIfInBounds_toArray, List.set_cons_zero, List.set_cons_succ, i64_w, i32_w]
           rfl
          refine take_ (i := 0) (N := some 83) (v := ?_) (a' := ?_) #[true, true, true, true, false, false] rfl rfl (by kernel_rfl) (fun _ _ _ h => h) (Or.inl ⟨by rfl, ?_⟩) hHeld ?_ ?_
          rotate_left
          ·rintro w' ⟨s0, s1, s2, s3, s4, s5⟩
           go_simp
           with_reducible rfl
          rotate_left
          ·simp only [Act.put, List.setIfInBounds_toArray, List.set_cons_zero, List.set_cons_succ, i64_w, i32_w]
           rfl
          refine take_ (i := 4) (N := some 87) (v := ?_) (a' := ?_) #[true, true, true, true, true, false] rfl rfl (by kernel_rfl) (fun _ _ _ h => h) (Or.inl ⟨by rfl, ?_⟩) hHeld ?_ ?_
          rotate_left
          ·rintro w' ⟨s0, s1, s2, s3, s4, s5⟩
           go_simp
           with_reducible rfl
          rotate_left
          ·simp only [Act.put, List.setIfInBounds_toArray, List.set_cons_zero, List.set_cons_succ, i64_w, i32_w]
           rfl
          refine one_ (i := 5) (N := some 88) #[true, true, true, true, true, true] rfl rfl (by kernel_rfl) (by decide) (fun K hK => ?_)
          refine goes_ Try.func26 (by kernel_rfl) rfl #[.agg #[.int .i64 a1_0, .int .i64 a1_1, .int .i64 a1_2], .agg #[.int .i64 ((rd_T36 t526 x14_2).f0), .int .i64 ((rd_T36 t526 x14_2).f1), .int .i64 ((rd_T36 t526 x14_2).f2)]] (by rfl) rfl rfl (by (try simp only [List.map_toArray, List.map_cons, List.map_nil]); first | done | rfl | (simp only [List.length_drop, List.length_take]; rfl)) ?_
          with_reducible refine (grade_Below.calls a1_0 a1_1 a1_2 ((rd_T36 t526 x14_2).f0) ((rd_T36 t526 x14_2).f1) ((rd_T36 t526 x14_2).f2) false _ A34.out).mono ?_
          rintro e w44 ⟨rfl, hb⟩
          have HS3_ := (hb.cell (World.block_lt_of_cell? _ _ (hHeld.2.2.2.1))).trans (hHeld.2.2.2.1)
          have HS4_ := (hb.cell (World.block_lt_of_cell? _ _ (hHeld.2.2.2.2.1))).trans (hHeld.2.2.2.2.1)
          have HS5_ := (hb.cell (World.block_lt_of_cell? _ _ (hHeld.2.2.2.2.2))).trans (hHeld.2.2.2.2.2)
          refine ⟨_, rfl, ?_⟩
          have n0_ := Aside0.mk (Kd.R_below (by (with_reducible repeat (first | apply Kd.R_alloc | apply Kd.R_drewN | apply Kd.R_drew)); exact HO_6.out) hb)
          have n1_ := Aside0.mk (blk_below (g := gb522) (o := .cells #[.int .i64 a1_0, .int .i64 a1_1, .int .i64 a1_2] 36 (0, 0)) (by (with_reducible repeat (first | refine blk_drewN ?_ _ | refine blk_drew ?_ | refine blk_alloc ?_ _)); exact BK522.out) hb)
          have n2_ := Aside0.mk (below_step (by repeat (first | (with_reducible first | exact HB.out | apply below_alloc | apply pw_below_drewN | apply below_drew1 | refine below_set ?_ GE522.out) | exact HB.out)) hb)
          clear HO_6
          clear BK522
          clear HB
          have HO_6 := n0_
          have BK522 := n1_
          have HB := n2_
          clear n0_ n1_ n2_
          (try clear hb)
          (try clear hb2)
          (try clear hk)
          (try clear hi)
          refine hK.out _ _ ⟨(blk_cell BK522.out 0).trans rfl, (blk_cell BK522.out 1).trans rfl, (blk_cell BK522.out 2).trans rfl, HS3_, HS4_, HS5_⟩ (fun hHeld => ?_)
          clear hK K
          refine norm_ (a' := ?_) ?_ ?_
          rotate_left
          ·show Act.put _ (some 88) _ = _
           simp only [Act.put, List.setIfInBounds_toArray, List.set_cons_zero, List.set_cons_succ, i64_w, i32_w]
           rfl
          refine done_ (by kernel_rfl) ?_
          try go_wp2
          go_roundg k2
          case measure => have := HJ6.out; have := HK2.out; omega
          case rel => exact ⟨(wrap64 (x14_2 + 1)), (by first | rfl | (simp; done) | (simp [*]; done)), H', ⟨by have := HJ6.out; have := HK2.out; omega⟩, ⟨by (with_reducible repeat (first | apply Kd.R_alloc | apply Kd.R_drewN | apply Kd.R_drew)); exact HO_6.out⟩, ⟨by (with_reducible repeat (first | refine blk_drewN ?_ _ | refine blk_drew ?_ | refine blk_alloc ?_ _)); exact BK522.out⟩, ⟨by repeat (first | (with_reducible first | exact HB.out | apply below_alloc | apply pw_below_drewN | apply below_drew1 | refine below_set ?_ GE522.out) | exact HB.out)⟩⟩
        ·rw [if_neg c33] at H
         exact absurd H (by simp)
       ·rw [if_neg c32] at H
        have c32b0 : decide (x14_2 < (t526.length : Int)) = false := decide_eq_false c32
        clear c32
        by_cases c45 : t541 = true
        ·subst c45
         have H1 : ((kimberlitelaw02_alive.f k2).bind fun t545 => (some t545)) = some r := by rw [if_pos rfl] at H; exact H
         clear H
         have H := H1
         clear H1
         replace H := Option.bind_eq_some_iff.mp H
         obtain ⟨t545, A460, H⟩ := H
         replace H : (some t545) = some r := H
         have A46 := Aside0.mk A460
         clear A460
         obtain rfl := Option.some.inj H
         go_wp2_with (first | (go_at_call 18; (with_reducible refine (kimberlitelaw02_alive.calls k2  t545 _ A46.out).mono ?_); rintro e w47 ⟨rfl, hb⟩; have n0_ := Aside0.mk (Kd.R_below (by (with_reducible repeat (first | apply Kd.R_alloc | apply Kd.R_drewN | apply Kd.R_drew)); exact HO_6.out) hb); have n1_ := Aside0.mk (blk_below (g := gb522) (o := .cells #[.int .i64 a1_0, .int .i64 a1_1, .int .i64 a1_2] 36 (0, 0)) (by (with_reducible repeat (first | refine blk_drewN ?_ _ | refine blk_drew ?_ | refine blk_alloc ?_ _)); exact BK522.out) hb); have n2_ := Aside0.mk (below_step (by repeat (first | (with_reducible first | exact HB.out | apply below_alloc | apply pw_below_drewN | apply below_drew1 | refine below_set ?_ GE522.out) | exact HB.out)) hb); clear HO_6; clear BK522; clear HB; have HO_6 := n0_; have BK522 := n1_; have HB := n2_; clear n0_ n1_ n2_; (try clear hb); (try clear hb2); (try clear hk); (try clear hi)))
         go_ret
         exact ⟨by first | rfl | (simp [errW_none, errW_some] <;> rfl) | (simp [*, errW_none, errW_some] <;> rfl), by repeat (first | (with_reducible first | exact HB.out | apply below_alloc | apply pw_below_drewN | apply below_drew1 | refine below_set ?_ GE522.out) | exact HB.out)⟩
        ·replace c45 := Bool.eq_false_iff.mpr c45
         subst c45
         have H1 : (some false) = some r := by rw [if_neg (show ¬ (false = true) by decide)] at H; exact H
         clear H
         have H := H1
         clear H1
         obtain rfl := Option.some.inj H
         go_wp2
         go_ret
         exact ⟨by first | rfl | (simp [errW_none, errW_some] <;> rfl) | (simp [*, errW_none, errW_some] <;> rfl), by repeat (first | (with_reducible first | exact HB.out | apply below_alloc | apply pw_below_drewN | apply below_drew1 | refine below_set ?_ GE522.out) | exact HB.out)⟩
    ·rw [if_neg c29] at H
     have c29b0 : (t542 == 0) = false := beq_eq_false_iff_ne.mpr c29
     have c29b1 : (t542 != 0) = true := bne_iff_ne.mpr c29
     by_cases c48 : t542 = 2
     ·rw [if_pos c48] at H
      have c48b0 : (t542 == 2) = true := beq_iff_eq.mpr c48
      have c48b1 : (t542 != 2) = false := bne_eq_false_iff_eq.mpr c48
      clear c48
      replace H := Option.bind_eq_some_iff.mp H
      obtain ⟨t543, A490, H⟩ := H
      replace H : (if t543 = true then (some false) else ((kimberlitelaw02_alive.f kj6).bind fun t544 => (some t544))) = some r := H
      have A49 := Aside0.mk A490
      clear A490
      by_cases c50 : t543 = true
      ·subst c50
       have H1 : (some false) = some r := by rw [if_pos rfl] at H; exact H
       clear H
       have H := H1
       clear H1
       obtain rfl := Option.some.inj H
       have hcz51_0 : wc.cell? ⟨gb522, 0, none⟩ = some (.int .i64 a1_0) := (blk_cell BK522.out 0).trans rfl
       have hcz51_1 : wc.cell? ⟨gb522, 1, none⟩ = some (.int .i64 a1_1) := (blk_cell BK522.out 1).trans rfl
       have hcz51_2 : wc.cell? ⟨gb522, 2, none⟩ = some (.int .i64 a1_2) := (blk_cell BK522.out 2).trans rfl
       have hfz51_0 := blk_frozen BK522.out 0
       have hfz51_1 := blk_frozen BK522.out 1
       have hfz51_2 := blk_frozen BK522.out 2
       go_wp2_with (first | ((with_reducible refine gate_callee (f := 51) rfl ?_); refine goesL_ (some 62) rfl rfl Try.func51 (by kernel_rfl) rfl #[.slice Ao10 t523.length co10, .agg #[.int .i64 a1_0, .int .i64 a1_1, .int .i64 a1_2]] rfl (by (try simp only [List.map_toArray, List.map_cons, List.map_nil]); first | done | rfl | (simp only [List.length_drop, List.length_take]; rfl)) ?_; (with_reducible refine (grade_In.calls kj6 _ _ t523 a1_0 a1_1 a1_2 t541 t542 _ ?side1 ?side2 A28.out).mono ?_); (case side1 => repeat (first | exact (Kd.R_reads' HO_5.out).2.2 | (with_reducible refine Kd.C_alloc ?_ _) | (with_reducible refine Kd.C_drewN ?_ _) | (with_reducible refine Kd.C_drew ?_))); (case side2 => exact (Kd.R_reads' HO_5.out).2.1); rintro e w52 ⟨rfl, hb⟩; refine ⟨_, rfl, ?_⟩; have n0_ := Aside0.mk (Kd.R_below (by (with_reducible repeat (first | apply Kd.R_alloc | apply Kd.R_drewN | apply Kd.R_drew)); exact HO_5.out) hb); have n1_ := Aside0.mk (Kd.R_below (by (with_reducible repeat (first | apply Kd.R_alloc | apply Kd.R_drewN | apply Kd.R_drew)); exact HO_6.out) hb); have n2_ := Aside0.mk (blk_below (g := gb522) (o := .cells #[.int .i64 a1_0, .int .i64 a1_1, .int .i64 a1_2] 36 (0, 0)) (by (with_reducible repeat (first | refine blk_drewN ?_ _ | refine blk_drew ?_ | refine blk_alloc ?_ _)); exact BK522.out) hb); have n3_ := Aside0.mk (below_step (by repeat (first | (with_reducible first | exact HB.out | apply below_alloc | apply pw_below_drewN | apply below_drew1 | refine below_set ?_ GE522.out) | exact HB.out)) hb); clear HO_5; clear HO_6; clear BK522; clear HB; have HO_5 := n0_; have HO_6 := n1_; have BK522 := n2_; have HB := n3_; clear n0_ n1_ n2_ n3_; (try clear hb); (try clear hb2); (try clear hk); (try clear hi); have hcz53_0 : w52.cell? ⟨gb522, 0, none⟩ = some (.int .i64 a1_0) := (blk_cell BK522.out 0).trans rfl; have hcz53_1 : w52.cell? ⟨gb522, 1, none⟩ = some (.int .i64 a1_1) := (blk_cell BK522.out 1).trans rfl; have hcz53_2 : w52.cell? ⟨gb522, 2, none⟩ = some (.int .i64 a1_2) := (blk_cell BK522.out 2).trans rfl; have hfz53_0 := blk_frozen BK522.out 0; have hfz53_1 := blk_frozen BK522.out 1; have hfz53_2 := blk_frozen BK522.out 2) | (go_at_call 52; (with_reducible refine (kimberliteref02_Good.calls a1_0 a1_1 a1_2 true _ A49.out).mono ?_); rintro e w54 ⟨rfl, hb⟩; have n0_ := Aside0.mk (Kd.R_below (by (with_reducible repeat (first | apply Kd.R_alloc | apply Kd.R_drewN | apply Kd.R_drew)); exact HO_5.out) hb); have n1_ := Aside0.mk (Kd.R_below (by (with_reducible repeat (first | apply Kd.R_alloc | apply Kd.R_drewN | apply Kd.R_drew)); exact HO_6.out) hb); have n2_ := Aside0.mk (blk_below (g := gb522) (o := .cells #[.int .i64 a1_0, .int .i64 a1_1, .int .i64 a1_2] 36 (0, 0)) (by (with_reducible repeat (first | refine blk_drewN ?_ _ | refine blk_drew ?_ | refine blk_alloc ?_ _)); exact BK522.out) hb); have n3_ := Aside0.mk (below_step (by repeat (first | (with_reducible first | exact HB.out | apply below_alloc | apply pw_below_drewN | apply below_drew1 | refine below_set ?_ GE522.out) | exact HB.out)) hb); clear HO_5; clear HO_6; clear BK522; clear HB; have HO_5 := n0_; have HO_6 := n1_; have BK522 := n2_; have HB := n3_; clear n0_ n1_ n2_ n3_; (try clear hb); (try clear hb2); (try clear hk); (try clear hi)))
       go_ret
       exact ⟨by first | rfl | (simp [errW_none, errW_some] <;> rfl) | (simp [*, errW_none, errW_some] <;> rfl), by repeat (first | (with_reducible first | exact HB.out | apply below_alloc | apply pw_below_drewN | apply below_drew1 | refine below_set ?_ GE522.out) | exact HB.out)⟩
      ·replace c50 := Bool.eq_false_iff.mpr c50
       subst c50
       have H1 : ((kimberlitelaw02_alive.f kj6).bind fun t544 => (some t544)) = some r := by rw [if_neg (show ¬ (false = true) by decide)] at H; exact H
       clear H
       have H := H1
       clear H1
       replace H := Option.bind_eq_some_iff.mp H
       obtain ⟨t544, A550, H⟩ := H
       replace H : (some t544) = some r := H
       have A55 := Aside0.mk A550
       clear A550
       obtain rfl := Option.some.inj H
       have hcz56_0 : wc.cell? ⟨gb522, 0, none⟩ = some (.int .i64 a1_0) := (blk_cell BK522.out 0).trans rfl
       have hcz56_1 : wc.cell? ⟨gb522, 1, none⟩ = some (.int .i64 a1_1) := (blk_cell BK522.out 1).trans rfl
       have hcz56_2 : wc.cell? ⟨gb522, 2, none⟩ = some (.int .i64 a1_2) := (blk_cell BK522.out 2).trans rfl
       have hfz56_0 := blk_frozen BK522.out 0
       have hfz56_1 := blk_frozen BK522.out 1
       have hfz56_2 := blk_frozen BK522.out 2
       go_wp2_with (first | ((with_reducible refine gate_callee (f := 51) rfl ?_); refine goesL_ (some 62) rfl rfl Try.func51 (by kernel_rfl) rfl #[.slice Ao10 t523.length co10, .agg #[.int .i64 a1_0, .int .i64 a1_1, .int .i64 a1_2]] rfl (by (try simp only [List.map_toArray, List.map_cons, List.map_nil]); first | done | rfl | (simp only [List.length_drop, List.length_take]; rfl)) ?_; (with_reducible refine (grade_In.calls kj6 _ _ t523 a1_0 a1_1 a1_2 t541 t542 _ ?side1 ?side2 A28.out).mono ?_); (case side1 => repeat (first | exact (Kd.R_reads' HO_5.out).2.2 | (with_reducible refine Kd.C_alloc ?_ _) | (with_reducible refine Kd.C_drewN ?_ _) | (with_reducible refine Kd.C_drew ?_))); (case side2 => exact (Kd.R_reads' HO_5.out).2.1); rintro e w57 ⟨rfl, hb⟩; refine ⟨_, rfl, ?_⟩; have n0_ := Aside0.mk (Kd.R_below (by (with_reducible repeat (first | apply Kd.R_alloc | apply Kd.R_drewN | apply Kd.R_drew)); exact HO_5.out) hb); have n1_ := Aside0.mk (Kd.R_below (by (with_reducible repeat (first | apply Kd.R_alloc | apply Kd.R_drewN | apply Kd.R_drew)); exact HO_6.out) hb); have n2_ := Aside0.mk (blk_below (g := gb522) (o := .cells #[.int .i64 a1_0, .int .i64 a1_1, .int .i64 a1_2] 36 (0, 0)) (by (with_reducible repeat (first | refine blk_drewN ?_ _ | refine blk_drew ?_ | refine blk_alloc ?_ _)); exact BK522.out) hb); have n3_ := Aside0.mk (below_step (by repeat (first | (with_reducible first | exact HB.out | apply below_alloc | apply pw_below_drewN | apply below_drew1 | refine below_set ?_ GE522.out) | exact HB.out)) hb); clear HO_5; clear HO_6; clear BK522; clear HB; have HO_5 := n0_; have HO_6 := n1_; have BK522 := n2_; have HB := n3_; clear n0_ n1_ n2_ n3_; (try clear hb); (try clear hb2); (try clear hk); (try clear hi); have hcz58_0 : w57.cell? ⟨gb522, 0, none⟩ = some (.int .i64 a1_0) := (blk_cell BK522.out 0).trans rfl; have hcz58_1 : w57.cell? ⟨gb522, 1, none⟩ = some (.int .i64 a1_1) := (blk_cell BK522.out 1).trans rfl; have hcz58_2 : w57.cell? ⟨gb522, 2, none⟩ = some (.int .i64 a1_2) := (blk_cell BK522.out 2).trans rfl; have hfz58_0 := blk_frozen BK522.out 0; have hfz58_1 := blk_frozen BK522.out 1; have hfz58_2 := blk_frozen BK522.out 2) | (go_at_call 52; (with_reducible refine (kimberliteref02_Good.calls a1_0 a1_1 a1_2 false _ A49.out).mono ?_); rintro e w59 ⟨rfl, hb⟩; have n0_ := Aside0.mk (Kd.R_below (by (with_reducible repeat (first | apply Kd.R_alloc | apply Kd.R_drewN | apply Kd.R_drew)); exact HO_5.out) hb); have n1_ := Aside0.mk (Kd.R_below (by (with_reducible repeat (first | apply Kd.R_alloc | apply Kd.R_drewN | apply Kd.R_drew)); exact HO_6.out) hb); have n2_ := Aside0.mk (blk_below (g := gb522) (o := .cells #[.int .i64 a1_0, .int .i64 a1_1, .int .i64 a1_2] 36 (0, 0)) (by (with_reducible repeat (first | refine blk_drewN ?_ _ | refine blk_drew ?_ | refine blk_alloc ?_ _)); exact BK522.out) hb); have n3_ := Aside0.mk (below_step (by repeat (first | (with_reducible first | exact HB.out | apply below_alloc | apply pw_below_drewN | apply below_drew1 | refine below_set ?_ GE522.out) | exact HB.out)) hb); clear HO_5; clear HO_6; clear BK522; clear HB; have HO_5 := n0_; have HO_6 := n1_; have BK522 := n2_; have HB := n3_; clear n0_ n1_ n2_ n3_; (try clear hb); (try clear hb2); (try clear hk); (try clear hi)) | (go_at_call 18; (with_reducible refine (kimberlitelaw02_alive.calls kj6  t544 _ A55.out).mono ?_); rintro e w60 ⟨rfl, hb⟩; have n0_ := Aside0.mk (Kd.R_below (by (with_reducible repeat (first | apply Kd.R_alloc | apply Kd.R_drewN | apply Kd.R_drew)); exact HO_5.out) hb); have n1_ := Aside0.mk (Kd.R_below (by (with_reducible repeat (first | apply Kd.R_alloc | apply Kd.R_drewN | apply Kd.R_drew)); exact HO_6.out) hb); have n2_ := Aside0.mk (blk_below (g := gb522) (o := .cells #[.int .i64 a1_0, .int .i64 a1_1, .int .i64 a1_2] 36 (0, 0)) (by (with_reducible repeat (first | refine blk_drewN ?_ _ | refine blk_drew ?_ | refine blk_alloc ?_ _)); exact BK522.out) hb); have n3_ := Aside0.mk (below_step (by repeat (first | (with_reducible first | exact HB.out | apply below_alloc | apply pw_below_drewN | apply below_drew1 | refine below_set ?_ GE522.out) | exact HB.out)) hb); clear HO_5; clear HO_6; clear BK522; clear HB; have HO_5 := n0_; have HO_6 := n1_; have BK522 := n2_; have HB := n3_; clear n0_ n1_ n2_ n3_; (try clear hb); (try clear hb2); (try clear hk); (try clear hi)))
       go_ret
       exact ⟨by first | rfl | (simp [errW_none, errW_some] <;> rfl) | (simp [*, errW_none, errW_some] <;> rfl), by repeat (first | (with_reducible first | exact HB.out | apply below_alloc | apply pw_below_drewN | apply below_drew1 | refine below_set ?_ GE522.out) | exact HB.out)⟩
     ·rw [if_neg c48] at H
      have c48b0 : (t542 == 2) = false := beq_eq_false_iff_ne.mpr c48
      have c48b1 : (t542 != 2) = true := bne_iff_ne.mpr c48
      obtain rfl := Option.some.inj H
      have hcz61_0 : wc.cell? ⟨gb522, 0, none⟩ = some (.int .i64 a1_0) := (blk_cell BK522.out 0).trans rfl
      have hcz61_1 : wc.cell? ⟨gb522, 1, none⟩ = some (.int .i64 a1_1) := (blk_cell BK522.out 1).trans rfl
      have hcz61_2 : wc.cell? ⟨gb522, 2, none⟩ = some (.int .i64 a1_2) := (blk_cell BK522.out 2).trans rfl
      have hfz61_0 := blk_frozen BK522.out 0
      have hfz61_1 := blk_frozen BK522.out 1
      have hfz61_2 := blk_frozen BK522.out 2
      go_wp2_with (first | ((with_reducible refine gate_callee (f := 51) rfl ?_); refine goesL_ (some 62) rfl rfl Try.func51 (by kernel_rfl) rfl #[.slice Ao10 t523.length co10, .agg #[.int .i64 a1_0, .int .i64 a1_1, .int .i64 a1_2]] rfl (by (try simp only [List.map_toArray, List.map_cons, List.map_nil]); first | done | rfl | (simp only [List.length_drop, List.length_take]; rfl)) ?_; (with_reducible refine (grade_In.calls kj6 _ _ t523 a1_0 a1_1 a1_2 t541 t542 _ ?side1 ?side2 A28.out).mono ?_); (case side1 => repeat (first | exact (Kd.R_reads' HO_5.out).2.2 | (with_reducible refine Kd.C_alloc ?_ _) | (with_reducible refine Kd.C_drewN ?_ _) | (with_reducible refine Kd.C_drew ?_))); (case side2 => exact (Kd.R_reads' HO_5.out).2.1); rintro e w62 ⟨rfl, hb⟩; refine ⟨_, rfl, ?_⟩; have n0_ := Aside0.mk (Kd.R_below (by (with_reducible repeat (first | apply Kd.R_alloc | apply Kd.R_drewN | apply Kd.R_drew)); exact HO_5.out) hb); have n1_ := Aside0.mk (Kd.R_below (by (with_reducible repeat (first | apply Kd.R_alloc | apply Kd.R_drewN | apply Kd.R_drew)); exact HO_6.out) hb); have n2_ := Aside0.mk (blk_below (g := gb522) (o := .cells #[.int .i64 a1_0, .int .i64 a1_1, .int .i64 a1_2] 36 (0, 0)) (by (with_reducible repeat (first | refine blk_drewN ?_ _ | refine blk_drew ?_ | refine blk_alloc ?_ _)); exact BK522.out) hb); have n3_ := Aside0.mk (below_step (by repeat (first | (with_reducible first | exact HB.out | apply below_alloc | apply pw_below_drewN | apply below_drew1 | refine below_set ?_ GE522.out) | exact HB.out)) hb); clear HO_5; clear HO_6; clear BK522; clear HB; have HO_5 := n0_; have HO_6 := n1_; have BK522 := n2_; have HB := n3_; clear n0_ n1_ n2_ n3_; (try clear hb); (try clear hb2); (try clear hk); (try clear hi)))
      go_ret
      exact ⟨by first | rfl | (simp [errW_none, errW_some] <;> rfl) | (simp [*, errW_none, errW_some] <;> rfl), by repeat (first | (with_reducible first | exact HB.out | apply below_alloc | apply pw_below_drewN | apply below_drew1 | refine below_set ?_ GE522.out) | exact HB.out)⟩
end Go.Proofs.Ytnbdfmdjedakcaa.PP
