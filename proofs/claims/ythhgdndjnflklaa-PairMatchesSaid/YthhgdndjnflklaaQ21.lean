-- PRINTED by print.py (a twelfth state) out of the translation. Not trusted: Lean checks it.
import Derived.Test.YthhgdndjnflklaaQ0
import Derived.Test.YthhgdndjnflklaaQ17
import Derived.Test.YthhgdndjnflklaaExt
namespace Go.Proofs.Ythhgdndjnflklaa.PP
open Go.RowKit Go.Proofs.YthhgdndjnflklaaW.PrintWords Go.Proofs.YthhgdndjnflklaaW.PrintLast Go.Proofs.YthhgdndjnflklaaW.PrintMore
attribute [local go_sem] max2_int min2_int max_two min_two max_three min_three max_four min_four   -- for this text's walks alone
set_option linter.unusedVariables false
set_option linter.unusedSimpArgs false

/-! ### kimberliteref04_Pairs: function 20 -/
def kimberliteref04_Pairs.l0 : Nat → Int → List Int → List (List Bool) → Int → Int → Option (Int × Bool)
  | 0, _, _, _, _, _ => none
  | k + 1, x0, x2, x8, x9, x10 => if x10 < x0 then (if 0 ≤ x10 then (if x10 < (x2.length : Int) then (if (rd x2 x10) = x0 then (kimberliteref04_Pairs.l0 k x0 x2 x8 x9 (wrap64 (x10 + 1))) else (if (rd x2 x10) < 0 then (some (0, false)) else (if (rd x2 x10) > x0 then (some (0, false)) else (if x10 < (x8.length : Int) then (if 0 ≤ (rd x2 x10) then (if (rd x2 x10) < ((rd_L5 x8 x10).length : Int) then (if (rdOf false (rd_L5 x8 x10) (rd x2 x10) = true) then (if (rd x2 x10) < (x2.length : Int) then (if (rd x2 (rd x2 x10)) = x10 then (kimberliteref04_Pairs.l0 k x0 x2 x8 (wrap64 (x9 + 1)) (wrap64 (x10 + 1))) else (some (0, false))) else (none)) else (some (0, false))) else (none)) else (none)) else (none))))) else (none)) else (none)) else (some (wrap64 (Int.tdiv x9 2), true))
def kimberliteref04_Pairs.f (k : Nat) (a0 : Int) (l1 : List (S41)) (l2 : List Int) : Option (Int × Bool) := if (l2.length : Int) = a0 then ((kimberliteref04_Near.f k a0 l1).bind fun t192 => (kimberliteref04_Pairs.l0 k a0 l2 t192 0 0)) else (some (0, false))
theorem kimberliteref04_Pairs.mono_l : ∀ k, (∀ y0 y1 y2 y3 y4, LeO (kimberliteref04_Pairs.l0 k y0 y1 y2 y3 y4) (kimberliteref04_Pairs.l0 (k + 1) y0 y1 y2 y3 y4))
  | 0 => fun _ _ _ _ _ r h => by simp [kimberliteref04_Pairs.l0] at h
  | k + 1 => by
    have ih0 := kimberliteref04_Pairs.mono_l k
    · intro y0 y1 y2 y3 y4
      unfold kimberliteref04_Pairs.l0
      repeat' first
      | (with_reducible exact ih0 _ _ _ _ _)
      | (with_reducible exact kimberliteref04_Near.mono _ _ _)
      | (with_reducible exact LeO.refl _)
      | (with_reducible exact LeO.none _)
      | (with_reducible refine LeO.ite ?_ ?_)
      | (with_reducible refine LeO.bind ?_ (fun _ => ?_))
      | exact ih0 _ _ _ _ _
      | exact kimberliteref04_Near.mono _ _ _
      | exact LeO.none _
      | refine LeO.ite ?_ ?_
      | refine LeO.bind ?_ (fun _ => ?_)
theorem kimberliteref04_Pairs.mono : ∀ a0 a1 a2 k, LeO (kimberliteref04_Pairs.f k a0 a1 a2) (kimberliteref04_Pairs.f (k + 1) a0 a1 a2) := by
  intro a0 a1 a2 k
  have ih0 := kimberliteref04_Pairs.mono_l k
  unfold kimberliteref04_Pairs.f
  repeat' first
      | (with_reducible exact ih0 _ _ _ _ _)
      | (with_reducible exact kimberliteref04_Near.mono _ _ _)
      | (with_reducible exact LeO.refl _)
      | (with_reducible exact LeO.none _)
      | (with_reducible refine LeO.ite ?_ ?_)
      | (with_reducible refine LeO.bind ?_ (fun _ => ?_))
      | exact ih0 _ _ _ _ _
      | exact kimberliteref04_Near.mono _ _ _
      | exact LeO.none _
      | refine LeO.ite ?_ ?_
      | refine LeO.bind ?_ (fun _ => ?_)
set_option maxHeartbeats 8000000 in
set_option maxRecDepth 100000 in
theorem kimberliteref04_Pairs.calls (k : Nat) (a0 : Int) (A1 : Option Addr) (c1 : Nat) (l1 : List (S41)) (A2 : Option Addr) (c2 : Nat) (l2 : List Int) (r1 : Int) (r2 : Bool) (w : World) (hr1 : Kd.C k41 w A1 l1.length l1) (hc1 : l1.length ≤ c1) (hr2 : Kd.C (Kd.int .i64) w A2 l2.length l2) (hc2 : l2.length ≤ c2) (h : kimberliteref04_Pairs.f k a0 l1 l2 = some (r1, r2)) :
    Calls Try.prog 20 #[.int .i64 a0, .slice A1 l1.length c1, .slice A2 l2.length c2] w fun e w' => e = .returned (.tuple #[.int .i64 r1, .bool r2]) ∧ Below w.heap.size w w' := by
  have HR1 := Aside0.mk hr1
  have HC1 := Aside0.mk hc1
  clear hr1 hc1
  have HR2 := Aside0.mk hr2
  have HC2 := Aside0.mk hc2
  clear hr2 hc2
  have HB := Aside0.mk (Below.refl w.heap.size w)
  have H : (if (l2.length : Int) = a0 then ((kimberliteref04_Near.f k a0 l1).bind fun t192 => (kimberliteref04_Pairs.l0 k a0 l2 t192 0 0)) else (some (0, false))) = some (r1, r2) := h
  clear h
  by_cases c4 : (l2.length : Int) = a0
  · rw [if_pos c4] at H
    have c4b0 : ((l2.length : Int) == a0) = true := beq_iff_eq.mpr c4
    have c4b1 : ((l2.length : Int) != a0) = false := bne_eq_false_iff_eq.mpr c4
    clear c4
    replace H := Option.bind_eq_some_iff.mp H
    obtain ⟨t192, A50, H⟩ := H
    replace H : (kimberliteref04_Pairs.l0 k a0 l2 t192 0 0) = some (r1, r2) := H
    have A5 := Aside0.mk A50
    clear A50
    have H' := Aside0.mk H
    clear H
    go_enter Try.func20, Try.ntmps20
    go_wp2_with (first | ((with_reducible refine gate_callee (f := 21) rfl ?_); refine goesL_ (some 18) rfl rfl Try.func21 (by kernel_rfl) rfl #[.int .i64 a0, .slice A1 l1.length c1] rfl (by (try simp only [List.map_toArray, List.map_cons, List.map_nil]); first | done | rfl | (simp only [List.length_drop, List.length_take]; rfl)) ?_; (with_reducible refine (kimberliteref04_Near.calls k a0 _ _ l1 t192 _ ?side1 ?side2 A5.out).mono ?_); (case side1 => repeat (first | exact HR1.out | (with_reducible refine Kd.C_alloc ?_ _) | (with_reducible refine Kd.C_drewN ?_ _) | (with_reducible refine Kd.C_drew ?_))); (case side2 => exact HC1.out); rintro e w6 ⟨v193, rfl, ho0, hb⟩; refine ⟨_, rfl, ?_⟩; have n0_ := Aside0.mk (Kd.S_lower ho0 (below_size (by repeat (first | (with_reducible first | exact HB.out | apply below_alloc | apply pw_below_drewN | apply below_drew1) | exact HB.out)))); have n1_ := Aside0.mk (below_step (by repeat (first | (with_reducible first | exact HB.out | apply below_alloc | apply pw_below_drewN | apply below_drew1) | exact HB.out)) hb); clear HB; have HO194 := n0_; have HB := n1_; clear n0_ n1_; (try clear hb); (try clear hb2); (try clear hk); (try clear hi); (try clear ho0)))
    go_loopg [9, 10] k (fun kq v9 v10 w' => ∃ (x9_1 : Int) (x10_1 : Int), v9 = .int .i64 x9_1 ∧ v10 = .int .i64 x10_1 ∧ Aside0 (kimberliteref04_Pairs.l0 kq a0 l2 t192 x9_1 x10_1 = some (r1, r2)) ∧ Aside0 (kq ≤ k) ∧ Aside0 (Kd.S (Kd.slice 4 Kd.bool) 39 w' w.heap.size (fun _ => True) v193 t192) ∧ Aside0 (Below w.heap.size w w'))
    case atStart => exact ⟨(0), (0), (by first | rfl | (simp; done) | (simp [*]; done)), (by first | rfl | (simp; done) | (simp [*]; done)), H', ⟨Nat.le_refl _⟩, ⟨by (with_reducible repeat (first | apply Kd.S_alloc | apply Kd.S_drewN | apply Kd.S_drew)); exact HO194.out⟩, ⟨by repeat (first | (with_reducible first | exact HB.out | apply below_alloc | apply pw_below_drewN | apply below_drew1) | exact HB.out)⟩⟩
    case round =>
      clear H'
      try clear c1
      try clear c2
      try clear p2
      try clear c4
      try clear c4b0
      try clear c4b1
      obtain ⟨x9_1, x10_1, rfl, rfl, HA, HK1, HO_8, HB⟩ := hrel
      cases gk with
      | zero => exact absurd HA.out (by simp [kimberliteref04_Pairs.l0])
      | succ k1 =>
        have H := HA.out
        clear HA
        simp only [kimberliteref04_Pairs.l0] at H
        by_cases c7 : x10_1 < a0
        · rw [if_pos c7] at H
          have c7b0 : decide (x10_1 < a0) = true := decide_eq_true c7
          clear c7
          by_cases c8 : 0 ≤ x10_1
          · rw [if_pos c8] at H
            have c8b0 : decide (0 ≤ x10_1) = true := decide_eq_true c8
            clear c8
            by_cases c9 : x10_1 < (l2.length : Int)
            · rw [if_pos c9] at H
              have c9b0 : decide (x10_1 < (l2.length : Int)) = true := decide_eq_true c9
              clear c9
              by_cases c10 : (rd l2 x10_1) = a0
              · rw [if_pos c10] at H
                have c10b0 : ((rd l2 x10_1) == a0) = true := beq_iff_eq.mpr c10
                have c10b1 : ((rd l2 x10_1) != a0) = false := bne_eq_false_iff_eq.mpr c10
                clear c10
                have H' := Aside0.mk H
                clear H
                have p195 : 0 ≤ (x10_1 : Int) := of_decide_eq_true (by first | (with_reducible assumption) | assumption)
                have q195 : x10_1 < (l2.length : Int) := of_decide_eq_true (by first | (with_reducible assumption) | assumption)
                obtain ⟨ad195, e195, hx195_0⟩ := Kd.at_int HR2.out x10_1 p195 q195
                cases e195
                replace hx195_0 := (HB.out.cell (World.block_lt_of_cell? w _ hx195_0)).trans hx195_0
                replace p195 := eq_true p195
                replace q195 := eq_true q195
                go_wp2
                go_roundg k1
                case measure => have := HK1.out; omega
                case rel => exact ⟨(x9_1), (wrap64 (x10_1 + 1)), (by first | rfl | (simp; done) | (simp [*]; done)), (by first | rfl | (simp; done) | (simp [*]; done)), H', ⟨by have := HK1.out; omega⟩, ⟨by (with_reducible repeat (first | apply Kd.S_alloc | apply Kd.S_drewN | apply Kd.S_drew)); exact HO_8.out⟩, ⟨by repeat (first | (with_reducible first | exact HB.out | apply below_alloc | apply pw_below_drewN | apply below_drew1) | exact HB.out)⟩⟩
              · rw [if_neg c10] at H
                have c10b0 : ((rd l2 x10_1) == a0) = false := beq_eq_false_iff_ne.mpr c10
                have c10b1 : ((rd l2 x10_1) != a0) = true := bne_iff_ne.mpr c10
                by_cases c11 : (rd l2 x10_1) < 0
                · rw [if_pos c11] at H
                  have c11b0 : decide ((rd l2 x10_1) < 0) = true := decide_eq_true c11
                  clear c11
                  simp only [Option.some.injEq, Prod.mk.injEq] at H
                  obtain ⟨rfl, rfl⟩ := H
                  have p195 : 0 ≤ (x10_1 : Int) := of_decide_eq_true (by first | (with_reducible assumption) | assumption)
                  have q195 : x10_1 < (l2.length : Int) := of_decide_eq_true (by first | (with_reducible assumption) | assumption)
                  obtain ⟨ad195, e195, hx195_0⟩ := Kd.at_int HR2.out x10_1 p195 q195
                  cases e195
                  replace hx195_0 := (HB.out.cell (World.block_lt_of_cell? w _ hx195_0)).trans hx195_0
                  replace p195 := eq_true p195
                  replace q195 := eq_true q195
                  go_wp2
                  go_ret2
                  exact ⟨by first | rfl | (simp [errW_none, errW_some] <;> rfl) | (simp [*, errW_none, errW_some] <;> rfl), by repeat (first | (with_reducible first | exact HB.out | apply below_alloc | apply pw_below_drewN | apply below_drew1) | exact HB.out)⟩
                · rw [if_neg c11] at H
                  have c11b0 : decide ((rd l2 x10_1) < 0) = false := decide_eq_false c11
                  clear c11
                  by_cases c12 : (rd l2 x10_1) > a0
                  · rw [if_pos c12] at H
                    have c12b0 : decide (a0 < (rd l2 x10_1)) = true := decide_eq_true c12
                    clear c12
                    simp only [Option.some.injEq, Prod.mk.injEq] at H
                    obtain ⟨rfl, rfl⟩ := H
                    have p195 : 0 ≤ (x10_1 : Int) := of_decide_eq_true (by first | (with_reducible assumption) | assumption)
                    have q195 : x10_1 < (l2.length : Int) := of_decide_eq_true (by first | (with_reducible assumption) | assumption)
                    obtain ⟨ad195, e195, hx195_0⟩ := Kd.at_int HR2.out x10_1 p195 q195
                    cases e195
                    replace hx195_0 := (HB.out.cell (World.block_lt_of_cell? w _ hx195_0)).trans hx195_0
                    replace p195 := eq_true p195
                    replace q195 := eq_true q195
                    go_wp2
                    go_ret2
                    exact ⟨by first | rfl | (simp [errW_none, errW_some] <;> rfl) | (simp [*, errW_none, errW_some] <;> rfl), by repeat (first | (with_reducible first | exact HB.out | apply below_alloc | apply pw_below_drewN | apply below_drew1) | exact HB.out)⟩
                  · rw [if_neg c12] at H
                    have c12b0 : decide (a0 < (rd l2 x10_1)) = false := decide_eq_false c12
                    clear c12
                    by_cases c13 : x10_1 < (t192.length : Int)
                    · rw [if_pos c13] at H
                      have c13b0 : decide (x10_1 < (t192.length : Int)) = true := decide_eq_true c13
                      clear c13
                      by_cases c14 : 0 ≤ (rd l2 x10_1)
                      · rw [if_pos c14] at H
                        have c14b0 : decide (0 ≤ (rd l2 x10_1)) = true := decide_eq_true c14
                        clear c14
                        by_cases c15 : (rd l2 x10_1) < ((rd_L5 t192 x10_1).length : Int)
                        · rw [if_pos c15] at H
                          have c15b0 : decide ((rd l2 x10_1) < ((rd_L5 t192 x10_1).length : Int)) = true := decide_eq_true c15
                          clear c15
                          obtain ⟨bq16, hbq16⟩ : ∃ b_ : Bool, b_ = (rdOf false (rd_L5 t192 x10_1) (rd l2 x10_1)) := ⟨_, rfl⟩
                          replace H : (if (bq16 = true) then (if (rd l2 x10_1) < (l2.length : Int) then (if (rd l2 (rd l2 x10_1)) = x10_1 then (kimberliteref04_Pairs.l0 k1 a0 l2 t192 (wrap64 (x9_1 + 1)) (wrap64 (x10_1 + 1))) else (some (0, false))) else (none)) else (some (0, false))) = some (r1, r2) := by rw [← hbq16] at H; exact H
                          have Nbq16 := Aside0.mk hbq16
                          clear hbq16
                          by_cases c17 : (bq16 = true)
                          · subst c17
                            have H1 : (if (rd l2 x10_1) < (l2.length : Int) then (if (rd l2 (rd l2 x10_1)) = x10_1 then (kimberliteref04_Pairs.l0 k1 a0 l2 t192 (wrap64 (x9_1 + 1)) (wrap64 (x10_1 + 1))) else (some (0, false))) else (none)) = some (r1, r2) := by rw [if_pos rfl] at H; exact H
                            clear H
                            have H := H1
                            clear H1
                            by_cases c18 : (rd l2 x10_1) < (l2.length : Int)
                            · rw [if_pos c18] at H
                              have c18b0 : decide ((rd l2 x10_1) < (l2.length : Int)) = true := decide_eq_true c18
                              clear c18
                              by_cases c19 : (rd l2 (rd l2 x10_1)) = x10_1
                              · rw [if_pos c19] at H
                                have c19b0 : ((rd l2 (rd l2 x10_1)) == x10_1) = true := beq_iff_eq.mpr c19
                                have c19b1 : ((rd l2 (rd l2 x10_1)) != x10_1) = false := bne_eq_false_iff_eq.mpr c19
                                clear c19
                                have H' := Aside0.mk H
                                clear H
                                have p195 : 0 ≤ (x10_1 : Int) := of_decide_eq_true (by first | (with_reducible assumption) | assumption)
                                have q195 : x10_1 < (l2.length : Int) := of_decide_eq_true (by first | (with_reducible assumption) | assumption)
                                obtain ⟨ad195, e195, hx195_0⟩ := Kd.at_int HR2.out x10_1 p195 q195
                                cases e195
                                replace hx195_0 := (HB.out.cell (World.block_lt_of_cell? w _ hx195_0)).trans hx195_0
                                replace p195 := eq_true p195
                                replace q195 := eq_true q195
                                obtain ⟨Ao20, co20, eo20⟩ := Kd.S_slice HO_8.out
                                subst eo20
                                have p196 : 0 ≤ (x10_1 : Int) := of_decide_eq_true (by first | (with_reducible assumption) | assumption)
                                have q196 : x10_1 < (t192.length : Int) := of_decide_eq_true (by first | (with_reducible assumption) | assumption)
                                obtain ⟨ad196, A196_0, c196_0, e196, hx196_0, hl196_0, hi196_0⟩ := at_L5 (Kd.S_reads' HO_8.out).2.2 x10_1 p196 q196
                                cases e196
                                obtain ⟨ce196, hce196, hMe196, hcc196⟩ := Kd.S_get HO_8.out [] x10_1 p196 (by first | exact q196 | exact of_decide_eq_true (by first | (with_reducible assumption) | assumption) | (have e_ := (Kd.S_reads' HO_8.out).1; omega))
                                obtain ⟨ve196_0, rfl, ge196_0⟩ := hMe196
                                have hv196_0 := hcc196 0 _ rfl
                                rw [Nat.add_zero, show ((Kd.slice 4 Kd.bool)).sz = 1 from rfl, Nat.mul_one] at hv196_0
                                replace hv196_0 := Option.some.inj (hv196_0.symm.trans hx196_0)
                                rw [hv196_0] at ge196_0
                                have HL196_0 := Aside0.mk (show Kd.R Kd.bool 4 _ _ _ _ (rd_L5 t192 x10_1) from ge196_0)
                                clear hv196_0 ge196_0
                                clear hcc196 hce196
                                have HR196_0 := Aside0.mk hi196_0
                                have HC196_0 := Aside0.mk hl196_0
                                clear hi196_0 hl196_0
                                replace p196 := eq_true p196
                                replace q196 := eq_true q196
                                have p197 : 0 ≤ ((rd l2 x10_1) : Int) := of_decide_eq_true (by first | (with_reducible assumption) | assumption)
                                have q197 : (rd l2 x10_1) < ((rd_L5 t192 x10_1).length : Int) := of_decide_eq_true (by first | (with_reducible assumption) | assumption)
                                obtain ⟨ad197, e197, hx197_0⟩ := Kd.at_bool (by repeat (first | (with_reducible exact HR196_0.out) | (with_reducible refine Kd.C_alloc ?_ _) | (with_reducible refine Kd.C_drewN ?_ _) | (with_reducible refine Kd.C_drew ?_) | exact HR196_0.out)) (rd l2 x10_1) p197 q197
                                (try rw [← Nbq16.out] at hx197_0)
                                cases e197
                                replace p197 := eq_true p197
                                replace q197 := eq_true q197
                                have p198 : 0 ≤ ((rd l2 x10_1) : Int) := of_decide_eq_true (by first | (with_reducible assumption) | assumption)
                                have q198 : (rd l2 x10_1) < (l2.length : Int) := of_decide_eq_true (by first | (with_reducible assumption) | assumption)
                                obtain ⟨ad198, e198, hx198_0⟩ := Kd.at_int HR2.out (rd l2 x10_1) p198 q198
                                obtain rfl : ad195 = ad198 := (by injection e198)
                                replace hx198_0 := (HB.out.cell (World.block_lt_of_cell? w _ hx198_0)).trans hx198_0
                                replace p198 := eq_true p198
                                replace q198 := eq_true q198
                                go_wp2
                                go_roundg k1
                                case measure => have := HK1.out; omega
                                case rel => exact ⟨(wrap64 (x9_1 + 1)), (wrap64 (x10_1 + 1)), (by first | rfl | (simp; done) | (simp [*]; done)), (by first | rfl | (simp; done) | (simp [*]; done)), H', ⟨by have := HK1.out; omega⟩, ⟨by (with_reducible repeat (first | apply Kd.S_alloc | apply Kd.S_drewN | apply Kd.S_drew)); exact HO_8.out⟩, ⟨by repeat (first | (with_reducible first | exact HB.out | apply below_alloc | apply pw_below_drewN | apply below_drew1) | exact HB.out)⟩⟩
                              · rw [if_neg c19] at H
                                have c19b0 : ((rd l2 (rd l2 x10_1)) == x10_1) = false := beq_eq_false_iff_ne.mpr c19
                                have c19b1 : ((rd l2 (rd l2 x10_1)) != x10_1) = true := bne_iff_ne.mpr c19
                                simp only [Option.some.injEq, Prod.mk.injEq] at H
                                obtain ⟨rfl, rfl⟩ := H
                                have p195 : 0 ≤ (x10_1 : Int) := of_decide_eq_true (by first | (with_reducible assumption) | assumption)
                                have q195 : x10_1 < (l2.length : Int) := of_decide_eq_true (by first | (with_reducible assumption) | assumption)
                                obtain ⟨ad195, e195, hx195_0⟩ := Kd.at_int HR2.out x10_1 p195 q195
                                cases e195
                                replace hx195_0 := (HB.out.cell (World.block_lt_of_cell? w _ hx195_0)).trans hx195_0
                                replace p195 := eq_true p195
                                replace q195 := eq_true q195
                                obtain ⟨Ao21, co21, eo21⟩ := Kd.S_slice HO_8.out
                                subst eo21
                                have p196 : 0 ≤ (x10_1 : Int) := of_decide_eq_true (by first | (with_reducible assumption) | assumption)
                                have q196 : x10_1 < (t192.length : Int) := of_decide_eq_true (by first | (with_reducible assumption) | assumption)
                                obtain ⟨ad196, A196_0, c196_0, e196, hx196_0, hl196_0, hi196_0⟩ := at_L5 (Kd.S_reads' HO_8.out).2.2 x10_1 p196 q196
                                cases e196
                                obtain ⟨ce196, hce196, hMe196, hcc196⟩ := Kd.S_get HO_8.out [] x10_1 p196 (by first | exact q196 | exact of_decide_eq_true (by first | (with_reducible assumption) | assumption) | (have e_ := (Kd.S_reads' HO_8.out).1; omega))
                                obtain ⟨ve196_0, rfl, ge196_0⟩ := hMe196
                                have hv196_0 := hcc196 0 _ rfl
                                rw [Nat.add_zero, show ((Kd.slice 4 Kd.bool)).sz = 1 from rfl, Nat.mul_one] at hv196_0
                                replace hv196_0 := Option.some.inj (hv196_0.symm.trans hx196_0)
                                rw [hv196_0] at ge196_0
                                have HL196_0 := Aside0.mk (show Kd.R Kd.bool 4 _ _ _ _ (rd_L5 t192 x10_1) from ge196_0)
                                clear hv196_0 ge196_0
                                clear hcc196 hce196
                                have HR196_0 := Aside0.mk hi196_0
                                have HC196_0 := Aside0.mk hl196_0
                                clear hi196_0 hl196_0
                                replace p196 := eq_true p196
                                replace q196 := eq_true q196
                                have p197 : 0 ≤ ((rd l2 x10_1) : Int) := of_decide_eq_true (by first | (with_reducible assumption) | assumption)
                                have q197 : (rd l2 x10_1) < ((rd_L5 t192 x10_1).length : Int) := of_decide_eq_true (by first | (with_reducible assumption) | assumption)
                                obtain ⟨ad197, e197, hx197_0⟩ := Kd.at_bool (by repeat (first | (with_reducible exact HR196_0.out) | (with_reducible refine Kd.C_alloc ?_ _) | (with_reducible refine Kd.C_drewN ?_ _) | (with_reducible refine Kd.C_drew ?_) | exact HR196_0.out)) (rd l2 x10_1) p197 q197
                                (try rw [← Nbq16.out] at hx197_0)
                                cases e197
                                replace p197 := eq_true p197
                                replace q197 := eq_true q197
                                have p198 : 0 ≤ ((rd l2 x10_1) : Int) := of_decide_eq_true (by first | (with_reducible assumption) | assumption)
                                have q198 : (rd l2 x10_1) < (l2.length : Int) := of_decide_eq_true (by first | (with_reducible assumption) | assumption)
                                obtain ⟨ad198, e198, hx198_0⟩ := Kd.at_int HR2.out (rd l2 x10_1) p198 q198
                                obtain rfl : ad195 = ad198 := (by injection e198)
                                replace hx198_0 := (HB.out.cell (World.block_lt_of_cell? w _ hx198_0)).trans hx198_0
                                replace p198 := eq_true p198
                                replace q198 := eq_true q198
                                go_wp2
                                go_ret2
                                exact ⟨by first | rfl | (simp [errW_none, errW_some] <;> rfl) | (simp [*, errW_none, errW_some] <;> rfl), by repeat (first | (with_reducible first | exact HB.out | apply below_alloc | apply pw_below_drewN | apply below_drew1) | exact HB.out)⟩
                            · rw [if_neg c18] at H
                              exact absurd H (by simp)
                          · replace c17 := Bool.eq_false_iff.mpr c17
                            subst c17
                            have H1 : (some (0, false)) = some (r1, r2) := by rw [if_neg (show ¬ (false = true) by decide)] at H; exact H
                            clear H
                            have H := H1
                            clear H1
                            simp only [Option.some.injEq, Prod.mk.injEq] at H
                            obtain ⟨rfl, rfl⟩ := H
                            have p195 : 0 ≤ (x10_1 : Int) := of_decide_eq_true (by first | (with_reducible assumption) | assumption)
                            have q195 : x10_1 < (l2.length : Int) := of_decide_eq_true (by first | (with_reducible assumption) | assumption)
                            obtain ⟨ad195, e195, hx195_0⟩ := Kd.at_int HR2.out x10_1 p195 q195
                            cases e195
                            replace hx195_0 := (HB.out.cell (World.block_lt_of_cell? w _ hx195_0)).trans hx195_0
                            replace p195 := eq_true p195
                            replace q195 := eq_true q195
                            obtain ⟨Ao22, co22, eo22⟩ := Kd.S_slice HO_8.out
                            subst eo22
                            have p196 : 0 ≤ (x10_1 : Int) := of_decide_eq_true (by first | (with_reducible assumption) | assumption)
                            have q196 : x10_1 < (t192.length : Int) := of_decide_eq_true (by first | (with_reducible assumption) | assumption)
                            obtain ⟨ad196, A196_0, c196_0, e196, hx196_0, hl196_0, hi196_0⟩ := at_L5 (Kd.S_reads' HO_8.out).2.2 x10_1 p196 q196
                            cases e196
                            obtain ⟨ce196, hce196, hMe196, hcc196⟩ := Kd.S_get HO_8.out [] x10_1 p196 (by first | exact q196 | exact of_decide_eq_true (by first | (with_reducible assumption) | assumption) | (have e_ := (Kd.S_reads' HO_8.out).1; omega))
                            obtain ⟨ve196_0, rfl, ge196_0⟩ := hMe196
                            have hv196_0 := hcc196 0 _ rfl
                            rw [Nat.add_zero, show ((Kd.slice 4 Kd.bool)).sz = 1 from rfl, Nat.mul_one] at hv196_0
                            replace hv196_0 := Option.some.inj (hv196_0.symm.trans hx196_0)
                            rw [hv196_0] at ge196_0
                            have HL196_0 := Aside0.mk (show Kd.R Kd.bool 4 _ _ _ _ (rd_L5 t192 x10_1) from ge196_0)
                            clear hv196_0 ge196_0
                            clear hcc196 hce196
                            have HR196_0 := Aside0.mk hi196_0
                            have HC196_0 := Aside0.mk hl196_0
                            clear hi196_0 hl196_0
                            replace p196 := eq_true p196
                            replace q196 := eq_true q196
                            have p197 : 0 ≤ ((rd l2 x10_1) : Int) := of_decide_eq_true (by first | (with_reducible assumption) | assumption)
                            have q197 : (rd l2 x10_1) < ((rd_L5 t192 x10_1).length : Int) := of_decide_eq_true (by first | (with_reducible assumption) | assumption)
                            obtain ⟨ad197, e197, hx197_0⟩ := Kd.at_bool (by repeat (first | (with_reducible exact HR196_0.out) | (with_reducible refine Kd.C_alloc ?_ _) | (with_reducible refine Kd.C_drewN ?_ _) | (with_reducible refine Kd.C_drew ?_) | exact HR196_0.out)) (rd l2 x10_1) p197 q197
                            (try rw [← Nbq16.out] at hx197_0)
                            cases e197
                            replace p197 := eq_true p197
                            replace q197 := eq_true q197
                            go_wp2
                            go_ret2
                            exact ⟨by first | rfl | (simp [errW_none, errW_some] <;> rfl) | (simp [*, errW_none, errW_some] <;> rfl), by repeat (first | (with_reducible first | exact HB.out | apply below_alloc | apply pw_below_drewN | apply below_drew1) | exact HB.out)⟩
                        · rw [if_neg c15] at H
                          exact absurd H (by simp)
                      · rw [if_neg c14] at H
                        exact absurd H (by simp)
                    · rw [if_neg c13] at H
                      exact absurd H (by simp)
            · rw [if_neg c9] at H
              exact absurd H (by simp)
          · rw [if_neg c8] at H
            exact absurd H (by simp)
        · rw [if_neg c7] at H
          have c7b0 : decide (x10_1 < a0) = false := decide_eq_false c7
          clear c7
          simp only [Option.some.injEq, Prod.mk.injEq] at H
          obtain ⟨rfl, rfl⟩ := H
          go_wp2
          go_ret2
          exact ⟨by first | rfl | (simp [errW_none, errW_some] <;> rfl) | (simp [*, errW_none, errW_some] <;> rfl), by repeat (first | (with_reducible first | exact HB.out | apply below_alloc | apply pw_below_drewN | apply below_drew1) | exact HB.out)⟩
  · rw [if_neg c4] at H
    have c4b0 : ((l2.length : Int) == a0) = false := beq_eq_false_iff_ne.mpr c4
    have c4b1 : ((l2.length : Int) != a0) = true := bne_iff_ne.mpr c4
    simp only [Option.some.injEq, Prod.mk.injEq] at H
    obtain ⟨rfl, rfl⟩ := H
    go_enter Try.func20, Try.ntmps20
    go_wp2
    go_ret2
    exact ⟨by first | rfl | (simp [errW_none, errW_some] <;> rfl) | (simp [*, errW_none, errW_some] <;> rfl), by repeat (first | (with_reducible first | exact HB.out | apply below_alloc | apply pw_below_drewN | apply below_drew1) | exact HB.out)⟩

end Go.Proofs.Ythhgdndjnflklaa.PP
