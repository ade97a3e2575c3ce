/- The law PairGallai's code comes to what its printed function says: the printed walk, with its parts as lemmas of their own. No conditions. -/
import Derived.Test.YthhgdndjnflklaaQ22
namespace Go.Proofs.Ythhgdndjnflklaa.PP
open Go.RowKit Go.Proofs.YthhgdndjnflklaaW.PrintWords Go.Proofs.YthhgdndjnflklaaW.PrintLast Go.Proofs.YthhgdndjnflklaaW.PrintMore
attribute [local go_sem] max2_int min2_int max_two min_two max_three min_three max_four min_four   -- for this text's walks alone
set_option linter.unusedVariables false
set_option linter.unusedSimpArgs false

/-! ### kimberlitelaw04_PairGallai: function 4 -/
set_option maxHeartbeats 8000000 in
set_option maxRecDepth 100000 in
theorem kimberlitelaw04_PairGallai.calls (k : Nat) (a0 : Int) (A1 : Option Addr) (c1 : Nat) (l1 : List (S41)) (r : Bool) (w : World) (hr1 : Kd.C k41 w A1 l1.length l1) (hc1 : l1.length ≤ c1) (h : kimberlitelaw04_PairGallai.f k a0 l1 = some r) :
  Calls Try.prog 4 #[.int .i64 a0, .slice A1 l1.length c1] w fun e w' => e = .returned (.bool r) ∧ Below w.heap.size w w' := by
 have HR1 := Aside0.mk hr1
 have HC1 := Aside0.mk hc1
 clear hr1 hc1
 have HB := Aside0.mk (Below.refl w.heap.size w)
 have H : ((kimberlitelaw04_few.f l1 ([] : List Int)).bind fun t199 => (if t199 = true then ((pair_Match.f a0 l1).bind fun bt201 => ((pair_Parts.f a0 l1).bind fun bt206 => (if bt201.2.2 = 0 then (kimberlitelaw04_PairGallai.j0 k a0 l1 bt201.1 bt201.2.2 bt206.1 bt206.2 (bt206.2 != 0)) else (kimberlitelaw04_PairGallai.j0 k a0 l1 bt201.1 bt201.2.2 bt206.1 bt206.2 true)))) else ((kimberlitelaw04_alive.f k).bind fun t200 => (some t200)))) = some r := h
 clear h
 replace H := Option.bind_eq_some_iff.mp H
 obtain ⟨t199, A30, H⟩ := H
 replace H : (if t199 = true then ((pair_Match.f a0 l1).bind fun bt201 => ((pair_Parts.f a0 l1).bind fun bt206 => (if bt201.2.2 = 0 then (kimberlitelaw04_PairGallai.j0 k a0 l1 bt201.1 bt201.2.2 bt206.1 bt206.2 (bt206.2 != 0)) else (kimberlitelaw04_PairGallai.j0 k a0 l1 bt201.1 bt201.2.2 bt206.1 bt206.2 true)))) else ((kimberlitelaw04_alive.f k).bind fun t200 => (some t200))) = some r := H
 have A3 := Aside0.mk A30
 clear A30
 by_cases c4 : t199 = true
 ·subst c4
  have H1 : ((pair_Match.f a0 l1).bind fun bt201 => ((pair_Parts.f a0 l1).bind fun bt206 => (if bt201.2.2 = 0 then (kimberlitelaw04_PairGallai.j0 k a0 l1 bt201.1 bt201.2.2 bt206.1 bt206.2 (bt206.2 != 0)) else (kimberlitelaw04_PairGallai.j0 k a0 l1 bt201.1 bt201.2.2 bt206.1 bt206.2 true)))) = some r := by rw [if_pos rfl] at H; exact H
  clear H
  have H := H1
  clear H1
  replace H := Option.bind_eq_some_iff.mp H
  obtain ⟨⟨t201, t202, t203⟩, A50, H⟩ := H
  replace H : ((pair_Parts.f a0 l1).bind fun bt206 => (if t203 = 0 then (kimberlitelaw04_PairGallai.j0 k a0 l1 t201 t203 bt206.1 bt206.2 (bt206.2 != 0)) else (kimberlitelaw04_PairGallai.j0 k a0 l1 t201 t203 bt206.1 bt206.2 true))) = some r := H
  have A5 := Aside0.mk A50
  clear A50
  replace H := Option.bind_eq_some_iff.mp H
  obtain ⟨⟨t206, t207⟩, A60, H⟩ := H
  replace H : (if t203 = 0 then (kimberlitelaw04_PairGallai.j0 k a0 l1 t201 t203 t206 t207 (t207 != 0)) else (kimberlitelaw04_PairGallai.j0 k a0 l1 t201 t203 t206 t207 true)) = some r := H
  have A6 := Aside0.mk A60
  clear A60
  have HC7 := Aside0.mk H
  clear H
  go_enter Try.func4, Try.ntmps4
  go_upto_region 5 with (first | ((with_reducible refine gate_callee (f := 13) rfl ?_); refine goesL_ (some 22) rfl rfl Try.func13 (by kernel_rfl) rfl #[.slice A1 l1.length c1, .slice none 0 0] rfl (by (try simp only [List.map_toArray, List.map_cons, List.map_nil]); first | done | rfl | (simp only [List.length_drop, List.length_take]; rfl)) ?_; (refine (kimberlitelaw04_few.calls _ _ l1 _ _ ([] : List Int) true _ ?side1 ?side2 ?side3 ?side4 A3.out).mono ?_); (case side1 => repeat (first | exact HR1.out | (with_reducible refine Kd.C_alloc ?_ _) | (with_reducible refine Kd.C_drewN ?_ _) | (with_reducible refine Kd.C_drew ?_))); (case side2 => exact HC1.out); (case side3 => exact Kd.C_nil _ _); (case side4 => exact Nat.le_refl _); rintro e w' ⟨rfl, ⟨nd, rfl⟩⟩; refine ⟨_, rfl, ?_⟩) | ((with_reducible refine gate_callee (f := 19) rfl ?_); refine goesL_ (some 28) rfl rfl Try.func19 (by kernel_rfl) rfl #[.int .i64 a0, .slice A1 l1.length c1] rfl (by (try simp only [List.map_toArray, List.map_cons, List.map_nil]); first | done | rfl | (simp only [List.length_drop, List.length_take]; rfl)) ?_; (with_reducible refine (pair_Match.calls a0 _ _ l1 t201 t202 t203 _ ?side1 ?side2 A5.out).mono ?_); (case side1 => repeat (first | exact HR1.out | (with_reducible refine Kd.C_alloc ?_ _) | (with_reducible refine Kd.C_drewN ?_ _) | (with_reducible refine Kd.C_drew ?_))); (case side2 => exact HC1.out); rintro e w8 ⟨v204, rfl, ho0, hb⟩; refine ⟨_, rfl, ?_⟩; have n0_ := Aside0.mk (Kd.R_lower ho0 (below_size (by repeat (first | (with_reducible first | exact HB.out | apply below_alloc | apply pw_below_drewN | apply below_drew1) | exact HB.out)))); have n1_ := Aside0.mk (below_step (by repeat (first | (with_reducible first | exact HB.out | apply below_alloc | apply pw_below_drewN | apply below_drew1) | exact HB.out)) hb); clear HB; have HO205 := n0_; have HB := n1_; clear n0_ n1_; (try clear hb); (try clear hb2); (try clear hk); (try clear hi); (try clear ho0)) | ((with_reducible refine gate_callee (f := 15) rfl ?_); refine goesL_ (some 35) rfl rfl Try.func15 (by kernel_rfl) rfl #[.int .i64 a0, .slice A1 l1.length c1] rfl (by (try simp only [List.map_toArray, List.map_cons, List.map_nil]); first | done | rfl | (simp only [List.length_drop, List.length_take]; rfl)) ?_; (with_reducible refine (pair_Parts.calls a0 _ _ l1 t206 t207 _ ?side1 ?side2 A6.out).mono ?_); (case side1 => repeat (first | exact (Kd.C_below HR1.out HB.out) | (with_reducible refine Kd.C_alloc ?_ _) | (with_reducible refine Kd.C_drewN ?_ _) | (with_reducible refine Kd.C_drew ?_))); (case side2 => exact HC1.out); rintro e w9 ⟨v208, rfl, ho0, hb⟩; refine ⟨_, rfl, ?_⟩; have n0_ := Aside0.mk (Kd.R_elder' (by (with_reducible repeat (first | apply Kd.R_alloc | apply Kd.R_drewN | apply Kd.R_drew)); exact HO205.out) (Kd.R_base ho0) hb); have n1_ := Aside0.mk (Kd.R_lower (Kd.R_new' ho0 (Kd.R_lt (by (with_reducible repeat (first | apply Kd.R_alloc | apply Kd.R_drewN | apply Kd.R_drew)); exact HO205.out))) (below_size (by repeat (first | (with_reducible first | exact HB.out | apply below_alloc | apply pw_below_drewN | apply below_drew1) | exact HB.out)))); have n2_ := Aside0.mk (below_step (by repeat (first | (with_reducible first | exact HB.out | apply below_alloc | apply pw_below_drewN | apply below_drew1) | exact HB.out)) hb); clear HO205; clear HB; have HO205 := n0_; have HO209 := n1_; have HB := n2_; clear n0_ n1_ n2_; (try clear hb); (try clear hb2); (try clear hk); (try clear hi); (try clear ho0)))
  (try simp only [Act.put, List.setIfInBounds_toArray, List.set_cons_zero, List.set_cons_succ])
  go_cut [43] (fun v43 wc => ∃ (kq : Nat) (x43_6 : Bool), v43 = .bool x43_6 ∧ Aside0 (kimberlitelaw04_PairGallai.j0 kq a0 l1 t201 t203 t206 t207 x43_6 = some r) ∧ Aside0 (kq ≤ k) ∧ Aside0 (Kd.R (Kd.int .i64) 3 wc w.heap.size (fun k_ => some k_ ≠ (v208 : Value).ownBlock) v204 t201) ∧ Aside0 (Kd.R (Kd.int .i64) 3 wc w.heap.size (fun k_ => some k_ ≠ (v204 : Value).ownBlock) v208 t206) ∧ Aside0 (Below w.heap.size w wc))
  case first => as_aux_lemma =>
   have H := HC7.out
   clear HC7
   by_cases c10 : t203 = 0
   ·rw [if_pos c10] at H
    have c10b0 : (t203 == 0) = true := beq_iff_eq.mpr c10
    have c10b1 : (t203 != 0) = false := bne_eq_false_iff_eq.mpr c10
    clear c10
    (first | rw [c10b0] | (simp only [i64_w, i32_w]; rw [c10b0]) | skip)
    have H' := Aside0.mk H
    clear H
    go_wp2
    go_meet
    case rel => exact ⟨_, ((t207 != 0)), (by first | rfl | (simp; done) | (simp [*]; done)), H', ⟨by first | omega | exact Nat.le_refl _⟩, ⟨by (with_reducible repeat (first | apply Kd.R_alloc | apply Kd.R_drewN | apply Kd.R_drew)); exact Kd.R_mono HO205.out (fun _ hk => hk.2)⟩, ⟨by (with_reducible repeat (first | apply Kd.R_alloc | apply Kd.R_drewN | apply Kd.R_drew)); exact Kd.R_mono HO209.out (fun _ hk => hk.2)⟩, ⟨by repeat (first | (with_reducible first | exact HB.out | apply below_alloc | apply pw_below_drewN | apply below_drew1) | exact HB.out)⟩⟩
   ·rw [if_neg c10] at H
    have c10b0 : (t203 == 0) = false := beq_eq_false_iff_ne.mpr c10
    have c10b1 : (t203 != 0) = true := bne_iff_ne.mpr c10
    (first | rw [c10b0] | (simp only [i64_w, i32_w]; rw [c10b0]) | skip)
    have H' := Aside0.mk H
    clear H
    go_wp2
    go_meet
    case rel => exact ⟨_, (true), (by first | rfl | (simp; done) | (simp [*]; done)), H', ⟨by first | omega | exact Nat.le_refl _⟩, ⟨by (with_reducible repeat (first | apply Kd.R_alloc | apply Kd.R_drewN | apply Kd.R_drew)); exact Kd.R_mono HO205.out (fun _ hk => hk.2)⟩, ⟨by (with_reducible repeat (first | apply Kd.R_alloc | apply Kd.R_drewN | apply Kd.R_drew)); exact Kd.R_mono HO209.out (fun _ hk => hk.2)⟩, ⟨by repeat (first | (with_reducible first | exact HB.out | apply below_alloc | apply pw_below_drewN | apply below_drew1) | exact HB.out)⟩⟩
  case rest => as_aux_lemma =>
   clear HC7
   try clear c1
   try clear p2
   try clear c4
   try clear c10
   try clear c10b0
   try clear c10b1
   obtain ⟨kq, x43_6, rfl, HA, HJ6, HO_5, HO_8, HB⟩ := hcut
   cases kq with
   | zero => exact absurd HA.out (by simp [kimberlitelaw04_PairGallai.j0])
   | succ kj6 =>
    have H := HA.out
    clear HA
    simp only [kimberlitelaw04_PairGallai.j0] at H
    by_cases c11 : x43_6 = true
    ·subst c11
     have H1 : (if t203 = t207 then ((kimberlitelaw04_alive.f kj6).bind fun t210 => (some t210)) else (some false)) = some r := by rw [if_pos rfl] at H; exact H
     clear H
     have H := H1
     clear H1
     by_cases c12 : t203 = t207
     ·rw [if_pos c12] at H
      have c12b0 : (t203 == t207) = true := beq_iff_eq.mpr c12
      have c12b1 : (t203 != t207) = false := bne_eq_false_iff_eq.mpr c12
      clear c12
      replace H := Option.bind_eq_some_iff.mp H
      obtain ⟨t210, A130, H⟩ := H
      replace H : (some t210) = some r := H
      have A13 := Aside0.mk A130
      clear A130
      obtain rfl := Option.some.inj H
      go_wp2_with (first | (go_at_call 14; (with_reducible refine (kimberlitelaw04_alive.calls kj6  t210 _ A13.out).mono ?_); rintro e w14 ⟨rfl, hb⟩; have n0_ := Aside0.mk (Kd.R_below (by (with_reducible repeat (first | apply Kd.R_alloc | apply Kd.R_drewN | apply Kd.R_drew)); exact HO_5.out) hb); have n1_ := Aside0.mk (Kd.R_below (by (with_reducible repeat (first | apply Kd.R_alloc | apply Kd.R_drewN | apply Kd.R_drew)); exact HO_8.out) hb); have n2_ := Aside0.mk (below_step (by repeat (first | (with_reducible first | exact HB.out | apply below_alloc | apply pw_below_drewN | apply below_drew1) | exact HB.out)) hb); clear HO_5; clear HO_8; clear HB; have HO_5 := n0_; have HO_8 := n1_; have HB := n2_; clear n0_ n1_ n2_; (try clear hb); (try clear hb2); (try clear hk); (try clear hi)))
      go_ret
      exact ⟨by first | rfl | (simp [errW_none, errW_some] <;> rfl) | (simp [*, errW_none, errW_some] <;> rfl), by repeat (first | (with_reducible first | exact HB.out | apply below_alloc | apply pw_below_drewN | apply below_drew1) | exact HB.out)⟩
     ·rw [if_neg c12] at H
      have c12b0 : (t203 == t207) = false := beq_eq_false_iff_ne.mpr c12
      have c12b1 : (t203 != t207) = true := bne_iff_ne.mpr c12
      obtain rfl := Option.some.inj H
      go_wp2
      go_ret
      exact ⟨by first | rfl | (simp [errW_none, errW_some] <;> rfl) | (simp [*, errW_none, errW_some] <;> rfl), by repeat (first | (with_reducible first | exact HB.out | apply below_alloc | apply pw_below_drewN | apply below_drew1) | exact HB.out)⟩
    ·replace c11 := Bool.eq_false_iff.mpr c11
     subst c11
     have H1 : ((kimberliteref04_Pairs.f kj6 a0 l1 t201).bind fun bt211 => (if bt211.2 = true then (kimberlitelaw04_PairGallai.j1 kj6 a0 l1 t201 t206 ((t206.length : Int) != a0)) else (kimberlitelaw04_PairGallai.j1 kj6 a0 l1 t201 t206 true))) = some r := by rw [if_neg (show ¬ (false = true) by decide)] at H; exact H
     clear H
     have H := H1
     clear H1
     replace H := Option.bind_eq_some_iff.mp H
     obtain ⟨⟨t211, t212⟩, A150, H⟩ := H
     replace H : (if t212 = true then (kimberlitelaw04_PairGallai.j1 kj6 a0 l1 t201 t206 ((t206.length : Int) != a0)) else (kimberlitelaw04_PairGallai.j1 kj6 a0 l1 t201 t206 true)) = some r := H
     have A15 := Aside0.mk A150
     clear A150
     have HC16 := Aside0.mk H
     clear H
     obtain ⟨Ao17, co17, eo17⟩ := Kd.R_slice HO_5.out
     subst eo17
     go_upto_region 8 with (first | ((with_reducible refine gate_callee (f := 20) rfl ?_); refine goesL_ (some 54) rfl rfl Try.func20 (by kernel_rfl) rfl #[.int .i64 a0, .slice A1 l1.length c1, .slice Ao17 t201.length co17] rfl (by (try simp only [List.map_toArray, List.map_cons, List.map_nil]); first | done | rfl | (simp only [List.length_drop, List.length_take]; rfl)) ?_; (with_reducible refine (kimberliteref04_Pairs.calls kj6 a0 _ _ l1 _ _ t201 t211 t212 _ ?side1 ?side2 ?side3 ?side4 A15.out).mono ?_); (case side1 => repeat (first | exact (Kd.C_below HR1.out HB.out) | (with_reducible refine Kd.C_alloc ?_ _) | (with_reducible refine Kd.C_drewN ?_ _) | (with_reducible refine Kd.C_drew ?_))); (case side2 => exact HC1.out); (case side3 => repeat (first | exact (Kd.R_reads' HO_5.out).2.2 | (with_reducible refine Kd.C_alloc ?_ _) | (with_reducible refine Kd.C_drewN ?_ _) | (with_reducible refine Kd.C_drew ?_))); (case side4 => exact (Kd.R_reads' HO_5.out).2.1); rintro e w18 ⟨rfl, hb⟩; refine ⟨_, rfl, ?_⟩; have n0_ := Aside0.mk (Kd.R_below (by (with_reducible repeat (first | apply Kd.R_alloc | apply Kd.R_drewN | apply Kd.R_drew)); exact HO_5.out) hb); have n1_ := Aside0.mk (Kd.R_below (by (with_reducible repeat (first | apply Kd.R_alloc | apply Kd.R_drewN | apply Kd.R_drew)); exact HO_8.out) hb); have n2_ := Aside0.mk (below_step (by repeat (first | (with_reducible first | exact HB.out | apply below_alloc | apply pw_below_drewN | apply below_drew1) | exact HB.out)) hb); clear HO_5; clear HO_8; clear HB; have HO_5 := n0_; have HO_8 := n1_; have HB := n2_; clear n0_ n1_ n2_; (try clear hb); (try clear hb2); (try clear hk); (try clear hi)))
     (try simp only [Act.put, List.setIfInBounds_toArray, List.set_cons_zero, List.set_cons_succ])
     go_cut [64] (fun v64 wc => ∃ (kq : Nat) (x64_15 : Bool), v64 = .bool x64_15 ∧ Aside0 (kimberlitelaw04_PairGallai.j1 kq a0 l1 t201 t206 x64_15 = some r) ∧ Aside0 (kq ≤ kj6) ∧ Aside0 (Kd.R (Kd.int .i64) 3 wc w.heap.size (fun k_ => some k_ ≠ (v208 : Value).ownBlock) (.slice Ao17 t201.length co17) t201) ∧ Aside0 (Kd.R (Kd.int .i64) 3 wc w.heap.size (fun k_ => some k_ ≠ ((.slice Ao17 t201.length co17) : Value).ownBlock) v208 t206) ∧ Aside0 (Below w.heap.size w wc))
     case first => as_aux_lemma =>
      have H := HC16.out
      clear HC16
      by_cases c19 : t212 = true
      ·subst c19
       have H1 : (kimberlitelaw04_PairGallai.j1 kj6 a0 l1 t201 t206 ((t206.length : Int) != a0)) = some r := by rw [if_pos rfl] at H; exact H
       clear H
       have H := H1
       clear H1
       have H' := Aside0.mk H
       clear H
       obtain ⟨Ao20, co20, eo20⟩ := Kd.R_slice HO_8.out
       subst eo20
       go_wp2
       go_meet
       case rel => exact ⟨_, (((t206.length : Int) != a0)), (by first | rfl | (simp; done) | (simp [*]; done)), H', ⟨by have := HJ6.out; first | omega | exact Nat.le_refl _⟩, ⟨by (with_reducible repeat (first | apply Kd.R_alloc | apply Kd.R_drewN | apply Kd.R_drew)); exact HO_5.out⟩, ⟨by (with_reducible repeat (first | apply Kd.R_alloc | apply Kd.R_drewN | apply Kd.R_drew)); exact HO_8.out⟩, ⟨by repeat (first | (with_reducible first | exact HB.out | apply below_alloc | apply pw_below_drewN | apply below_drew1) | exact HB.out)⟩⟩
      ·replace c19 := Bool.eq_false_iff.mpr c19
       subst c19
       have H1 : (kimberlitelaw04_PairGallai.j1 kj6 a0 l1 t201 t206 true) = some r := by rw [if_neg (show ¬ (false = true) by decide)] at H; exact H
       clear H
       have H := H1
       clear H1
       have H' := Aside0.mk H
       clear H
       go_wp2
       go_meet
       case rel => exact ⟨_, (true), (by first | rfl | (simp; done) | (simp [*]; done)), H', ⟨by have := HJ6.out; first | omega | exact Nat.le_refl _⟩, ⟨by (with_reducible repeat (first | apply Kd.R_alloc | apply Kd.R_drewN | apply Kd.R_drew)); exact HO_5.out⟩, ⟨by (with_reducible repeat (first | apply Kd.R_alloc | apply Kd.R_drewN | apply Kd.R_drew)); exact HO_8.out⟩, ⟨by repeat (first | (with_reducible first | exact HB.out | apply below_alloc | apply pw_below_drewN | apply below_drew1) | exact HB.out)⟩⟩
     case rest => as_aux_lemma =>
      clear HC16
      try clear c1
      try clear c2
      try clear p2
      try clear c4
      try clear c10
      try clear c10b0
      try clear c10b1
      try clear c11
      try clear c12
      try clear c12b0
      try clear c12b1
      try clear c13
      try clear c15
      try clear c19
      try clear c20
      try clear p2
      obtain ⟨kq, x64_15, rfl, HA, HJ15, HO_5, HO_8, HB⟩ := hcut
      cases kq with
      | zero => exact absurd HA.out (by simp [kimberlitelaw04_PairGallai.j1])
      | succ kj15 =>
       have H := HA.out
       clear HA
       simp only [kimberlitelaw04_PairGallai.j1] at H
       by_cases c21 : x64_15 = true
       ·subst c21
        have H1 : (some false) = some r := by rw [if_pos rfl] at H; exact H
        clear H
        have H := H1
        clear H1
        obtain rfl := Option.some.inj H
        go_wp2
        go_ret
        exact ⟨by first | rfl | (simp [errW_none, errW_some] <;> rfl) | (simp [*, errW_none, errW_some] <;> rfl), by repeat (first | (with_reducible first | exact HB.out | apply below_alloc | apply pw_below_drewN | apply below_drew1) | exact HB.out)⟩
       ·replace c21 := Bool.eq_false_iff.mpr c21
        subst c21
        have H1 : ((kimberliteref04_Near.f kj15 a0 l1).bind fun t213 => (if 0 ≤ a0 then (if (a0 : Int).toNat ≤ 281474976710656 then (kimberlitelaw04_PairGallai.l0 kj15 a0 t201 t206 t213 (List.replicate (a0 : Int).toNat false) 0) else (none)) else (none))) = some r := by rw [if_neg (show ¬ (false = true) by decide)] at H; exact H
        clear H
        have H := H1
        clear H1
        replace H := Option.bind_eq_some_iff.mp H
        obtain ⟨t213, A220, H⟩ := H
        replace H : (if 0 ≤ a0 then (if (a0 : Int).toNat ≤ 281474976710656 then (kimberlitelaw04_PairGallai.l0 kj15 a0 t201 t206 t213 (List.replicate (a0 : Int).toNat false) 0) else (none)) else (none)) = some r := H
        have A22 := Aside0.mk A220
        clear A220
        by_cases c23 : 0 ≤ a0
        ·rw [if_pos c23] at H
         have c23b0 := eq_true c23
         have c23b1 : decide (0 ≤ a0) = true := decide_eq_true c23
         clear c23
         by_cases c24 : (a0 : Int).toNat ≤ 281474976710656
         ·rw [if_pos c24] at H
          have c24b0 := eq_true c24
          have c24b1 : decide ((a0 : Int).toNat ≤ 281474976710656) = true := decide_eq_true c24
          clear c24
          obtain ⟨y216, hy216⟩ : ∃ y_ : List Bool, y_ = (List.replicate (a0 : Int).toNat false) := ⟨_, rfl⟩
          replace H : (kimberlitelaw04_PairGallai.l0 kj15 a0 t201 t206 t213 y216 0) = some r := by first | (rw [hy216]; with_reducible exact H) | (have H2_ := (Option.bind_some _ _).symm.trans H; rw [hy216]; with_reducible exact H2_) | (have H2_ := (Option.bind_some _ _).symm.trans H; with_reducible exact H2_) | with_reducible exact H | (rw [hy216]; exact H) | exact H
          have Ny216 := Aside0.mk hy216
          clear hy216
          have H' := Aside0.mk H
          clear H
          go_wp2_with (first | ((with_reducible refine gate_callee (f := 21) rfl ?_); refine goesL_ (some 67) rfl rfl Try.func21 (by kernel_rfl) rfl #[.int .i64 a0, .slice A1 l1.length c1] rfl (by (try simp only [List.map_toArray, List.map_cons, List.map_nil]); first | done | rfl | (simp only [List.length_drop, List.length_take]; rfl)) ?_; (with_reducible refine (kimberliteref04_Near.calls kj15 a0 _ _ l1 t213 _ ?side1 ?side2 A22.out).mono ?_); (case side1 => repeat (first | exact (Kd.C_below HR1.out HB.out) | (with_reducible refine Kd.C_alloc ?_ _) | (with_reducible refine Kd.C_drewN ?_ _) | (with_reducible refine Kd.C_drew ?_))); (case side2 => exact HC1.out); rintro e w25 ⟨v214, rfl, ho0, hb⟩; refine ⟨_, rfl, ?_⟩; have n0_ := Aside0.mk (Kd.R_below (by (with_reducible repeat (first | apply Kd.R_alloc | apply Kd.R_drewN | apply Kd.R_drew)); exact HO_5.out) hb); have n1_ := Aside0.mk (Kd.R_below (by (with_reducible repeat (first | apply Kd.R_alloc | apply Kd.R_drewN | apply Kd.R_drew)); exact HO_8.out) hb); have n2_ := Aside0.mk (Kd.S_lower ho0 (below_size (by repeat (first | (with_reducible first | exact HB.out | apply below_alloc | apply pw_below_drewN | apply below_drew1) | exact HB.out)))); have n3_ := Aside0.mk (below_step (by repeat (first | (with_reducible first | exact HB.out | apply below_alloc | apply pw_below_drewN | apply below_drew1) | exact HB.out)) hb); clear HO_5; clear HO_8; clear HB; have HO_5 := n0_; have HO_8 := n1_; have HO215 := n2_; have HB := n3_; clear n0_ n1_ n2_ n3_; (try clear hb); (try clear hb2); (try clear hk); (try clear hi); (try clear ho0)) | ((with_reducible refine gate_dst (N := 69) rfl ?_); (try (refine gate_guard (by rfl) ?_; dsimp only)); refine Kd.R_make Kd.bool _ 4 rfl (N := 69) rfl 39 _ _ rfl a0 rfl rfl Try.underlying39 (.bool false) 1 info4 rfl (by decide) (by omega) false (ok := fun _ => True) (okp := fun _ => True) rfl (fun _ hk => hk) trivial (of_decide_eq_true (by first | (with_reducible assumption) | assumption)) (Nat.le_trans (Nat.mul_le_mul_right _ (of_decide_eq_true (by first | (with_reducible assumption) | assumption) : a0.toNat ≤ 281474976710656)) (by omega)) (Below.refl _ _) (Nat.le_refl _) ?_; intro v217 w26 ho27 hb hg_ hnew_; clear hg_ hnew_; (first | rw [← Ny216.out] at ho27 | (simp only [Int.reduceToNat] at ho27; rw [← Ny216.out] at ho27)); have n0_ := Aside0.mk (Kd.R_below (by (with_reducible repeat (first | apply Kd.R_alloc | apply Kd.R_drewN | apply Kd.R_drew)); exact HO_5.out) hb); have n1_ := Aside0.mk (Kd.R_below (by (with_reducible repeat (first | apply Kd.R_alloc | apply Kd.R_drewN | apply Kd.R_drew)); exact HO_8.out) hb); have n2_ := Aside0.mk (Kd.S_elder' (by (with_reducible repeat (first | apply Kd.S_alloc | apply Kd.S_drewN | apply Kd.S_drew)); exact HO215.out) (Kd.R_base ho27) hb); have n3_ := Aside0.mk (Kd.R_lower ho27 (below_size (by repeat (first | (with_reducible first | exact HB.out | apply below_alloc | apply pw_below_drewN | apply below_drew1) | exact HB.out)))); have n4_ := Aside0.mk (below_step (by repeat (first | (with_reducible first | exact HB.out | apply below_alloc | apply pw_below_drewN | apply below_drew1) | exact HB.out)) hb); clear HO_5; clear HO_8; clear HO215; clear HB; have HO_5 := n0_; have HO_8 := n1_; have HO215 := n2_; have HO218 := n3_; have HB := n4_; clear n0_ n1_ n2_ n3_ n4_; clear hb ho27))
          go_loopg [14] kj15 (fun kq v14 w' => ∃ (x13_3 : List Bool) (x14_3 : Int), v14 = .int .i64 x14_3 ∧ Aside0 (kimberlitelaw04_PairGallai.l0 kq a0 t201 t206 t213 x13_3 x14_3 = some r) ∧ Aside0 (kq ≤ kj15) ∧ Aside0 (Kd.R (Kd.int .i64) 3 w' w.heap.size (fun k_ => some k_ ≠ (v208 : Value).ownBlock) (.slice Ao17 t201.length co17) t201) ∧ Aside0 (Kd.R (Kd.int .i64) 3 w' w.heap.size (fun k_ => some k_ ≠ ((.slice Ao17 t201.length co17) : Value).ownBlock) v208 t206) ∧ Aside0 (Kd.S (Kd.slice 4 Kd.bool) 39 w' w.heap.size (fun k_ => some k_ ≠ (v217 : Value).ownBlock) v214 t213) ∧ Aside0 (Kd.R Kd.bool 4 w' w.heap.size (fun _ => True) v217 x13_3) ∧ Aside0 (Below w.heap.size w w'))
          case atStart => exact ⟨(y216), (0), (by first | rfl | (simp; done) | (simp [*]; done)), H', ⟨Nat.le_refl _⟩, ⟨by (with_reducible repeat (first | apply Kd.R_alloc | apply Kd.R_drewN | apply Kd.R_drew)); exact HO_5.out⟩, ⟨by (with_reducible repeat (first | apply Kd.R_alloc | apply Kd.R_drewN | apply Kd.R_drew)); exact HO_8.out⟩, ⟨by (with_reducible repeat (first | apply Kd.S_alloc | apply Kd.S_drewN | apply Kd.S_drew)); exact Kd.S_mono HO215.out (fun _ hk => hk.2)⟩, ⟨by (with_reducible repeat (first | apply Kd.R_alloc | apply Kd.R_drewN | apply Kd.R_drew)); exact HO218.out⟩, ⟨by repeat (first | (with_reducible first | exact HB.out | apply below_alloc | apply pw_below_drewN | apply below_drew1) | exact HB.out)⟩⟩
          case round => as_aux_lemma =>
           clear H'
           try clear c1
           try clear c2
           try clear p2
           try clear c4
           try clear c10
           try clear c10b0
           try clear c10b1
           try clear c11
           try clear c12
           try clear c12b0
           try clear c12b1
           try clear c13
           try clear c15
           try clear c19
           try clear c20
           try clear c21
           try clear c23
           try clear c23b0
           try clear c23b1
           try clear c24
           try clear c24b0
           try clear c24b1
           try clear p2
           obtain ⟨x13_3, x14_3, rfl, HA, HK3, HO_5, HO_8, HO_12, HO_13, HB⟩ := hrel
           cases gk with
           | zero => exact absurd HA.out (by simp [kimberlitelaw04_PairGallai.l0])
           | succ k3 =>
            have H := HA.out
            clear HA
            simp only [kimberlitelaw04_PairGallai.l0] at H
            by_cases c28 : x14_3 < a0
            ·rw [if_pos c28] at H
             have c28b0 : decide (x14_3 < a0) = true := decide_eq_true c28
             clear c28
             have HC29 := Aside0.mk H
             clear H
             go_upto_region 15 with (fail)
             go_cut [122] (fun v122 wc => ∃ (kq : Nat) (x122_28 : Bool), v122 = .bool x122_28 ∧ Aside0 (kimberlitelaw04_PairGallai.j3 kq a0 t201 t206 t213 x13_3 x14_3 x122_28 = some r) ∧ Aside0 (kq ≤ k3) ∧ Aside0 (Kd.R (Kd.int .i64) 3 wc w.heap.size (fun k_ => some k_ ≠ (v208 : Value).ownBlock) (.slice Ao17 t201.length co17) t201) ∧ Aside0 (Kd.R (Kd.int .i64) 3 wc w.heap.size (fun k_ => some k_ ≠ ((.slice Ao17 t201.length co17) : Value).ownBlock) v208 t206) ∧ Aside0 (Kd.S (Kd.slice 4 Kd.bool) 39 wc w.heap.size (fun k_ => some k_ ≠ (v217 : Value).ownBlock) v214 t213) ∧ Aside0 (Kd.R Kd.bool 4 wc w.heap.size (fun _ => True) v217 x13_3) ∧ Aside0 (Below w.heap.size w wc))
             case first => as_aux_lemma =>
              have H := HC29.out
              clear HC29
              by_cases c30 : 0 ≤ x14_3
              ·rw [if_pos c30] at H
               have c30b0 : decide (0 ≤ x14_3) = true := decide_eq_true c30
               clear c30
               (first | rw [c30b0] | (simp only [i64_w, i32_w]; rw [c30b0]) | skip)
               by_cases c31 : x14_3 < (t206.length : Int)
               ·rw [if_pos c31] at H
                have c31b0 : decide (x14_3 < (t206.length : Int)) = true := decide_eq_true c31
                clear c31
                by_cases c32 : (rd t206 x14_3) = 1
                ·rw [if_pos c32] at H
                 have c32b0 : ((rd t206 x14_3) == 1) = true := beq_iff_eq.mpr c32
                 have c32b1 : ((rd t206 x14_3) != 1) = false := bne_eq_false_iff_eq.mpr c32
                 clear c32
                 by_cases c33 : x14_3 < (t201.length : Int)
                 ·rw [if_pos c33] at H
                  have c33b0 : decide (x14_3 < (t201.length : Int)) = true := decide_eq_true c33
                  clear c33
                  by_cases c34 : (rd t201 x14_3) = a0
                  ·rw [if_pos c34] at H
                   have c34b0 : ((rd t201 x14_3) == a0) = true := beq_iff_eq.mpr c34
                   have c34b1 : ((rd t201 x14_3) != a0) = false := bne_eq_false_iff_eq.mpr c34
                   clear c34
                   have H' := Aside0.mk H
                   clear H
                   obtain ⟨Ao35, co35, eo35⟩ := Kd.R_slice HO_8.out
                   subst eo35
                   have p220 : 0 ≤ (x14_3 : Int) := of_decide_eq_true (by first | (with_reducible assumption) | assumption)
                   have q220 : x14_3 < (t206.length : Int) := of_decide_eq_true (by first | (with_reducible assumption) | assumption)
                   obtain ⟨ad220, e220, hx220_0⟩ := Kd.at_int (Kd.R_reads' HO_8.out).2.2 x14_3 p220 q220
                   cases e220
                   replace p220 := eq_true p220
                   replace q220 := eq_true q220
                   have p221 : 0 ≤ (x14_3 : Int) := of_decide_eq_true (by first | (with_reducible assumption) | assumption)
                   have q221 : x14_3 < (t201.length : Int) := of_decide_eq_true (by first | (with_reducible assumption) | assumption)
                   obtain ⟨ad221, e221, hx221_0⟩ := Kd.at_int (Kd.R_reads' HO_5.out).2.2 x14_3 p221 q221
                   cases e221
                   replace p221 := eq_true p221
                   replace q221 := eq_true q221
                   go_wp2
                   go_meet
                   case rel => exact ⟨_, (true), (by first | rfl | (simp; done) | (simp [*]; done)), H', ⟨by have := HJ6.out; have := HJ15.out; have := HK3.out; first | omega | exact Nat.le_refl _⟩, ⟨by (with_reducible repeat (first | apply Kd.R_alloc | apply Kd.R_drewN | apply Kd.R_drew)); exact HO_5.out⟩, ⟨by (with_reducible repeat (first | apply Kd.R_alloc | apply Kd.R_drewN | apply Kd.R_drew)); exact HO_8.out⟩, ⟨by (with_reducible repeat (first | apply Kd.S_alloc | apply Kd.S_drewN | apply Kd.S_drew)); exact HO_12.out⟩, ⟨by (with_reducible repeat (first | apply Kd.R_alloc | apply Kd.R_drewN | apply Kd.R_drew)); exact HO_13.out⟩, ⟨by repeat (first | (with_reducible first | exact HB.out | apply below_alloc | apply pw_below_drewN | apply below_drew1) | exact HB.out)⟩⟩
                  ·rw [if_neg c34] at H
                   have c34b0 : ((rd t201 x14_3) == a0) = false := beq_eq_false_iff_ne.mpr c34
                   have c34b1 : ((rd t201 x14_3) != a0) = true := bne_iff_ne.mpr c34
                   by_cases c36 : 0 ≤ (rd t201 x14_3)
                   ·rw [if_pos c36] at H
                    have c36b0 : decide (0 ≤ (rd t201 x14_3)) = true := decide_eq_true c36
                    clear c36
                    by_cases c37 : (rd t201 x14_3) < (t206.length : Int)
                    ·rw [if_pos c37] at H
                     have c37b0 : decide ((rd t201 x14_3) < (t206.length : Int)) = true := decide_eq_true c37
                     clear c37
                     by_cases c38 : (rd t206 (rd t201 x14_3)) = 0
                     ·rw [if_pos c38] at H
                      have c38b0 : ((rd t206 (rd t201 x14_3)) == 0) = true := beq_iff_eq.mpr c38
                      have c38b1 : ((rd t206 (rd t201 x14_3)) != 0) = false := bne_eq_false_iff_eq.mpr c38
                      clear c38
                      by_cases c39 : (rd t206 x14_3) = 2
                      ·rw [if_pos c39] at H
                       have c39b0 : ((rd t206 x14_3) == 2) = true := beq_iff_eq.mpr c39
                       have c39b1 : ((rd t206 x14_3) != 2) = false := bne_eq_false_iff_eq.mpr c39
                       clear c39
                       have H' := Aside0.mk H
                       clear H
                       obtain ⟨Ao40, co40, eo40⟩ := Kd.R_slice HO_8.out
                       subst eo40
                       have p220 : 0 ≤ (x14_3 : Int) := of_decide_eq_true (by first | (with_reducible assumption) | assumption)
                       have q220 : x14_3 < (t206.length : Int) := of_decide_eq_true (by first | (with_reducible assumption) | assumption)
                       obtain ⟨ad220, e220, hx220_0⟩ := Kd.at_int (Kd.R_reads' HO_8.out).2.2 x14_3 p220 q220
                       cases e220
                       replace p220 := eq_true p220
                       replace q220 := eq_true q220
                       have p221 : 0 ≤ (x14_3 : Int) := of_decide_eq_true (by first | (with_reducible assumption) | assumption)
                       have q221 : x14_3 < (t201.length : Int) := of_decide_eq_true (by first | (with_reducible assumption) | assumption)
                       obtain ⟨ad221, e221, hx221_0⟩ := Kd.at_int (Kd.R_reads' HO_5.out).2.2 x14_3 p221 q221
                       cases e221
                       replace p221 := eq_true p221
                       replace q221 := eq_true q221
                       have p222 : 0 ≤ (x14_3 : Int) := of_decide_eq_true (by first | (with_reducible assumption) | assumption)
                       have q222 : x14_3 < (t201.length : Int) := of_decide_eq_true (by first | (with_reducible assumption) | assumption)
                       obtain ⟨ad222, e222, hx222_0⟩ := Kd.at_int (Kd.R_reads' HO_5.out).2.2 x14_3 p222 q222
                       obtain rfl : ad221 = ad222 := (by injection e222)
                       replace p222 := eq_true p222
                       replace q222 := eq_true q222
                       have p223 : 0 ≤ ((rd t201 x14_3) : Int) := of_decide_eq_true (by first | (with_reducible assumption) | assumption)
                       have q223 : (rd t201 x14_3) < (t206.length : Int) := of_decide_eq_true (by first | (with_reducible assumption) | assumption)
                       obtain ⟨ad223, e223, hx223_0⟩ := Kd.at_int (Kd.R_reads' HO_8.out).2.2 (rd t201 x14_3) p223 q223
                       obtain rfl : ad220 = ad223 := (by injection e223)
                       replace p223 := eq_true p223
                       replace q223 := eq_true q223
                       have p224 : 0 ≤ (x14_3 : Int) := of_decide_eq_true (by first | (with_reducible assumption) | assumption)
                       have q224 : x14_3 < (t206.length : Int) := of_decide_eq_true (by first | (with_reducible assumption) | assumption)
                       obtain ⟨ad224, e224, hx224_0⟩ := Kd.at_int (Kd.R_reads' HO_8.out).2.2 x14_3 p224 q224
                       obtain rfl : ad220 = ad224 := (by injection e224)
                       replace p224 := eq_true p224
                       replace q224 := eq_true q224
                       have p225 : 0 ≤ (x14_3 : Int) := of_decide_eq_true (by first | (with_reducible assumption) | assumption)
                       have q225 : x14_3 < (t201.length : Int) := of_decide_eq_true (by first | (with_reducible assumption) | assumption)
                       obtain ⟨ad225, e225, hx225_0⟩ := Kd.at_int (Kd.R_reads' HO_5.out).2.2 x14_3 p225 q225
                       obtain rfl : ad221 = ad225 := (by injection e225)
                       replace p225 := eq_true p225
                       replace q225 := eq_true q225
                       have p226 : 0 ≤ (x14_3 : Int) := of_decide_eq_true (by first | (with_reducible assumption) | assumption)
                       have q226 : x14_3 < (t201.length : Int) := of_decide_eq_true (by first | (with_reducible assumption) | assumption)
                       obtain ⟨ad226, e226, hx226_0⟩ := Kd.at_int (Kd.R_reads' HO_5.out).2.2 x14_3 p226 q226
                       obtain rfl : ad221 = ad226 := (by injection e226)
                       replace p226 := eq_true p226
                       replace q226 := eq_true q226
                       have p227 : 0 ≤ ((rd t201 x14_3) : Int) := of_decide_eq_true (by first | (with_reducible assumption) | assumption)
                       have q227 : (rd t201 x14_3) < (t206.length : Int) := of_decide_eq_true (by first | (with_reducible assumption) | assumption)
                       obtain ⟨ad227, e227, hx227_0⟩ := Kd.at_int (Kd.R_reads' HO_8.out).2.2 (rd t201 x14_3) p227 q227
                       obtain rfl : ad220 = ad227 := (by injection e227)
                       replace p227 := eq_true p227
                       replace q227 := eq_true q227
                       go_wp2
                       go_meet
                       case rel => exact ⟨_, (((rd t206 (rd t201 x14_3)) != 2)), (by first | rfl | (simp; done) | (simp [*]; done)), H', ⟨by have := HJ6.out; have := HJ15.out; have := HK3.out; first | omega | exact Nat.le_refl _⟩, ⟨by (with_reducible repeat (first | apply Kd.R_alloc | apply Kd.R_drewN | apply Kd.R_drew)); exact HO_5.out⟩, ⟨by (with_reducible repeat (first | apply Kd.R_alloc | apply Kd.R_drewN | apply Kd.R_drew)); exact HO_8.out⟩, ⟨by (with_reducible repeat (first | apply Kd.S_alloc | apply Kd.S_drewN | apply Kd.S_drew)); exact HO_12.out⟩, ⟨by (with_reducible repeat (first | apply Kd.R_alloc | apply Kd.R_drewN | apply Kd.R_drew)); exact HO_13.out⟩, ⟨by repeat (first | (with_reducible first | exact HB.out | apply below_alloc | apply pw_below_drewN | apply below_drew1) | exact HB.out)⟩⟩
                      ·rw [if_neg c39] at H
                       have c39b0 : ((rd t206 x14_3) == 2) = false := beq_eq_false_iff_ne.mpr c39
                       have c39b1 : ((rd t206 x14_3) != 2) = true := bne_iff_ne.mpr c39
                       have H' := Aside0.mk H
                       clear H
                       obtain ⟨Ao41, co41, eo41⟩ := Kd.R_slice HO_8.out
                       subst eo41
                       have p220 : 0 ≤ (x14_3 : Int) := of_decide_eq_true (by first | (with_reducible assumption) | assumption)
                       have q220 : x14_3 < (t206.length : Int) := of_decide_eq_true (by first | (with_reducible assumption) | assumption)
                       obtain ⟨ad220, e220, hx220_0⟩ := Kd.at_int (Kd.R_reads' HO_8.out).2.2 x14_3 p220 q220
                       cases e220
                       replace p220 := eq_true p220
                       replace q220 := eq_true q220
                       have p221 : 0 ≤ (x14_3 : Int) := of_decide_eq_true (by first | (with_reducible assumption) | assumption)
                       have q221 : x14_3 < (t201.length : Int) := of_decide_eq_true (by first | (with_reducible assumption) | assumption)
                       obtain ⟨ad221, e221, hx221_0⟩ := Kd.at_int (Kd.R_reads' HO_5.out).2.2 x14_3 p221 q221
                       cases e221
                       replace p221 := eq_true p221
                       replace q221 := eq_true q221
                       have p222 : 0 ≤ (x14_3 : Int) := of_decide_eq_true (by first | (with_reducible assumption) | assumption)
                       have q222 : x14_3 < (t201.length : Int) := of_decide_eq_true (by first | (with_reducible assumption) | assumption)
                       obtain ⟨ad222, e222, hx222_0⟩ := Kd.at_int (Kd.R_reads' HO_5.out).2.2 x14_3 p222 q222
                       obtain rfl : ad221 = ad222 := (by injection e222)
                       replace p222 := eq_true p222
                       replace q222 := eq_true q222
                       have p223 : 0 ≤ ((rd t201 x14_3) : Int) := of_decide_eq_true (by first | (with_reducible assumption) | assumption)
                       have q223 : (rd t201 x14_3) < (t206.length : Int) := of_decide_eq_true (by first | (with_reducible assumption) | assumption)
                       obtain ⟨ad223, e223, hx223_0⟩ := Kd.at_int (Kd.R_reads' HO_8.out).2.2 (rd t201 x14_3) p223 q223
                       obtain rfl : ad220 = ad223 := (by injection e223)
                       replace p223 := eq_true p223
                       replace q223 := eq_true q223
                       have p224 : 0 ≤ (x14_3 : Int) := of_decide_eq_true (by first | (with_reducible assumption) | assumption)
                       have q224 : x14_3 < (t206.length : Int) := of_decide_eq_true (by first | (with_reducible assumption) | assumption)
                       obtain ⟨ad224, e224, hx224_0⟩ := Kd.at_int (Kd.R_reads' HO_8.out).2.2 x14_3 p224 q224
                       obtain rfl : ad220 = ad224 := (by injection e224)
                       replace p224 := eq_true p224
                       replace q224 := eq_true q224
                       go_wp2
                       go_meet
                       case rel => exact ⟨_, (false), (by first | rfl | (simp; done) | (simp [*]; done)), H', ⟨by have := HJ6.out; have := HJ15.out; have := HK3.out; first | omega | exact Nat.le_refl _⟩, ⟨by (with_reducible repeat (first | apply Kd.R_alloc | apply Kd.R_drewN | apply Kd.R_drew)); exact HO_5.out⟩, ⟨by (with_reducible repeat (first | apply Kd.R_alloc | apply Kd.R_drewN | apply Kd.R_drew)); exact HO_8.out⟩, ⟨by (with_reducible repeat (first | apply Kd.S_alloc | apply Kd.S_drewN | apply Kd.S_drew)); exact HO_12.out⟩, ⟨by (with_reducible repeat (first | apply Kd.R_alloc | apply Kd.R_drewN | apply Kd.R_drew)); exact HO_13.out⟩, ⟨by repeat (first | (with_reducible first | exact HB.out | apply below_alloc | apply pw_below_drewN | apply below_drew1) | exact HB.out)⟩⟩
                     ·rw [if_neg c38] at H
                      have c38b0 : ((rd t206 (rd t201 x14_3)) == 0) = false := beq_eq_false_iff_ne.mpr c38
                      have c38b1 : ((rd t206 (rd t201 x14_3)) != 0) = true := bne_iff_ne.mpr c38
                      have H' := Aside0.mk H
                      clear H
                      obtain ⟨Ao42, co42, eo42⟩ := Kd.R_slice HO_8.out
                      subst eo42
                      have p220 : 0 ≤ (x14_3 : Int) := of_decide_eq_true (by first | (with_reducible assumption) | assumption)
                      have q220 : x14_3 < (t206.length : Int) := of_decide_eq_true (by first | (with_reducible assumption) | assumption)
                      obtain ⟨ad220, e220, hx220_0⟩ := Kd.at_int (Kd.R_reads' HO_8.out).2.2 x14_3 p220 q220
                      cases e220
                      replace p220 := eq_true p220
                      replace q220 := eq_true q220
                      have p221 : 0 ≤ (x14_3 : Int) := of_decide_eq_true (by first | (with_reducible assumption) | assumption)
                      have q221 : x14_3 < (t201.length : Int) := of_decide_eq_true (by first | (with_reducible assumption) | assumption)
                      obtain ⟨ad221, e221, hx221_0⟩ := Kd.at_int (Kd.R_reads' HO_5.out).2.2 x14_3 p221 q221
                      cases e221
                      replace p221 := eq_true p221
                      replace q221 := eq_true q221
                      have p222 : 0 ≤ (x14_3 : Int) := of_decide_eq_true (by first | (with_reducible assumption) | assumption)
                      have q222 : x14_3 < (t201.length : Int) := of_decide_eq_true (by first | (with_reducible assumption) | assumption)
                      obtain ⟨ad222, e222, hx222_0⟩ := Kd.at_int (Kd.R_reads' HO_5.out).2.2 x14_3 p222 q222
                      obtain rfl : ad221 = ad222 := (by injection e222)
                      replace p222 := eq_true p222
                      replace q222 := eq_true q222
                      have p223 : 0 ≤ ((rd t201 x14_3) : Int) := of_decide_eq_true (by first | (with_reducible assumption) | assumption)
                      have q223 : (rd t201 x14_3) < (t206.length : Int) := of_decide_eq_true (by first | (with_reducible assumption) | assumption)
                      obtain ⟨ad223, e223, hx223_0⟩ := Kd.at_int (Kd.R_reads' HO_8.out).2.2 (rd t201 x14_3) p223 q223
                      obtain rfl : ad220 = ad223 := (by injection e223)
                      replace p223 := eq_true p223
                      replace q223 := eq_true q223
                      go_wp2
                      go_meet
                      case rel => exact ⟨_, (true), (by first | rfl | (simp; done) | (simp [*]; done)), H', ⟨by have := HJ6.out; have := HJ15.out; have := HK3.out; first | omega | exact Nat.le_refl _⟩, ⟨by (with_reducible repeat (first | apply Kd.R_alloc | apply Kd.R_drewN | apply Kd.R_drew)); exact HO_5.out⟩, ⟨by (with_reducible repeat (first | apply Kd.R_alloc | apply Kd.R_drewN | apply Kd.R_drew)); exact HO_8.out⟩, ⟨by (with_reducible repeat (first | apply Kd.S_alloc | apply Kd.S_drewN | apply Kd.S_drew)); exact HO_12.out⟩, ⟨by (with_reducible repeat (first | apply Kd.R_alloc | apply Kd.R_drewN | apply Kd.R_drew)); exact HO_13.out⟩, ⟨by repeat (first | (with_reducible first | exact HB.out | apply below_alloc | apply pw_below_drewN | apply below_drew1) | exact HB.out)⟩⟩
                    ·rw [if_neg c37] at H
                     exact absurd H (by simp)
                   ·rw [if_neg c36] at H
                    exact absurd H (by simp)
                 ·rw [if_neg c33] at H
                  exact absurd H (by simp)
                ·rw [if_neg c32] at H
                 have c32b0 : ((rd t206 x14_3) == 1) = false := beq_eq_false_iff_ne.mpr c32
                 have c32b1 : ((rd t206 x14_3) != 1) = true := bne_iff_ne.mpr c32
                 by_cases c43 : (rd t206 x14_3) = 2
                 ·rw [if_pos c43] at H
                  have c43b0 : ((rd t206 x14_3) == 2) = true := beq_iff_eq.mpr c43
                  have c43b1 : ((rd t206 x14_3) != 2) = false := bne_eq_false_iff_eq.mpr c43
                  clear c43
                  by_cases c44 : x14_3 < (t201.length : Int)
                  ·rw [if_pos c44] at H
                   have c44b0 : decide (x14_3 < (t201.length : Int)) = true := decide_eq_true c44
                   clear c44
                   by_cases c45 : (rd t201 x14_3) = a0
                   ·rw [if_pos c45] at H
                    have c45b0 : ((rd t201 x14_3) == a0) = true := beq_iff_eq.mpr c45
                    have c45b1 : ((rd t201 x14_3) != a0) = false := bne_eq_false_iff_eq.mpr c45
                    clear c45
                    have H' := Aside0.mk H
                    clear H
                    obtain ⟨Ao46, co46, eo46⟩ := Kd.R_slice HO_8.out
                    subst eo46
                    have p220 : 0 ≤ (x14_3 : Int) := of_decide_eq_true (by first | (with_reducible assumption) | assumption)
                    have q220 : x14_3 < (t206.length : Int) := of_decide_eq_true (by first | (with_reducible assumption) | assumption)
                    obtain ⟨ad220, e220, hx220_0⟩ := Kd.at_int (Kd.R_reads' HO_8.out).2.2 x14_3 p220 q220
                    cases e220
                    replace p220 := eq_true p220
                    replace q220 := eq_true q220
                    have p228 : 0 ≤ (x14_3 : Int) := of_decide_eq_true (by first | (with_reducible assumption) | assumption)
                    have q228 : x14_3 < (t206.length : Int) := of_decide_eq_true (by first | (with_reducible assumption) | assumption)
                    obtain ⟨ad228, e228, hx228_0⟩ := Kd.at_int (Kd.R_reads' HO_8.out).2.2 x14_3 p228 q228
                    obtain rfl : ad220 = ad228 := (by injection e228)
                    replace p228 := eq_true p228
                    replace q228 := eq_true q228
                    have p229 : 0 ≤ (x14_3 : Int) := of_decide_eq_true (by first | (with_reducible assumption) | assumption)
                    have q229 : x14_3 < (t201.length : Int) := of_decide_eq_true (by first | (with_reducible assumption) | assumption)
                    obtain ⟨ad229, e229, hx229_0⟩ := Kd.at_int (Kd.R_reads' HO_5.out).2.2 x14_3 p229 q229
                    cases e229
                    replace p229 := eq_true p229
                    replace q229 := eq_true q229
                    go_wp2
                    go_meet
                    case rel => exact ⟨_, (true), (by first | rfl | (simp; done) | (simp [*]; done)), H', ⟨by have := HJ6.out; have := HJ15.out; have := HK3.out; first | omega | exact Nat.le_refl _⟩, ⟨by (with_reducible repeat (first | apply Kd.R_alloc | apply Kd.R_drewN | apply Kd.R_drew)); exact HO_5.out⟩, ⟨by (with_reducible repeat (first | apply Kd.R_alloc | apply Kd.R_drewN | apply Kd.R_drew)); exact HO_8.out⟩, ⟨by (with_reducible repeat (first | apply Kd.S_alloc | apply Kd.S_drewN | apply Kd.S_drew)); exact HO_12.out⟩, ⟨by (with_reducible repeat (first | apply Kd.R_alloc | apply Kd.R_drewN | apply Kd.R_drew)); exact HO_13.out⟩, ⟨by repeat (first | (with_reducible first | exact HB.out | apply below_alloc | apply pw_below_drewN | apply below_drew1) | exact HB.out)⟩⟩
                   ·rw [if_neg c45] at H
                    have c45b0 : ((rd t201 x14_3) == a0) = false := beq_eq_false_iff_ne.mpr c45
                    have c45b1 : ((rd t201 x14_3) != a0) = true := bne_iff_ne.mpr c45
                    by_cases c47 : 0 ≤ (rd t201 x14_3)
                    ·rw [if_pos c47] at H
                     have c47b0 : decide (0 ≤ (rd t201 x14_3)) = true := decide_eq_true c47
                     clear c47
                     by_cases c48 : (rd t201 x14_3) < (t206.length : Int)
                     ·rw [if_pos c48] at H
                      have c48b0 : decide ((rd t201 x14_3) < (t206.length : Int)) = true := decide_eq_true c48
                      clear c48
                      have H' := Aside0.mk H
                      clear H
                      obtain ⟨Ao49, co49, eo49⟩ := Kd.R_slice HO_8.out
                      subst eo49
                      have p220 : 0 ≤ (x14_3 : Int) := of_decide_eq_true (by first | (with_reducible assumption) | assumption)
                      have q220 : x14_3 < (t206.length : Int) := of_decide_eq_true (by first | (with_reducible assumption) | assumption)
                      obtain ⟨ad220, e220, hx220_0⟩ := Kd.at_int (Kd.R_reads' HO_8.out).2.2 x14_3 p220 q220
                      cases e220
                      replace p220 := eq_true p220
                      replace q220 := eq_true q220
                      have p228 : 0 ≤ (x14_3 : Int) := of_decide_eq_true (by first | (with_reducible assumption) | assumption)
                      have q228 : x14_3 < (t206.length : Int) := of_decide_eq_true (by first | (with_reducible assumption) | assumption)
                      obtain ⟨ad228, e228, hx228_0⟩ := Kd.at_int (Kd.R_reads' HO_8.out).2.2 x14_3 p228 q228
                      obtain rfl : ad220 = ad228 := (by injection e228)
                      replace p228 := eq_true p228
                      replace q228 := eq_true q228
                      have p229 : 0 ≤ (x14_3 : Int) := of_decide_eq_true (by first | (with_reducible assumption) | assumption)
                      have q229 : x14_3 < (t201.length : Int) := of_decide_eq_true (by first | (with_reducible assumption) | assumption)
                      obtain ⟨ad229, e229, hx229_0⟩ := Kd.at_int (Kd.R_reads' HO_5.out).2.2 x14_3 p229 q229
                      cases e229
                      replace p229 := eq_true p229
                      replace q229 := eq_true q229
                      have p230 : 0 ≤ (x14_3 : Int) := of_decide_eq_true (by first | (with_reducible assumption) | assumption)
                      have q230 : x14_3 < (t201.length : Int) := of_decide_eq_true (by first | (with_reducible assumption) | assumption)
                      obtain ⟨ad230, e230, hx230_0⟩ := Kd.at_int (Kd.R_reads' HO_5.out).2.2 x14_3 p230 q230
                      obtain rfl : ad229 = ad230 := (by injection e230)
                      replace p230 := eq_true p230
                      replace q230 := eq_true q230
                      have p231 : 0 ≤ ((rd t201 x14_3) : Int) := of_decide_eq_true (by first | (with_reducible assumption) | assumption)
                      have q231 : (rd t201 x14_3) < (t206.length : Int) := of_decide_eq_true (by first | (with_reducible assumption) | assumption)
                      obtain ⟨ad231, e231, hx231_0⟩ := Kd.at_int (Kd.R_reads' HO_8.out).2.2 (rd t201 x14_3) p231 q231
                      obtain rfl : ad220 = ad231 := (by injection e231)
                      replace p231 := eq_true p231
                      replace q231 := eq_true q231
                      go_wp2
                      go_meet
                      case rel => exact ⟨_, (((rd t206 (rd t201 x14_3)) != 2)), (by first | rfl | (simp; done) | (simp [*]; done)), H', ⟨by have := HJ6.out; have := HJ15.out; have := HK3.out; first | omega | exact Nat.le_refl _⟩, ⟨by (with_reducible repeat (first | apply Kd.R_alloc | apply Kd.R_drewN | apply Kd.R_drew)); exact HO_5.out⟩, ⟨by (with_reducible repeat (first | apply Kd.R_alloc | apply Kd.R_drewN | apply Kd.R_drew)); exact HO_8.out⟩, ⟨by (with_reducible repeat (first | apply Kd.S_alloc | apply Kd.S_drewN | apply Kd.S_drew)); exact HO_12.out⟩, ⟨by (with_reducible repeat (first | apply Kd.R_alloc | apply Kd.R_drewN | apply Kd.R_drew)); exact HO_13.out⟩, ⟨by repeat (first | (with_reducible first | exact HB.out | apply below_alloc | apply pw_below_drewN | apply below_drew1) | exact HB.out)⟩⟩
                     ·rw [if_neg c48] at H
                      exact absurd H (by simp)
                    ·rw [if_neg c47] at H
                     exact absurd H (by simp)
                  ·rw [if_neg c44] at H
                   exact absurd H (by simp)
                 ·rw [if_neg c43] at H
                  have c43b0 : ((rd t206 x14_3) == 2) = false := beq_eq_false_iff_ne.mpr c43
                  have c43b1 : ((rd t206 x14_3) != 2) = true := bne_iff_ne.mpr c43
                  have H' := Aside0.mk H
                  clear H
                  obtain ⟨Ao50, co50, eo50⟩ := Kd.R_slice HO_8.out
                  subst eo50
                  have p220 : 0 ≤ (x14_3 : Int) := of_decide_eq_true (by first | (with_reducible assumption) | assumption)
                  have q220 : x14_3 < (t206.length : Int) := of_decide_eq_true (by first | (with_reducible assumption) | assumption)
                  obtain ⟨ad220, e220, hx220_0⟩ := Kd.at_int (Kd.R_reads' HO_8.out).2.2 x14_3 p220 q220
                  cases e220
                  replace p220 := eq_true p220
                  replace q220 := eq_true q220
                  have p228 : 0 ≤ (x14_3 : Int) := of_decide_eq_true (by first | (with_reducible assumption) | assumption)
                  have q228 : x14_3 < (t206.length : Int) := of_decide_eq_true (by first | (with_reducible assumption) | assumption)
                  obtain ⟨ad228, e228, hx228_0⟩ := Kd.at_int (Kd.R_reads' HO_8.out).2.2 x14_3 p228 q228
                  obtain rfl : ad220 = ad228 := (by injection e228)
                  replace p228 := eq_true p228
                  replace q228 := eq_true q228
                  go_wp2
                  go_meet
                  case rel => exact ⟨_, (false), (by first | rfl | (simp; done) | (simp [*]; done)), H', ⟨by have := HJ6.out; have := HJ15.out; have := HK3.out; first | omega | exact Nat.le_refl _⟩, ⟨by (with_reducible repeat (first | apply Kd.R_alloc | apply Kd.R_drewN | apply Kd.R_drew)); exact HO_5.out⟩, ⟨by (with_reducible repeat (first | apply Kd.R_alloc | apply Kd.R_drewN | apply Kd.R_drew)); exact HO_8.out⟩, ⟨by (with_reducible repeat (first | apply Kd.S_alloc | apply Kd.S_drewN | apply Kd.S_drew)); exact HO_12.out⟩, ⟨by (with_reducible repeat (first | apply Kd.R_alloc | apply Kd.R_drewN | apply Kd.R_drew)); exact HO_13.out⟩, ⟨by repeat (first | (with_reducible first | exact HB.out | apply below_alloc | apply pw_below_drewN | apply below_drew1) | exact HB.out)⟩⟩
               ·rw [if_neg c31] at H
                exact absurd H (by simp)
              ·rw [if_neg c30] at H
               exact absurd H (by simp)
             case rest => as_aux_lemma =>
              clear HC29
              try clear c1
              try clear c2
              try clear p2
              try clear q2
              try clear hx2
              try clear c3
              try clear c4
              try clear c10
              try clear c10b0
              try clear c10b1
              try clear c11
              try clear c12
              try clear c12b0
              try clear c12b1
              try clear c13
              try clear c15
              try clear c19
              try clear c20
              try clear c21
              try clear p22
              try clear q22
              try clear hx22
              try clear c23
              try clear c23b0
              try clear c23b1
              try clear p23
              try clear q23
              try clear hx23
              try clear c24
              try clear c24b0
              try clear c24b1
              try clear c28
              try clear c28b0
              try clear c30
              try clear c30b0
              try clear c31
              try clear c31b0
              try clear c32
              try clear c32b0
              try clear c32b1
              try clear c33
              try clear c33b0
              try clear c34
              try clear c34b0
              try clear c34b1
              try clear c36
              try clear c36b0
              try clear c37
              try clear c37b0
              try clear c38
              try clear c38b0
              try clear c38b1
              try clear c39
              try clear c39b0
              try clear c39b1
              try clear c43
              try clear c43b0
              try clear c43b1
              try clear c44
              try clear c44b0
              try clear c45
              try clear c45b0
              try clear c45b1
              try clear c47
              try clear c47b0
              try clear c48
              try clear c48b0
              try clear hx220_0
              try clear hx221_0
              try clear hx222_0
              try clear hx223_0
              try clear hx224_0
              try clear hx225_0
              try clear hx226_0
              try clear hx227_0
              try clear hx228_0
              try clear hx229_0
              try clear hx230_0
              try clear hx231_0
              try clear p2
              try clear p220
              try clear p221
              try clear p222
              try clear p223
              try clear p224
              try clear p225
              try clear p226
              try clear p227
              try clear p228
              try clear p229
              try clear p230
              try clear p231
              try clear q220
              try clear q221
              try clear q222
              try clear q223
              try clear q224
              try clear q225
              try clear q226
              try clear q227
              try clear q228
              try clear q229
              try clear q230
              try clear q231
              obtain ⟨kq, x122_28, rfl, HA, HJ28, HO_5, HO_8, HO_12, HO_13, HB⟩ := hcut
              cases kq with
              | zero => exact absurd HA.out (by simp [kimberlitelaw04_PairGallai.j3])
              | succ kj28 =>
               have H := HA.out
               clear HA
               simp only [kimberlitelaw04_PairGallai.j3] at H
               by_cases c51 : x122_28 = true
               ·subst c51
                have H1 : (some false) = some r := by rw [if_pos rfl] at H; exact H
                clear H
                have H := H1
                clear H1
                obtain rfl := Option.some.inj H
                go_wp2
                go_ret
                exact ⟨by first | rfl | (simp [errW_none, errW_some] <;> rfl) | (simp [*, errW_none, errW_some] <;> rfl), by repeat (first | (with_reducible first | exact HB.out | apply below_alloc | apply pw_below_drewN | apply below_drew1) | exact HB.out)⟩
               ·replace c51 := Bool.eq_false_iff.mpr c51
                subst c51
                have H1 : (if 0 ≤ x14_3 then (if x14_3 < (t206.length : Int) then (if (rd t206 x14_3) = 0 then (if x14_3 < (x13_3.length : Int) then (kimberlitelaw04_PairGallai.j4 kj28 a0 t201 t206 t213 x13_3 x14_3 (rdOf false x13_3 x14_3)) else (none)) else (kimberlitelaw04_PairGallai.j4 kj28 a0 t201 t206 t213 x13_3 x14_3 true)) else (none)) else (none)) = some r := by rw [if_neg (show ¬ (false = true) by decide)] at H; exact H
                clear H
                have H := H1
                clear H1
                have HC52 := Aside0.mk H
                clear H
                go_upto_region 17 with (fail)
                go_cut [133] (fun v133 wc => ∃ (kq : Nat) (x133_51 : Bool), v133 = .bool x133_51 ∧ Aside0 (kimberlitelaw04_PairGallai.j4 kq a0 t201 t206 t213 x13_3 x14_3 x133_51 = some r) ∧ Aside0 (kq ≤ kj28) ∧ Aside0 (Kd.R (Kd.int .i64) 3 wc w.heap.size (fun k_ => some k_ ≠ (v208 : Value).ownBlock) (.slice Ao17 t201.length co17) t201) ∧ Aside0 (Kd.R (Kd.int .i64) 3 wc w.heap.size (fun k_ => some k_ ≠ ((.slice Ao17 t201.length co17) : Value).ownBlock) v208 t206) ∧ Aside0 (Kd.S (Kd.slice 4 Kd.bool) 39 wc w.heap.size (fun k_ => some k_ ≠ (v217 : Value).ownBlock) v214 t213) ∧ Aside0 (Kd.R Kd.bool 4 wc w.heap.size (fun _ => True) v217 x13_3) ∧ Aside0 (Below w.heap.size w wc))
                case first => as_aux_lemma =>
                 have H := HC52.out
                 clear HC52
                 by_cases c53 : 0 ≤ x14_3
                 ·rw [if_pos c53] at H
                  have c53b0 : decide (0 ≤ x14_3) = true := decide_eq_true c53
                  clear c53
                  (first | rw [c53b0] | (simp only [i64_w, i32_w]; rw [c53b0]) | skip)
                  by_cases c54 : x14_3 < (t206.length : Int)
                  ·rw [if_pos c54] at H
                   have c54b0 : decide (x14_3 < (t206.length : Int)) = true := decide_eq_true c54
                   clear c54
                   by_cases c55 : (rd t206 x14_3) = 0
                   ·rw [if_pos c55] at H
                    have c55b0 : ((rd t206 x14_3) == 0) = true := beq_iff_eq.mpr c55
                    have c55b1 : ((rd t206 x14_3) != 0) = false := bne_eq_false_iff_eq.mpr c55
                    clear c55
                    by_cases c56 : x14_3 < (x13_3.length : Int)
                    ·rw [if_pos c56] at H
                     have c56b0 : decide (x14_3 < (x13_3.length : Int)) = true := decide_eq_true c56
                     clear c56
                     have H' := Aside0.mk H
                     clear H
                     obtain ⟨Ao57, co57, eo57⟩ := Kd.R_slice HO_8.out
                     subst eo57
                     have p232 : 0 ≤ (x14_3 : Int) := of_decide_eq_true (by first | (with_reducible assumption) | assumption)
                     have q232 : x14_3 < (t206.length : Int) := of_decide_eq_true (by first | (with_reducible assumption) | assumption)
                     obtain ⟨ad232, e232, hx232_0⟩ := Kd.at_int (Kd.R_reads' HO_8.out).2.2 x14_3 p232 q232
                     cases e232
                     replace p232 := eq_true p232
                     replace q232 := eq_true q232
                     obtain ⟨Ao58, co58, eo58⟩ := Kd.R_slice HO_13.out
                     subst eo58
                     have p233 : 0 ≤ (x14_3 : Int) := of_decide_eq_true (by first | (with_reducible assumption) | assumption)
                     have q233 : x14_3 < (x13_3.length : Int) := of_decide_eq_true (by first | (with_reducible assumption) | assumption)
                     obtain ⟨ad233, e233, hx233_0⟩ := Kd.at_bool (Kd.R_reads' HO_13.out).2.2 x14_3 p233 q233
                     cases e233
                     replace p233 := eq_true p233
                     replace q233 := eq_true q233
                     go_wp2
                     go_meet
                     case rel => exact ⟨_, (rdOf false x13_3 x14_3), (by first | rfl | (simp; done) | (simp [*]; done)), H', ⟨by have := HJ6.out; have := HJ15.out; have := HK3.out; have := HJ28.out; first | omega | exact Nat.le_refl _⟩, ⟨by (with_reducible repeat (first | apply Kd.R_alloc | apply Kd.R_drewN | apply Kd.R_drew)); exact HO_5.out⟩, ⟨by (with_reducible repeat (first | apply Kd.R_alloc | apply Kd.R_drewN | apply Kd.R_drew)); exact HO_8.out⟩, ⟨by (with_reducible repeat (first | apply Kd.S_alloc | apply Kd.S_drewN | apply Kd.S_drew)); exact HO_12.out⟩, ⟨by (with_reducible repeat (first | apply Kd.R_alloc | apply Kd.R_drewN | apply Kd.R_drew)); exact HO_13.out⟩, ⟨by repeat (first | (with_reducible first | exact HB.out | apply below_alloc | apply pw_below_drewN | apply below_drew1) | exact HB.out)⟩⟩
                    ·rw [if_neg c56] at H
                     exact absurd H (by simp)
                   ·rw [if_neg c55] at H
                    have c55b0 : ((rd t206 x14_3) == 0) = false := beq_eq_false_iff_ne.mpr c55
                    have c55b1 : ((rd t206 x14_3) != 0) = true := bne_iff_ne.mpr c55
                    have H' := Aside0.mk H
                    clear H
                    obtain ⟨Ao59, co59, eo59⟩ := Kd.R_slice HO_8.out
                    subst eo59
                    have p232 : 0 ≤ (x14_3 : Int) := of_decide_eq_true (by first | (with_reducible assumption) | assumption)
                    have q232 : x14_3 < (t206.length : Int) := of_decide_eq_true (by first | (with_reducible assumption) | assumption)
                    obtain ⟨ad232, e232, hx232_0⟩ := Kd.at_int (Kd.R_reads' HO_8.out).2.2 x14_3 p232 q232
                    cases e232
                    replace p232 := eq_true p232
                    replace q232 := eq_true q232
                    go_wp2
                    go_meet
                    case rel => exact ⟨_, (true), (by first | rfl | (simp; done) | (simp [*]; done)), H', ⟨by have := HJ6.out; have := HJ15.out; have := HK3.out; have := HJ28.out; first | omega | exact Nat.le_refl _⟩, ⟨by (with_reducible repeat (first | apply Kd.R_alloc | apply Kd.R_drewN | apply Kd.R_drew)); exact HO_5.out⟩, ⟨by (with_reducible repeat (first | apply Kd.R_alloc | apply Kd.R_drewN | apply Kd.R_drew)); exact HO_8.out⟩, ⟨by (with_reducible repeat (first | apply Kd.S_alloc | apply Kd.S_drewN | apply Kd.S_drew)); exact HO_12.out⟩, ⟨by (with_reducible repeat (first | apply Kd.R_alloc | apply Kd.R_drewN | apply Kd.R_drew)); exact HO_13.out⟩, ⟨by repeat (first | (with_reducible first | exact HB.out | apply below_alloc | apply pw_below_drewN | apply below_drew1) | exact HB.out)⟩⟩
                  ·rw [if_neg c54] at H
                   exact absurd H (by simp)
                 ·rw [if_neg c53] at H
                  exact absurd H (by simp)
                case rest => as_aux_lemma =>
                 clear HC52
                 try clear c1
                 try clear c2
                 try clear p2
                 try clear q2
                 try clear hx2
                 try clear c3
                 try clear c4
                 try clear c5
                 try clear c10
                 try clear c10b0
                 try clear c10b1
                 try clear c11
                 try clear c12
                 try clear c12b0
                 try clear c12b1
                 try clear c13
                 try clear c15
                 try clear c19
                 try clear c20
                 try clear c21
                 try clear p22
                 try clear q22
                 try clear hx22
                 try clear c23
                 try clear c23b0
                 try clear c23b1
                 try clear p23
                 try clear q23
                 try clear hx23
                 try clear c24
                 try clear c24b0
                 try clear c24b1
                 try clear c28
                 try clear c28b0
                 try clear c30
                 try clear c30b0
                 try clear c31
                 try clear c31b0
                 try clear c32
                 try clear c32b0
                 try clear c32b1
                 try clear c33
                 try clear c33b0
                 try clear c34
                 try clear c34b0
                 try clear c34b1
                 try clear c36
                 try clear c36b0
                 try clear c37
                 try clear c37b0
                 try clear c38
                 try clear c38b0
                 try clear c38b1
                 try clear c39
                 try clear c39b0
                 try clear c39b1
                 try clear c43
                 try clear c43b0
                 try clear c43b1
                 try clear c44
                 try clear c44b0
                 try clear c45
                 try clear c45b0
                 try clear c45b1
                 try clear c47
                 try clear c47b0
                 try clear c48
                 try clear c48b0
                 try clear c51
                 try clear c53
                 try clear c53b0
                 try clear c54
                 try clear c54b0
                 try clear c55
                 try clear c55b0
                 try clear c55b1
                 try clear c56
                 try clear c56b0
                 try clear hx220_0
                 try clear hx221_0
                 try clear hx222_0
                 try clear hx223_0
                 try clear hx224_0
                 try clear hx225_0
                 try clear hx226_0
                 try clear hx227_0
                 try clear hx228_0
                 try clear hx229_0
                 try clear hx230_0
                 try clear hx231_0
                 try clear hx232_0
                 try clear hx233_0
                 try clear p2
                 try clear p22
                 try clear p220
                 try clear p221
                 try clear p222
                 try clear p223
                 try clear p224
                 try clear p225
                 try clear p226
                 try clear p227
                 try clear p228
                 try clear p229
                 try clear p23
                 try clear p230
                 try clear p231
                 try clear p232
                 try clear p233
                 try clear q2
                 try clear q22
                 try clear q220
                 try clear q221
                 try clear q222
                 try clear q223
                 try clear q224
                 try clear q225
                 try clear q226
                 try clear q227
                 try clear q228
                 try clear q229
                 try clear q23
                 try clear q230
                 try clear q231
                 try clear q232
                 try clear q233
                 obtain ⟨kq, x133_51, rfl, HA, HJ51, HO_5, HO_8, HO_12, HO_13, HB⟩ := hcut
                 cases kq with
                 | zero => exact absurd HA.out (by simp [kimberlitelaw04_PairGallai.j4])
                 | succ kj51 =>
                  have H := HA.out
                  clear HA
                  simp only [kimberlitelaw04_PairGallai.j4] at H
                  by_cases c60 : x133_51 = true
                  ·subst c60
                   have H1 : (kimberlitelaw04_PairGallai.l0 kj51 a0 t201 t206 t213 x13_3 (wrap64 (x14_3 + 1))) = some r := by rw [if_pos rfl] at H; exact H
                   clear H
                   have H := H1
                   clear H1
                   have H' := Aside0.mk H
                   clear H
                   go_wp2
                   go_roundg kj51
                   case measure => have := HJ6.out; have := HJ15.out; have := HK3.out; have := HJ28.out; have := HJ51.out; omega
                   case rel => exact ⟨(x13_3), (wrap64 (x14_3 + 1)), (by first | rfl | (simp; done) | (simp [*]; done)), H', ⟨by have := HJ6.out; have := HJ15.out; have := HK3.out; have := HJ28.out; have := HJ51.out; omega⟩, ⟨by (with_reducible repeat (first | apply Kd.R_alloc | apply Kd.R_drewN | apply Kd.R_drew)); exact HO_5.out⟩, ⟨by (with_reducible repeat (first | apply Kd.R_alloc | apply Kd.R_drewN | apply Kd.R_drew)); exact HO_8.out⟩, ⟨by (with_reducible repeat (first | apply Kd.S_alloc | apply Kd.S_drewN | apply Kd.S_drew)); exact HO_12.out⟩, ⟨by (with_reducible repeat (first | apply Kd.R_alloc | apply Kd.R_drewN | apply Kd.R_drew)); exact HO_13.out⟩, ⟨by repeat (first | (with_reducible first | exact HB.out | apply below_alloc | apply pw_below_drewN | apply below_drew1) | exact HB.out)⟩⟩
                  ·replace c60 := Bool.eq_false_iff.mpr c60
                   subst c60
                   have H1 : (if 0 ≤ a0 then (if (a0 : Int).toNat ≤ 281474976710656 then ((some (List.replicate (a0 : Int).toNat false : List Bool)).bind fun y237 => (if 0 ≤ x14_3 then (if x14_3 < (y237.length : Int) then (kimberlitelaw04_PairGallai.l1 kj51 a0 t201 t206 t213 x13_3 x14_3 (([x14_3] : List Int)) (y237.set (x14_3 : Int).toNat true) 0) else (none)) else (none))) else (none)) else (none)) = some r := by rw [if_neg (show ¬ (false = true) by decide)] at H; exact H
                   clear H
                   have H := H1
                   clear H1
                   obtain ⟨y234, hy234⟩ : ∃ y_ : List Int, y_ = (([x14_3] : List Int)) := ⟨_, rfl⟩
                   replace H : (if 0 ≤ a0 then (if (a0 : Int).toNat ≤ 281474976710656 then ((some (List.replicate (a0 : Int).toNat false : List Bool)).bind fun y237 => (if 0 ≤ x14_3 then (if x14_3 < (y237.length : Int) then (kimberlitelaw04_PairGallai.l1 kj51 a0 t201 t206 t213 x13_3 x14_3 y234 (y237.set (x14_3 : Int).toNat true) 0) else (none)) else (none))) else (none)) else (none)) = some r := by first | (rw [hy234]; with_reducible exact H) | (have H2_ := (Option.bind_some _ _).symm.trans H; rw [hy234]; with_reducible exact H2_) | (have H2_ := (Option.bind_some _ _).symm.trans H; with_reducible exact H2_) | with_reducible exact H | (rw [hy234]; exact H) | exact H
                   have Ny234 := Aside0.mk hy234
                   clear hy234
                   by_cases c61 : 0 ≤ a0
                   ·rw [if_pos c61] at H
                    have c61b0 := eq_true c61
                    have c61b1 : decide (0 ≤ a0) = true := decide_eq_true c61
                    clear c61
                    by_cases c62 : (a0 : Int).toNat ≤ 281474976710656
                    ·rw [if_pos c62] at H
                     have c62b0 := eq_true c62
                     have c62b1 : decide ((a0 : Int).toNat ≤ 281474976710656) = true := decide_eq_true c62
                     clear c62
                     obtain ⟨y237, hy237⟩ : ∃ y_ : List Bool, y_ = (List.replicate (a0 : Int).toNat false) := ⟨_, rfl⟩
                     replace H : (if 0 ≤ x14_3 then (if x14_3 < (y237.length : Int) then (kimberlitelaw04_PairGallai.l1 kj51 a0 t201 t206 t213 x13_3 x14_3 y234 (y237.set (x14_3 : Int).toNat true) 0) else (none)) else (none)) = some r := by first | (rw [hy237]; with_reducible exact H) | (have H2_ := (Option.bind_some _ _).symm.trans H; rw [hy237]; with_reducible exact H2_) | (have H2_ := (Option.bind_some _ _).symm.trans H; with_reducible exact H2_) | with_reducible exact H | (rw [hy237]; exact H) | exact H
                     have Ny237 := Aside0.mk hy237
                     clear hy237
                     by_cases c63 : 0 ≤ x14_3
                     ·rw [if_pos c63] at H
                      have c63b0 : decide (0 ≤ x14_3) = true := decide_eq_true c63
                      clear c63
                      by_cases c64 : x14_3 < (y237.length : Int)
                      ·rw [if_pos c64] at H
                       have c64b0 : decide (x14_3 < (y237.length : Int)) = true := decide_eq_true c64
                       clear c64
                       obtain ⟨y240, hy240⟩ : ∃ y_ : List Bool, y_ = (y237.set (x14_3 : Int).toNat true) := ⟨_, rfl⟩
                       replace H : (kimberlitelaw04_PairGallai.l1 kj51 a0 t201 t206 t213 x13_3 x14_3 y234 y240 0) = some r := by first | (rw [hy240]; with_reducible exact H) | (have H2_ := (Option.bind_some _ _).symm.trans H; rw [hy240]; with_reducible exact H2_) | (have H2_ := (Option.bind_some _ _).symm.trans H; with_reducible exact H2_) | with_reducible exact H | (rw [hy240]; exact H) | exact H
                       have Ny240 := Aside0.mk hy240
                       clear hy240
                       have H' := Aside0.mk H
                       clear H
                       go_wp2_with (first | ((with_reducible refine gate_dst (N := 135) rfl ?_); (try (refine gate_guard (by rfl) ?_; dsimp only)); refine Kd.R_lit (Kd.int .i64) _ 3 ?hg (N := 135) ?hd (xs := ([x14_3] : List Int)) (inner := [.int .i64 x14_3]) (ok := fun _ => True) (okp := fun _ => True) ?hr ?hp (fun _ hk => hk) trivial (Below.refl _ _) (Nat.le_refl _) (by simp) ?_; (case hd => rfl); (case hg => rfl); (case hr => first | (go_simp; done) | (go_simp; rfl)); (case hp => exact (Reps.one (show Kd.M (Kd.int .i64) _ _ _ x14_3 [.int .i64 x14_3] from rfl) (Reps.none _ _))); intro v235 w66 ho67 hb hg_ hnew_; clear hg_ hnew_; (first | rw [← Ny234.out] at ho67 | (simp only [Int.reduceToNat] at ho67; rw [← Ny234.out] at ho67)); have n0_ := Aside0.mk (Kd.R_elder' (by (with_reducible repeat (first | apply Kd.R_alloc | apply Kd.R_drewN | apply Kd.R_drew)); exact HO_5.out) (Kd.R_base ho67) hb); have n1_ := Aside0.mk (Kd.R_elder' (by (with_reducible repeat (first | apply Kd.R_alloc | apply Kd.R_drewN | apply Kd.R_drew)); exact HO_8.out) (Kd.R_base ho67) hb); have n2_ := Aside0.mk (Kd.S_below (by (with_reducible repeat (first | apply Kd.S_alloc | apply Kd.S_drewN | apply Kd.S_drew)); exact HO_12.out) hb); have n3_ := Aside0.mk (Kd.R_below (by (with_reducible repeat (first | apply Kd.R_alloc | apply Kd.R_drewN | apply Kd.R_drew)); exact HO_13.out) hb); have n4_ := Aside0.mk (Kd.R_lower (Kd.R_new' (Kd.R_new' ho67 (Kd.R_lt (by (with_reducible repeat (first | apply Kd.R_alloc | apply Kd.R_drewN | apply Kd.R_drew)); exact HO_5.out))) (Kd.R_lt (by (with_reducible repeat (first | apply Kd.R_alloc | apply Kd.R_drewN | apply Kd.R_drew)); exact HO_8.out))) (below_size (by repeat (first | (with_reducible first | exact HB.out | apply below_alloc | apply pw_below_drewN | apply below_drew1) | exact HB.out)))); have n5_ := Aside0.mk (below_step (by repeat (first | (with_reducible first | exact HB.out | apply below_alloc | apply pw_below_drewN | apply below_drew1) | exact HB.out)) hb); clear HO_5; clear HO_8; clear HO_12; clear HO_13; clear HB; have HO_5 := n0_; have HO_8 := n1_; have HO_12 := n2_; have HO_13 := n3_; have HO236 := n4_; have HB := n5_; clear n0_ n1_ n2_ n3_ n4_ n5_; clear hb ho67) | ((with_reducible refine gate_dst (N := 137) rfl ?_); (try (refine gate_guard (by rfl) ?_; dsimp only)); refine Kd.R_make Kd.bool _ 4 rfl (N := 137) rfl 39 _ _ rfl a0 rfl rfl Try.underlying39 (.bool false) 1 info4 rfl (by decide) (by omega) false (ok := fun _ => True) (okp := fun _ => True) rfl (fun _ hk => hk) trivial (of_decide_eq_true (by first | (with_reducible assumption) | assumption)) (Nat.le_trans (Nat.mul_le_mul_right _ (of_decide_eq_true (by first | (with_reducible assumption) | assumption) : a0.toNat ≤ 281474976710656)) (by omega)) (Below.refl _ _) (Nat.le_refl _) ?_; intro v238 w68 ho69 hb hg_ hnew_; clear hg_ hnew_; (first | rw [← Ny237.out] at ho69 | (simp only [Int.reduceToNat] at ho69; rw [← Ny237.out] at ho69)); have n0_ := Aside0.mk (Kd.R_below (by (with_reducible repeat (first | apply Kd.R_alloc | apply Kd.R_drewN | apply Kd.R_drew)); exact HO_5.out) hb); have n1_ := Aside0.mk (Kd.R_below (by (with_reducible repeat (first | apply Kd.R_alloc | apply Kd.R_drewN | apply Kd.R_drew)); exact HO_8.out) hb); have n2_ := Aside0.mk (Kd.S_elder' (by (with_reducible repeat (first | apply Kd.S_alloc | apply Kd.S_drewN | apply Kd.S_drew)); exact HO_12.out) (Kd.R_base ho69) hb); have n3_ := Aside0.mk (Kd.R_elder' (by (with_reducible repeat (first | apply Kd.R_alloc | apply Kd.R_drewN | apply Kd.R_drew)); exact HO_13.out) (Kd.R_base ho69) hb); have n4_ := Aside0.mk (Kd.R_below (by (with_reducible repeat (first | apply Kd.R_alloc | apply Kd.R_drewN | apply Kd.R_drew)); exact HO236.out) hb); have n5_ := Aside0.mk (Kd.R_lower (Kd.R_new' ho69 (Kd.R_lt (by (with_reducible repeat (first | apply Kd.R_alloc | apply Kd.R_drewN | apply Kd.R_drew)); exact HO_13.out))) (below_size (by repeat (first | (with_reducible first | exact HB.out | apply below_alloc | apply pw_below_drewN | apply below_drew1) | exact HB.out)))); have n6_ := Aside0.mk (below_step (by repeat (first | (with_reducible first | exact HB.out | apply below_alloc | apply pw_below_drewN | apply below_drew1) | exact HB.out)) hb); clear HO_5; clear HO_8; clear HO_12; clear HO_13; clear HO236; clear HB; have HO_5 := n0_; have HO_8 := n1_; have HO_12 := n2_; have HO_13 := n3_; have HO236 := n4_; have HO239 := n5_; have HB := n6_; clear n0_ n1_ n2_ n3_ n4_ n5_ n6_; clear hb ho69; have p65 : 0 ≤ (x14_3 : Int) := of_decide_eq_true (by first | (with_reducible assumption) | assumption); have q65 : (x14_3 : Int) < ((y237.length : Int) : Int) := of_decide_eq_true (by first | (with_reducible assumption) | assumption); obtain ⟨go65, co65, eo65, gb65, gl65, cl65, HG65⟩ := Kd.R_form HO239.out (by omega); (first | cases eo65 | (injection eo65 with ea_ en_ ec_; (first | subst ea_ | (injection ea_ with ea_; subst ea_)); subst ec_; clear en_)); have GB65 := Aside0.mk gb65; have GG65 := Aside0.mk HG65; clear gb65 gl65 HG65; obtain ⟨hx65_0, hf65_0⟩ := Kd.R_celln false HO239.out (x14_3 : Int) p65 q65; replace p65 := eq_true p65; replace q65 := eq_true q65; have n_ := Aside0.mk (Kd.R_mono (ok' := (fun k_ => some k_ ≠ (v217 : Value).ownBlock)) HO239.out (fun k_ hk => hk.2)); clear HO239; have HO239 := n_; clear n_; obtain ⟨hy70_, hz70_⟩ := Kd.R_celln false HO239.out (x14_3 : Int) (of_decide_eq_true (by first | (with_reducible assumption) | assumption)) (of_decide_eq_true (by first | (with_reducible assumption) | assumption)); have HP70 := Kd.R_putg HO239.out (x14_3 : Int) true) | ((with_reducible refine gate_store (t := 4) (p := 140) rfl ?_); refine store_event (t := 4) (p := 140) (v := ?vo_w71) (w1 := (w68.setCell ⟨go65, (x14_3 : Int).toNat, none⟩ (.bool true))) ?hg ?ho ?hn ?hr ?_; (case ho => rfl); (case hg => rfl); (case hn => rfl); (case hr => first | (go_simp; done) | (go_simp; rfl)); intro w71 hw; have hg : w68.grownBy w71 (some go65) := (by rw [hw]; exact HP70.2); have hp_ : Kd.R Kd.bool 4 w71 w.heap.size (fun k_ => some k_ ≠ (v217 : Value).ownBlock) (.slice (some ⟨go65, 0, none⟩) y237.length co65) y240 := (by rw [hw, Ny240.out]; exact HP70.1); clear HP70; have n0_ := Aside0.mk (Kd.R_over' (v := (.slice (some ⟨go65, 0, none⟩) y237.length co65)) (by (with_reducible repeat (first | apply Kd.R_alloc | apply Kd.R_drewN | apply Kd.R_drew)); exact HO_5.out) (Kd.R_typed HO239.out) (by decide) hg); have n1_ := Aside0.mk (Kd.R_over' (v := (.slice (some ⟨go65, 0, none⟩) y237.length co65)) (by (with_reducible repeat (first | apply Kd.R_alloc | apply Kd.R_drewN | apply Kd.R_drew)); exact HO_8.out) (Kd.R_typed HO239.out) (by decide) hg); have n2_ := Aside0.mk (Kd.S_after (v := (.slice (some ⟨go65, 0, none⟩) y237.length co65)) (v1 := (.slice (some ⟨go65, 0, none⟩) y237.length co65)) (ok := (fun k_ => some k_ ≠ (v217 : Value).ownBlock)) (by (with_reducible repeat (first | apply Kd.S_alloc | apply Kd.S_drewN | apply Kd.S_drew)); exact HO_12.out) hg (.inl rfl)); have n3_ := Aside0.mk (Kd.R_after (v := (.slice (some ⟨go65, 0, none⟩) y237.length co65)) (v1 := (.slice (some ⟨go65, 0, none⟩) y237.length co65)) (ok := (fun _ => True)) (by (with_reducible repeat (first | apply Kd.R_alloc | apply Kd.R_drewN | apply Kd.R_drew)); exact HO_13.out) hg (.inl rfl)); have n4_ := Aside0.mk (Kd.R_over' (v := (.slice (some ⟨go65, 0, none⟩) y237.length co65)) (by (with_reducible repeat (first | apply Kd.R_alloc | apply Kd.R_drewN | apply Kd.R_drew)); exact HO236.out) (Kd.R_typed HO239.out) (by decide) hg); have n5_ := Aside0.mk (hp_); have n6_ := Aside0.mk ((by rw [hw]; exact below_set (HB.out) GB65.out : Below w.heap.size w w71)); clear HO_5; clear HO_8; clear HO_12; clear HO_13; clear HO236; clear HO239; clear HB; have HO_5 := n0_; have HO_8 := n1_; have HO_12 := n2_; have HO_13 := n3_; have HO236 := n4_; have HO239 := n5_; have HB := n6_; clear n0_ n1_ n2_ n3_ n4_ n5_ n6_; clear hg hw hp_))
                       go_loopg [15, 17] kj51 (fun kq v15 v17 w' => ∃ (x15_6 : List Int) (x16_6 : List Bool) (x17_6 : Int), v17 = .int .i64 x17_6 ∧ Aside0 (kimberlitelaw04_PairGallai.l1 kq a0 t201 t206 t213 x13_3 x14_3 x15_6 x16_6 x17_6 = some r) ∧ Aside0 (kq ≤ kj51) ∧ Aside0 (Kd.R (Kd.int .i64) 3 w' w.heap.size (fun k_ => some k_ ≠ (v208 : Value).ownBlock ∧ some k_ ≠ (v15 : Value).ownBlock) (.slice Ao17 t201.length co17) t201) ∧ Aside0 (Kd.R (Kd.int .i64) 3 w' w.heap.size (fun k_ => some k_ ≠ ((.slice Ao17 t201.length co17) : Value).ownBlock ∧ some k_ ≠ (v15 : Value).ownBlock) v208 t206) ∧ Aside0 (Kd.S (Kd.slice 4 Kd.bool) 39 w' w.heap.size (fun k_ => some k_ ≠ (v217 : Value).ownBlock ∧ some k_ ≠ ((.slice (some ⟨go65, 0, none⟩) y237.length co65) : Value).ownBlock) v214 t213) ∧ Aside0 (Kd.R Kd.bool 4 w' w.heap.size (fun k_ => some k_ ≠ ((.slice (some ⟨go65, 0, none⟩) y237.length co65) : Value).ownBlock) v217 x13_3) ∧ Aside0 (Kd.R (Kd.int .i64) 3 w' w.heap.size (fun k_ => some k_ ≠ ((.slice Ao17 t201.length co17) : Value).ownBlock ∧ some k_ ≠ (v208 : Value).ownBlock) v15 x15_6) ∧ Aside0 (Kd.R Kd.bool 4 w' w.heap.size (fun k_ => some k_ ≠ (v217 : Value).ownBlock) (.slice (some ⟨go65, 0, none⟩) y237.length co65) x16_6) ∧ Aside0 (Below w.heap.size w w'))
                       case atStart => exact ⟨(y234), (y240), (0), (by first | rfl | (simp; done) | (simp [*]; done)), H', ⟨Nat.le_refl _⟩, ⟨by (with_reducible repeat (first | apply Kd.R_alloc | apply Kd.R_drewN | apply Kd.R_drew)); exact HO_5.out⟩, ⟨by (with_reducible repeat (first | apply Kd.R_alloc | apply Kd.R_drewN | apply Kd.R_drew)); exact HO_8.out⟩, ⟨by (with_reducible repeat (first | apply Kd.S_alloc | apply Kd.S_drewN | apply Kd.S_drew)); exact HO_12.out⟩, ⟨by (with_reducible repeat (first | apply Kd.R_alloc | apply Kd.R_drewN | apply Kd.R_drew)); exact Kd.R_mono HO_13.out (fun _ hk => hk.2)⟩, ⟨by (with_reducible repeat (first | apply Kd.R_alloc | apply Kd.R_drewN | apply Kd.R_drew)); exact Kd.R_mono HO236.out (fun _ hk => ⟨hk.1.2, hk.2⟩)⟩, ⟨by (with_reducible repeat (first | apply Kd.R_alloc | apply Kd.R_drewN | apply Kd.R_drew)); exact HO239.out⟩, ⟨by repeat (first | (with_reducible first | exact HB.out | apply below_alloc | apply pw_below_drewN | apply below_drew1) | exact HB.out)⟩⟩
                       case round => as_aux_lemma =>
                        clear H'
                        try clear c1
                        try clear c2
                        try clear p2
                        try clear q2
                        try clear hx2
                        try clear c3
                        try clear c4
                        try clear c5
                        try clear c6
                        try clear p6
                        try clear q6
                        try clear hx6
                        try clear hf6
                        try clear c10
                        try clear c10b0
                        try clear c10b1
                        try clear c11
                        try clear c12
                        try clear c12b0
                        try clear c12b1
                        try clear c13
                        try clear c15
                        try clear c19
                        try clear c20
                        try clear c21
                        try clear p22
                        try clear q22
                        try clear hx22
                        try clear c23
                        try clear c23b0
                        try clear c23b1
                        try clear p23
                        try clear q23
                        try clear hx23
                        try clear c24
                        try clear c24b0
                        try clear c24b1
                        try clear c28
                        try clear c28b0
                        try clear c30
                        try clear c30b0
                        try clear c31
                        try clear c31b0
                        try clear c32
                        try clear c32b0
                        try clear c32b1
                        try clear c33
                        try clear c33b0
                        try clear c34
                        try clear c34b0
                        try clear c34b1
                        try clear c36
                        try clear c36b0
                        try clear c37
                        try clear c37b0
                        try clear c38
                        try clear c38b0
                        try clear c38b1
                        try clear c39
                        try clear c39b0
                        try clear c39b1
                        try clear c43
                        try clear c43b0
                        try clear c43b1
                        try clear c44
                        try clear c44b0
                        try clear c45
                        try clear c45b0
                        try clear c45b1
                        try clear c47
                        try clear c47b0
                        try clear c48
                        try clear c48b0
                        try clear c51
                        try clear c53
                        try clear c53b0
                        try clear c54
                        try clear c54b0
                        try clear c55
                        try clear c55b0
                        try clear c55b1
                        try clear c56
                        try clear c56b0
                        try clear c60
                        try clear c61
                        try clear c61b0
                        try clear c61b1
                        try clear c62
                        try clear c62b0
                        try clear c62b1
                        try clear c63
                        try clear c63b0
                        try clear c64
                        try clear c64b0
                        try clear p64
                        try clear p65
                        try clear q65
                        try clear hx65
                        try clear hf65
                        try clear hx220_0
                        try clear hx221_0
                        try clear hx222_0
                        try clear hx223_0
                        try clear hx224_0
                        try clear hx225_0
                        try clear hx226_0
                        try clear hx227_0
                        try clear hx228_0
                        try clear hx229_0
                        try clear hx230_0
                        try clear hx231_0
                        try clear hx232_0
                        try clear hx233_0
                        try clear hx65_0
                        try clear p2
                        try clear p22
                        try clear p220
                        try clear p221
                        try clear p222
                        try clear p223
                        try clear p224
                        try clear p225
                        try clear p226
                        try clear p227
                        try clear p228
                        try clear p229
                        try clear p23
                        try clear p230
                        try clear p231
                        try clear p232
                        try clear p233
                        try clear p65
                        try clear q2
                        try clear q22
                        try clear q220
                        try clear q221
                        try clear q222
                        try clear q223
                        try clear q224
                        try clear q225
                        try clear q226
                        try clear q227
                        try clear q228
                        try clear q229
                        try clear q23
                        try clear q230
                        try clear q231
                        try clear q232
                        try clear q233
                        try clear q65
                        obtain ⟨x15_6, x16_6, x17_6, rfl, HA, HK6, HO_5, HO_8, HO_12, HO_13, HO_15, HO_16, HB⟩ := hrel
                        have hl16_6 := (Kd.R_reads' HO_16.out).1
                        rw [hl16_6] at HO_16
                        (try simp only [hl16_6])
                        (try simp only [hl16_6] at HO_5)
                        (try simp only [hl16_6] at HO_8)
                        (try simp only [hl16_6] at HO_12)
                        (try simp only [hl16_6] at HO_13)
                        (try simp only [hl16_6] at HO_15)
                        cases gk with
                        | zero => exact absurd HA.out (by simp [kimberlitelaw04_PairGallai.l1])
                        | succ k6 =>
                         have H := HA.out
                         clear HA
                         simp only [kimberlitelaw04_PairGallai.l1] at H
                         by_cases c72 : x17_6 < (x15_6.length : Int)
                         ·rw [if_pos c72] at H
                          have c72b0 : decide (x17_6 < (x15_6.length : Int)) = true := decide_eq_true c72
                          clear c72
                          have H' := Aside0.mk H
                          clear H
                          obtain ⟨Ao73, co73, eo73⟩ := Kd.R_slice HO_15.out
                          subst eo73
                          go_wp2
                          go_loopg [15, 18] k6 (fun kq v15 v18 w' => ∃ (x15_7 : List Int) (x16_7 : List Bool) (x18_7 : Int), v18 = .int .i64 x18_7 ∧ Aside0 (kimberlitelaw04_PairGallai.l2 kq a0 t201 t206 t213 x13_3 x14_3 x15_7 x16_7 x17_6 x18_7 = some r) ∧ Aside0 (kq ≤ k6) ∧ Aside0 (Kd.R (Kd.int .i64) 3 w' w.heap.size (fun k_ => some k_ ≠ (v208 : Value).ownBlock ∧ some k_ ≠ (v15 : Value).ownBlock) (.slice Ao17 t201.length co17) t201) ∧ Aside0 (Kd.R (Kd.int .i64) 3 w' w.heap.size (fun k_ => some k_ ≠ ((.slice Ao17 t201.length co17) : Value).ownBlock ∧ some k_ ≠ (v15 : Value).ownBlock) v208 t206) ∧ Aside0 (Kd.S (Kd.slice 4 Kd.bool) 39 w' w.heap.size (fun k_ => some k_ ≠ (v217 : Value).ownBlock ∧ some k_ ≠ ((.slice (some ⟨go65, 0, none⟩) x16_6.length co65) : Value).ownBlock) v214 t213) ∧ Aside0 (Kd.R Kd.bool 4 w' w.heap.size (fun k_ => some k_ ≠ ((.slice (some ⟨go65, 0, none⟩) x16_6.length co65) : Value).ownBlock) v217 x13_3) ∧ Aside0 (Kd.R (Kd.int .i64) 3 w' w.heap.size (fun k_ => some k_ ≠ ((.slice Ao17 t201.length co17) : Value).ownBlock ∧ some k_ ≠ (v208 : Value).ownBlock) v15 x15_7) ∧ Aside0 (Kd.R Kd.bool 4 w' w.heap.size (fun k_ => some k_ ≠ (v217 : Value).ownBlock) (.slice (some ⟨go65, 0, none⟩) x16_6.length co65) x16_7) ∧ Aside0 (Below w.heap.size w w'))
                          case atStart => exact ⟨(x15_6), (x16_6), (0), (by first | rfl | (simp; done) | (simp [*]; done)), H', ⟨Nat.le_refl _⟩, ⟨by (try simp only [hl16_6]); (with_reducible repeat (first | apply Kd.R_alloc | apply Kd.R_drewN | apply Kd.R_drew)); exact HO_5.out⟩, ⟨by (try simp only [hl16_6]); (with_reducible repeat (first | apply Kd.R_alloc | apply Kd.R_drewN | apply Kd.R_drew)); exact HO_8.out⟩, ⟨by (try simp only [hl16_6]); (with_reducible repeat (first | apply Kd.S_alloc | apply Kd.S_drewN | apply Kd.S_drew)); exact HO_12.out⟩, ⟨by (try simp only [hl16_6]); (with_reducible repeat (first | apply Kd.R_alloc | apply Kd.R_drewN | apply Kd.R_drew)); exact HO_13.out⟩, ⟨by (try simp only [hl16_6]); (with_reducible repeat (first | apply Kd.R_alloc | apply Kd.R_drewN | apply Kd.R_drew)); exact HO_15.out⟩, ⟨by (try simp only [hl16_6]); (with_reducible repeat (first | apply Kd.R_alloc | apply Kd.R_drewN | apply Kd.R_drew)); exact HO_16.out⟩, ⟨by repeat (first | (with_reducible first | exact HB.out | apply below_alloc | apply pw_below_drewN | apply below_drew1) | exact HB.out)⟩⟩
                          case round => as_aux_lemma =>
                           clear H'
                           try clear c1
                           try clear c2
                           try clear p2
                           try clear q2
                           try clear hx2
                           try clear c3
                           try clear c4
                           try clear c5
                           try clear c6
                           try clear p6
                           try clear q6
                           try clear hx6
                           try clear hf6
                           try clear c7
                           try clear c10
                           try clear c10b0
                           try clear c10b1
                           try clear c11
                           try clear c12
                           try clear c12b0
                           try clear c12b1
                           try clear c13
                           try clear c15
                           try clear c19
                           try clear c20
                           try clear c21
                           try clear p22
                           try clear q22
                           try clear hx22
                           try clear c23
                           try clear c23b0
                           try clear c23b1
                           try clear p23
                           try clear q23
                           try clear hx23
                           try clear c24
                           try clear c24b0
                           try clear c24b1
                           try clear c28
                           try clear c28b0
                           try clear c30
                           try clear c30b0
                           try clear c31
                           try clear c31b0
                           try clear c32
                           try clear c32b0
                           try clear c32b1
                           try clear c33
                           try clear c33b0
                           try clear c34
                           try clear c34b0
                           try clear c34b1
                           try clear c36
                           try clear c36b0
                           try clear c37
                           try clear c37b0
                           try clear c38
                           try clear c38b0
                           try clear c38b1
                           try clear c39
                           try clear c39b0
                           try clear c39b1
                           try clear c43
                           try clear c43b0
                           try clear c43b1
                           try clear c44
                           try clear c44b0
                           try clear c45
                           try clear c45b0
                           try clear c45b1
                           try clear c47
                           try clear c47b0
                           try clear c48
                           try clear c48b0
                           try clear c51
                           try clear c53
                           try clear c53b0
                           try clear c54
                           try clear c54b0
                           try clear c55
                           try clear c55b0
                           try clear c55b1
                           try clear c56
                           try clear c56b0
                           try clear c60
                           try clear c61
                           try clear c61b0
                           try clear c61b1
                           try clear c62
                           try clear c62b0
                           try clear c62b1
                           try clear c63
                           try clear c63b0
                           try clear c64
                           try clear c64b0
                           try clear p64
                           try clear p65
                           try clear q65
                           try clear hx65
                           try clear hf65
                           try clear c72
                           try clear c72b0
                           try clear hx220_0
                           try clear hx221_0
                           try clear hx222_0
                           try clear hx223_0
                           try clear hx224_0
                           try clear hx225_0
                           try clear hx226_0
                           try clear hx227_0
                           try clear hx228_0
                           try clear hx229_0
                           try clear hx230_0
                           try clear hx231_0
                           try clear hx232_0
                           try clear hx233_0
                           try clear hx65_0
                           try clear p2
                           try clear p22
                           try clear p220
                           try clear p221
                           try clear p222
                           try clear p223
                           try clear p224
                           try clear p225
                           try clear p226
                           try clear p227
                           try clear p228
                           try clear p229
                           try clear p23
                           try clear p230
                           try clear p231
                           try clear p232
                           try clear p233
                           try clear p6
                           try clear p64
                           try clear p65
                           try clear q2
                           try clear q22
                           try clear q220
                           try clear q221
                           try clear q222
                           try clear q223
                           try clear q224
                           try clear q225
                           try clear q226
                           try clear q227
                           try clear q228
                           try clear q229
                           try clear q23
                           try clear q230
                           try clear q231
                           try clear q232
                           try clear q233
                           try clear q6
                           try clear q65
                           obtain ⟨x15_7, x16_7, x18_7, rfl, HA, HK7, HO_5, HO_8, HO_12, HO_13, HO_15, HO_16, HB⟩ := hrel
                           have hl16_7 := (Kd.R_reads' HO_16.out).1
                           rw [hl16_7] at HO_16
                           (try simp only [hl16_7])
                           (try simp only [hl16_7] at HO_5)
                           (try simp only [hl16_7] at HO_8)
                           (try simp only [hl16_7] at HO_12)
                           (try simp only [hl16_7] at HO_13)
                           (try simp only [hl16_7] at HO_15)
                           cases gk with
                           | zero => exact absurd HA.out (by simp [kimberlitelaw04_PairGallai.l2])
                           | succ k7 =>
                            have H := HA.out
                            clear HA
                            simp only [kimberlitelaw04_PairGallai.l2] at H
                            by_cases c74 : x18_7 < a0
                            ·rw [if_pos c74] at H
                             have c74b0 : decide (x18_7 < a0) = true := decide_eq_true c74
                             clear c74
                             by_cases c75 : 0 ≤ x17_6
                             ·rw [if_pos c75] at H
                              have c75b0 : decide (0 ≤ x17_6) = true := decide_eq_true c75
                              clear c75
                              by_cases c76 : x17_6 < (x15_7.length : Int)
                              ·rw [if_pos c76] at H
                               have c76b0 : decide (x17_6 < (x15_7.length : Int)) = true := decide_eq_true c76
                               clear c76
                               by_cases c77 : 0 ≤ (rd x15_7 x17_6)
                               ·rw [if_pos c77] at H
                                have c77b0 : decide (0 ≤ (rd x15_7 x17_6)) = true := decide_eq_true c77
                                clear c77
                                by_cases c78 : (rd x15_7 x17_6) < (t213.length : Int)
                                ·rw [if_pos c78] at H
                                 have c78b0 : decide ((rd x15_7 x17_6) < (t213.length : Int)) = true := decide_eq_true c78
                                 clear c78
                                 by_cases c79 : 0 ≤ x18_7
                                 ·rw [if_pos c79] at H
                                  have c79b0 : decide (0 ≤ x18_7) = true := decide_eq_true c79
                                  clear c79
                                  by_cases c80 : x18_7 < ((rd_L5 t213 (rd x15_7 x17_6)).length : Int)
                                  ·rw [if_pos c80] at H
                                   have c80b0 : decide (x18_7 < ((rd_L5 t213 (rd x15_7 x17_6)).length : Int)) = true := decide_eq_true c80
                                   clear c80
                                   obtain ⟨bq81, hbq81⟩ : ∃ b_ : Bool, b_ = (rdOf false (rd_L5 t213 (rd x15_7 x17_6)) x18_7) := ⟨_, rfl⟩
                                   replace H : (if bq81 = true then (if x18_7 < (t206.length : Int) then (if (rd t206 x18_7) = 0 then (if x18_7 < (x16_7.length : Int) then (if rdOf false x16_7 x18_7 = true then (kimberlitelaw04_PairGallai.l2 k7 a0 t201 t206 t213 x13_3 x14_3 x15_7 x16_7 x17_6 (wrap64 (x18_7 + 1))) else (if x15_7.length < 17592186044416 then (kimberlitelaw04_PairGallai.l2 k7 a0 t201 t206 t213 x13_3 x14_3 (x15_7 ++ [x18_7]) (x16_7.set (x18_7 : Int).toNat true) x17_6 (wrap64 (x18_7 + 1))) else (none))) else (none)) else (kimberlitelaw04_PairGallai.l2 k7 a0 t201 t206 t213 x13_3 x14_3 x15_7 x16_7 x17_6 (wrap64 (x18_7 + 1)))) else (none)) else (kimberlitelaw04_PairGallai.l2 k7 a0 t201 t206 t213 x13_3 x14_3 x15_7 x16_7 x17_6 (wrap64 (x18_7 + 1)))) = some r := by rw [← hbq81] at H; exact H
                                   have Nbq81 := Aside0.mk hbq81
                                   clear hbq81
                                   by_cases c82 : bq81 = true
                                   ·subst c82
                                    have H1 : (if x18_7 < (t206.length : Int) then (if (rd t206 x18_7) = 0 then (if x18_7 < (x16_7.length : Int) then (if rdOf false x16_7 x18_7 = true then (kimberlitelaw04_PairGallai.l2 k7 a0 t201 t206 t213 x13_3 x14_3 x15_7 x16_7 x17_6 (wrap64 (x18_7 + 1))) else (if x15_7.length < 17592186044416 then (kimberlitelaw04_PairGallai.l2 k7 a0 t201 t206 t213 x13_3 x14_3 (x15_7 ++ [x18_7]) (x16_7.set (x18_7 : Int).toNat true) x17_6 (wrap64 (x18_7 + 1))) else (none))) else (none)) else (kimberlitelaw04_PairGallai.l2 k7 a0 t201 t206 t213 x13_3 x14_3 x15_7 x16_7 x17_6 (wrap64 (x18_7 + 1)))) else (none)) = some r := by rw [if_pos rfl] at H; exact H
                                    clear H
                                    have H := H1
                                    clear H1
                                    by_cases c83 : x18_7 < (t206.length : Int)
                                    ·rw [if_pos c83] at H
                                     have c83b0 : decide (x18_7 < (t206.length : Int)) = true := decide_eq_true c83
                                     clear c83
                                     by_cases c84 : (rd t206 x18_7) = 0
                                     ·rw [if_pos c84] at H
                                      have c84b0 : ((rd t206 x18_7) == 0) = true := beq_iff_eq.mpr c84
                                      have c84b1 : ((rd t206 x18_7) != 0) = false := bne_eq_false_iff_eq.mpr c84
                                      clear c84
                                      by_cases c85 : x18_7 < (x16_7.length : Int)
                                      ·rw [if_pos c85] at H
                                       have c85b0 : decide (x18_7 < (x16_7.length : Int)) = true := decide_eq_true c85
                                       clear c85
                                       obtain ⟨bq86, hbq86⟩ : ∃ b_ : Bool, b_ = (rdOf false x16_7 x18_7) := ⟨_, rfl⟩
                                       replace H : (if bq86 = true then (kimberlitelaw04_PairGallai.l2 k7 a0 t201 t206 t213 x13_3 x14_3 x15_7 x16_7 x17_6 (wrap64 (x18_7 + 1))) else (if x15_7.length < 17592186044416 then (kimberlitelaw04_PairGallai.l2 k7 a0 t201 t206 t213 x13_3 x14_3 (x15_7 ++ [x18_7]) (x16_7.set (x18_7 : Int).toNat true) x17_6 (wrap64 (x18_7 + 1))) else (none))) = some r := by rw [← hbq86] at H; exact H
                                       have Nbq86 := Aside0.mk hbq86
                                       clear hbq86
                                       by_cases c87 : bq86 = true
                                       ·subst c87
                                        have H1 : (kimberlitelaw04_PairGallai.l2 k7 a0 t201 t206 t213 x13_3 x14_3 x15_7 x16_7 x17_6 (wrap64 (x18_7 + 1))) = some r := by rw [if_pos rfl] at H; exact H
                                        clear H
                                        have H := H1
                                        clear H1
                                        have H' := Aside0.mk H
                                        clear H
                                        obtain ⟨Ao88, co88, eo88⟩ := Kd.R_slice HO_15.out
                                        subst eo88
                                        have p241 : 0 ≤ (x17_6 : Int) := of_decide_eq_true (by first | (with_reducible assumption) | assumption)
                                        have q241 : x17_6 < (x15_7.length : Int) := of_decide_eq_true (by first | (with_reducible assumption) | assumption)
                                        obtain ⟨ad241, e241, hx241_0⟩ := Kd.at_int (Kd.R_reads' HO_15.out).2.2 x17_6 p241 q241
                                        cases e241
                                        replace p241 := eq_true p241
                                        replace q241 := eq_true q241
                                        obtain ⟨Ao89, co89, eo89⟩ := Kd.S_slice HO_12.out
                                        subst eo89
                                        have p242 : 0 ≤ ((rd x15_7 x17_6) : Int) := of_decide_eq_true (by first | (with_reducible assumption) | assumption)
                                        have q242 : (rd x15_7 x17_6) < (t213.length : Int) := of_decide_eq_true (by first | (with_reducible assumption) | assumption)
                                        obtain ⟨ad242, A242_0, c242_0, e242, hx242_0, hl242_0, hi242_0⟩ := at_L5 (Kd.S_reads' HO_12.out).2.2 (rd x15_7 x17_6) p242 q242
                                        cases e242
                                        obtain ⟨ce242, hce242, hMe242, hcc242⟩ := Kd.S_get HO_12.out [] (rd x15_7 x17_6) p242 (by first | exact q242 | exact of_decide_eq_true (by first | (with_reducible assumption) | assumption) | (have e_ := (Kd.S_reads' HO_12.out).1; omega))
                                        obtain ⟨ve242_0, rfl, ge242_0⟩ := hMe242
                                        have hv242_0 := hcc242 0 _ rfl
                                        rw [Nat.add_zero, show ((Kd.slice 4 Kd.bool)).sz = 1 from rfl, Nat.mul_one] at hv242_0
                                        replace hv242_0 := Option.some.inj (hv242_0.symm.trans hx242_0)
                                        rw [hv242_0] at ge242_0
                                        have HL242_0 := Aside0.mk (show Kd.R Kd.bool 4 _ _ _ _ (rd_L5 t213 (rd x15_7 x17_6)) from ge242_0)
                                        clear hv242_0 ge242_0
                                        clear hcc242 hce242
                                        have HR242_0 := Aside0.mk hi242_0
                                        have HC242_0 := Aside0.mk hl242_0
                                        clear hi242_0 hl242_0
                                        replace p242 := eq_true p242
                                        replace q242 := eq_true q242
                                        have p243 : 0 ≤ (x18_7 : Int) := of_decide_eq_true (by first | (with_reducible assumption) | assumption)
                                        have q243 : x18_7 < ((rd_L5 t213 (rd x15_7 x17_6)).length : Int) := of_decide_eq_true (by first | (with_reducible assumption) | assumption)
                                        obtain ⟨ad243, e243, hx243_0⟩ := Kd.at_bool (by repeat (first | (with_reducible exact HR242_0.out) | (with_reducible refine Kd.C_alloc ?_ _) | (with_reducible refine Kd.C_drewN ?_ _) | (with_reducible refine Kd.C_drew ?_) | exact HR242_0.out)) x18_7 p243 q243
                                        (try rw [← Nbq81.out] at hx243_0)
                                        (try rw [← Nbq86.out] at hx243_0)
                                        cases e243
                                        replace p243 := eq_true p243
                                        replace q243 := eq_true q243
                                        obtain ⟨Ao90, co90, eo90⟩ := Kd.R_slice HO_8.out
                                        subst eo90
                                        have p244 : 0 ≤ (x18_7 : Int) := of_decide_eq_true (by first | (with_reducible assumption) | assumption)
                                        have q244 : x18_7 < (t206.length : Int) := of_decide_eq_true (by first | (with_reducible assumption) | assumption)
                                        obtain ⟨ad244, e244, hx244_0⟩ := Kd.at_int (Kd.R_reads' HO_8.out).2.2 x18_7 p244 q244
                                        cases e244
                                        replace p244 := eq_true p244
                                        replace q244 := eq_true q244
                                        have p245 : 0 ≤ (x18_7 : Int) := of_decide_eq_true (by first | (with_reducible assumption) | assumption)
                                        have q245 : x18_7 < (x16_7.length : Int) := of_decide_eq_true (by first | (with_reducible assumption) | assumption)
                                        obtain ⟨ad245, e245, hx245_0⟩ := Kd.at_bool (Kd.R_reads' HO_16.out).2.2 x18_7 p245 q245
                                        (try rw [← Nbq81.out] at hx245_0)
                                        (try rw [← Nbq86.out] at hx245_0)
                                        obtain rfl : (⟨go65, 0, none⟩ : Addr) = ad245 := (by injection e245)
                                        (first | simp only [add_plain] at hx245_0 | simp only [add_at] at hx245_0 | simp only [Addr.add, Nat.zero_add] at hx245_0 | skip)
                                        replace p245 := eq_true p245
                                        replace q245 := eq_true q245
                                        go_wp2
                                        (try simp only [← hl16_7])
                                        go_roundg k7
                                        case measure => have := HJ6.out; have := HJ15.out; have := HK3.out; have := HJ28.out; have := HJ51.out; have := HK6.out; have := HK7.out; omega
                                        case rel => exact ⟨(x15_7), (x16_7), (wrap64 (x18_7 + 1)), (by first | rfl | (simp; done) | (simp [*]; done)), H', ⟨by have := HJ6.out; have := HJ15.out; have := HK3.out; have := HJ28.out; have := HJ51.out; have := HK6.out; have := HK7.out; omega⟩, ⟨by (try simp only [hl16_6]); (try simp only [hl16_7]); (with_reducible repeat (first | apply Kd.R_alloc | apply Kd.R_drewN | apply Kd.R_drew)); exact HO_5.out⟩, ⟨by (try simp only [hl16_6]); (try simp only [hl16_7]); (with_reducible repeat (first | apply Kd.R_alloc | apply Kd.R_drewN | apply Kd.R_drew)); exact HO_8.out⟩, ⟨by (try simp only [hl16_6]); (try simp only [hl16_7]); (with_reducible repeat (first | apply Kd.S_alloc | apply Kd.S_drewN | apply Kd.S_drew)); exact HO_12.out⟩, ⟨by (try simp only [hl16_6]); (try simp only [hl16_7]); (with_reducible repeat (first | apply Kd.R_alloc | apply Kd.R_drewN | apply Kd.R_drew)); exact HO_13.out⟩, ⟨by (try simp only [hl16_6]); (try simp only [hl16_7]); (with_reducible repeat (first | apply Kd.R_alloc | apply Kd.R_drewN | apply Kd.R_drew)); exact HO_15.out⟩, ⟨by (try simp only [hl16_6]); (try simp only [hl16_7]); (with_reducible repeat (first | apply Kd.R_alloc | apply Kd.R_drewN | apply Kd.R_drew)); exact HO_16.out⟩, ⟨by repeat (first | (with_reducible first | exact HB.out | apply below_alloc | apply pw_below_drewN | apply below_drew1) | exact HB.out)⟩⟩
                                       ·replace c87 := Bool.eq_false_iff.mpr c87
                                        subst c87
                                        have H1 : (if x15_7.length < 17592186044416 then (kimberlitelaw04_PairGallai.l2 k7 a0 t201 t206 t213 x13_3 x14_3 (x15_7 ++ [x18_7]) (x16_7.set (x18_7 : Int).toNat true) x17_6 (wrap64 (x18_7 + 1))) else (none)) = some r := by rw [if_neg (show ¬ (false = true) by decide)] at H; exact H
                                        clear H
                                        have H := H1
                                        clear H1
                                        obtain ⟨y246, hy246⟩ : ∃ y_ : List Bool, y_ = (x16_7.set (x18_7 : Int).toNat true) := ⟨_, rfl⟩
                                        replace H : (if x15_7.length < 17592186044416 then (kimberlitelaw04_PairGallai.l2 k7 a0 t201 t206 t213 x13_3 x14_3 (x15_7 ++ [x18_7]) y246 x17_6 (wrap64 (x18_7 + 1))) else (none)) = some r := by first | (rw [hy246]; with_reducible exact H) | (have H2_ := (Option.bind_some _ _).symm.trans H; rw [hy246]; with_reducible exact H2_) | (have H2_ := (Option.bind_some _ _).symm.trans H; with_reducible exact H2_) | with_reducible exact H | (rw [hy246]; exact H) | exact H
                                        have Ny246 := Aside0.mk hy246
                                        clear hy246
                                        by_cases c92 : x15_7.length < 17592186044416
                                        ·rw [if_pos c92] at H
                                         have LMc92 := Aside0.mk c92
                                         clear c92
                                         obtain ⟨y247, hy247⟩ : ∃ y_ : List Int, y_ = (x15_7 ++ [x18_7]) := ⟨_, rfl⟩
                                         replace H : (kimberlitelaw04_PairGallai.l2 k7 a0 t201 t206 t213 x13_3 x14_3 y247 y246 x17_6 (wrap64 (x18_7 + 1))) = some r := by first | (rw [hy247]; with_reducible exact H) | (have H2_ := (Option.bind_some _ _).symm.trans H; rw [hy247]; with_reducible exact H2_) | (have H2_ := (Option.bind_some _ _).symm.trans H; with_reducible exact H2_) | with_reducible exact H | (rw [hy247]; exact H) | exact H
                                         have Ny247 := Aside0.mk hy247
                                         clear hy247
                                         have H' := Aside0.mk H
                                         clear H
                                         obtain ⟨Ao93, co93, eo93⟩ := Kd.R_slice HO_15.out
                                         subst eo93
                                         have p241 : 0 ≤ (x17_6 : Int) := of_decide_eq_true (by first | (with_reducible assumption) | assumption)
                                         have q241 : x17_6 < (x15_7.length : Int) := of_decide_eq_true (by first | (with_reducible assumption) | assumption)
                                         obtain ⟨ad241, e241, hx241_0⟩ := Kd.at_int (Kd.R_reads' HO_15.out).2.2 x17_6 p241 q241
                                         cases e241
                                         replace p241 := eq_true p241
                                         replace q241 := eq_true q241
                                         obtain ⟨Ao94, co94, eo94⟩ := Kd.S_slice HO_12.out
                                         subst eo94
                                         have p242 : 0 ≤ ((rd x15_7 x17_6) : Int) := of_decide_eq_true (by first | (with_reducible assumption) | assumption)
                                         have q242 : (rd x15_7 x17_6) < (t213.length : Int) := of_decide_eq_true (by first | (with_reducible assumption) | assumption)
                                         obtain ⟨ad242, A242_0, c242_0, e242, hx242_0, hl242_0, hi242_0⟩ := at_L5 (Kd.S_reads' HO_12.out).2.2 (rd x15_7 x17_6) p242 q242
                                         cases e242
                                         obtain ⟨ce242, hce242, hMe242, hcc242⟩ := Kd.S_get HO_12.out [] (rd x15_7 x17_6) p242 (by first | exact q242 | exact of_decide_eq_true (by first | (with_reducible assumption) | assumption) | (have e_ := (Kd.S_reads' HO_12.out).1; omega))
                                         obtain ⟨ve242_0, rfl, ge242_0⟩ := hMe242
                                         have hv242_0 := hcc242 0 _ rfl
                                         rw [Nat.add_zero, show ((Kd.slice 4 Kd.bool)).sz = 1 from rfl, Nat.mul_one] at hv242_0
                                         replace hv242_0 := Option.some.inj (hv242_0.symm.trans hx242_0)
                                         rw [hv242_0] at ge242_0
                                         have HL242_0 := Aside0.mk (show Kd.R Kd.bool 4 _ _ _ _ (rd_L5 t213 (rd x15_7 x17_6)) from ge242_0)
                                         clear hv242_0 ge242_0
                                         clear hcc242 hce242
                                         have HR242_0 := Aside0.mk hi242_0
                                         have HC242_0 := Aside0.mk hl242_0
                                         clear hi242_0 hl242_0
                                         replace p242 := eq_true p242
                                         replace q242 := eq_true q242
                                         have p243 : 0 ≤ (x18_7 : Int) := of_decide_eq_true (by first | (with_reducible assumption) | assumption)
                                         have q243 : x18_7 < ((rd_L5 t213 (rd x15_7 x17_6)).length : Int) := of_decide_eq_true (by first | (with_reducible assumption) | assumption)
                                         obtain ⟨ad243, e243, hx243_0⟩ := Kd.at_bool (by repeat (first | (with_reducible exact HR242_0.out) | (with_reducible refine Kd.C_alloc ?_ _) | (with_reducible refine Kd.C_drewN ?_ _) | (with_reducible refine Kd.C_drew ?_) | exact HR242_0.out)) x18_7 p243 q243
                                         (try rw [← Nbq81.out] at hx243_0)
                                         (try rw [← Nbq86.out] at hx243_0)
                                         cases e243
                                         replace p243 := eq_true p243
                                         replace q243 := eq_true q243
                                         obtain ⟨Ao95, co95, eo95⟩ := Kd.R_slice HO_8.out
                                         subst eo95
                                         have p244 : 0 ≤ (x18_7 : Int) := of_decide_eq_true (by first | (with_reducible assumption) | assumption)
                                         have q244 : x18_7 < (t206.length : Int) := of_decide_eq_true (by first | (with_reducible assumption) | assumption)
                                         obtain ⟨ad244, e244, hx244_0⟩ := Kd.at_int (Kd.R_reads' HO_8.out).2.2 x18_7 p244 q244
                                         cases e244
                                         replace p244 := eq_true p244
                                         replace q244 := eq_true q244
                                         have p245 : 0 ≤ (x18_7 : Int) := of_decide_eq_true (by first | (with_reducible assumption) | assumption)
                                         have q245 : x18_7 < (x16_7.length : Int) := of_decide_eq_true (by first | (with_reducible assumption) | assumption)
                                         obtain ⟨ad245, e245, hx245_0⟩ := Kd.at_bool (Kd.R_reads' HO_16.out).2.2 x18_7 p245 q245
                                         (try rw [← Nbq81.out] at hx245_0)
                                         (try rw [← Nbq86.out] at hx245_0)
                                         obtain rfl : (⟨go65, 0, none⟩ : Addr) = ad245 := (by injection e245)
                                         (first | simp only [add_plain] at hx245_0 | simp only [add_at] at hx245_0 | simp only [Addr.add, Nat.zero_add] at hx245_0 | skip)
                                         replace p245 := eq_true p245
                                         replace q245 := eq_true q245
                                         have p91 : 0 ≤ (x18_7 : Int) := of_decide_eq_true (by first | (with_reducible assumption) | assumption)
                                         have q91 : (x18_7 : Int) < ((x16_7.length : Int) : Int) := of_decide_eq_true (by first | (with_reducible assumption) | assumption)
                                         obtain ⟨hx91_0, hf91_0⟩ := Kd.R_celln false HO_16.out (x18_7 : Int) p91 q91
                                         replace p91 := eq_true p91
                                         replace q91 := eq_true q91
                                         have HP96 := Kd.R_putg HO_16.out (x18_7 : Int) true
                                         go_wp2_with (first | ((with_reducible refine gate_store (t := 4) (p := 178) rfl ?_); refine store_event (t := 4) (p := 178) (v := ?vo_w97) (w1 := (wr.setCell ⟨go65, (x18_7 : Int).toNat, none⟩ (.bool true))) ?hg ?ho ?hn ?hr ?_; (case ho => rfl); (case hg => rfl); (case hn => rfl); (case hr => first | (go_simp; done) | (go_simp; rfl)); intro w97 hw; have hg : wr.grownBy w97 (some go65) := (by rw [hw]; exact HP96.2); have hp_ : Kd.R Kd.bool 4 w97 w.heap.size (fun k_ => some k_ ≠ (v217 : Value).ownBlock) (.slice (some ⟨go65, 0, none⟩) x16_7.length co65) y246 := (by rw [hw, Ny246.out]; exact HP96.1); clear HP96; have n0_ := Aside0.mk (Kd.R_over' (v := (.slice (some ⟨go65, 0, none⟩) x16_7.length co65)) (by (with_reducible repeat (first | apply Kd.R_alloc | apply Kd.R_drewN | apply Kd.R_drew)); exact HO_5.out) (Kd.R_typed HO_16.out) (by decide) hg); have n1_ := Aside0.mk (Kd.R_over' (v := (.slice (some ⟨go65, 0, none⟩) x16_7.length co65)) (by (with_reducible repeat (first | apply Kd.R_alloc | apply Kd.R_drewN | apply Kd.R_drew)); exact HO_8.out) (Kd.R_typed HO_16.out) (by decide) hg); have n2_ := Aside0.mk (Kd.S_after (v := (.slice (some ⟨go65, 0, none⟩) x16_7.length co65)) (v1 := (.slice (some ⟨go65, 0, none⟩) x16_7.length co65)) (ok := (fun k_ => some k_ ≠ (v217 : Value).ownBlock)) (by (with_reducible repeat (first | apply Kd.S_alloc | apply Kd.S_drewN | apply Kd.S_drew)); exact HO_12.out) hg (.inl rfl)); have n3_ := Aside0.mk (Kd.R_after (v := (.slice (some ⟨go65, 0, none⟩) x16_7.length co65)) (v1 := (.slice (some ⟨go65, 0, none⟩) x16_7.length co65)) (ok := (fun _ => True)) (by (with_reducible repeat (first | apply Kd.R_alloc | apply Kd.R_drewN | apply Kd.R_drew)); exact Kd.R_mono HO_13.out (fun _ hk => ⟨trivial, hk⟩)) hg (.inl rfl)); have n4_ := Aside0.mk (Kd.R_over' (v := (.slice (some ⟨go65, 0, none⟩) x16_7.length co65)) (by (with_reducible repeat (first | apply Kd.R_alloc | apply Kd.R_drewN | apply Kd.R_drew)); exact HO_15.out) (Kd.R_typed HO_16.out) (by decide) hg); have n5_ := Aside0.mk (hp_); have n6_ := Aside0.mk (Kd.R_after (v := (.slice (some ⟨go65, 0, none⟩) x16_7.length co65)) (v1 := (.slice (some ⟨go65, 0, none⟩) x16_7.length co65)) (ok := (fun k_ => some k_ ≠ (.slice (some ad242) t213.length co94 : Value).ownBlock ∧ some k_ ≠ (v217 : Value).ownBlock)) (by (with_reducible repeat (first | apply Kd.R_alloc | apply Kd.R_drewN | apply Kd.R_drew)); exact Kd.R_mono HL242_0.out (fun _ hk => ⟨⟨hk.2, hk.1.1⟩, hk.1.2⟩)) hg (.inl rfl)); have n7_ := Aside0.mk ((by rw [hw]; exact below_set (HB.out) GB65.out : Below w.heap.size w w97)); clear HO_5; clear HO_8; clear HO_12; clear HO_13; clear HO_15; clear HO_16; clear HL242_0; clear HB; have HO_5 := n0_; have HO_8 := n1_; have HO_12 := n2_; have HO_13 := n3_; have HO_15 := n4_; have HO_16 := n5_; have HL242_0 := n6_; have HB := n7_; clear n0_ n1_ n2_ n3_ n4_ n5_ n6_ n7_; clear hg hw hp_) | ((with_reducible refine gate_builtin (b := .append) (xs := #[.tmp 179, .tmp 181]) rfl ?_); (try (refine gate_guard (by rfl) ?_; dsimp only)); at_builtin; refine Kd.R_append (Kd.int .i64) (w0 := w) w.heap.size rfl (.tmp 179) (.tmp 181) 25 3 (.int .i64 0) 8 rfl Try.underlying25 info3 rfl (by decide) (by omega) (.slice (some ad241) x15_7.length co93) x15_7 x18_7 [.int .i64 x18_7] (fun k_ => some k_ ≠ (.slice Ao17 t201.length co17 : Value).ownBlock ∧ some k_ ≠ (.slice (some ad244) t206.length co95 : Value).ownBlock) (fun _ => False) rfl rfl ?aP (fun _ hk => hk.elim) ?aF ?aO ?aB ?aS ?aL ?_; (case aP => exact rfl); (case aB => exact (by repeat (first | (with_reducible first | exact HB.out | apply below_alloc | apply pw_below_drewN | apply below_drew1) | exact HB.out))); (case aF => exact (fun k_ hk => ⟨Kd.fresh' (Kd.R_lt (by (with_reducible repeat (first | apply Kd.R_alloc | apply Kd.R_drewN | apply Kd.R_drew)); exact HO_5.out)) k_ hk, Kd.fresh' (Kd.R_lt (by (with_reducible repeat (first | apply Kd.R_alloc | apply Kd.R_drewN | apply Kd.R_drew)); exact HO_8.out)) k_ hk⟩)); (case aO => exact (by (with_reducible repeat (first | apply Kd.R_alloc | apply Kd.R_drewN | apply Kd.R_drew)); exact HO_15.out)); (case aS => exact (below_size (by repeat (first | (with_reducible first | exact HB.out | apply below_alloc | apply pw_below_drewN | apply below_drew1) | exact HB.out)))); (case aL => have := LMc92.out; omega); intro v248 w98 ho hb hg hat; rw [← Ny247.out] at ho; have n0_ := Aside0.mk (Kd.R_after (ok := (fun k_ => some k_ ≠ (.slice (some ad244) t206.length co95 : Value).ownBlock)) (by (with_reducible repeat (first | apply Kd.R_alloc | apply Kd.R_drewN | apply Kd.R_drew)); exact HO_5.out) hg hat); have n1_ := Aside0.mk (Kd.R_after (ok := (fun k_ => some k_ ≠ (.slice Ao17 t201.length co17 : Value).ownBlock)) (by (with_reducible repeat (first | apply Kd.R_alloc | apply Kd.R_drewN | apply Kd.R_drew)); exact HO_8.out) hg hat); have n2_ := Aside0.mk (Kd.S_over' (by (with_reducible repeat (first | apply Kd.S_alloc | apply Kd.S_drewN | apply Kd.S_drew)); exact HO_12.out) (Kd.R_typed (by (with_reducible repeat (first | apply Kd.R_alloc | apply Kd.R_drewN | apply Kd.R_drew)); exact HO_15.out)) (by decide) hg); have n3_ := Aside0.mk (Kd.R_over' (by (with_reducible repeat (first | apply Kd.R_alloc | apply Kd.R_drewN | apply Kd.R_drew)); exact HO_13.out) (Kd.R_typed (by (with_reducible repeat (first | apply Kd.R_alloc | apply Kd.R_drewN | apply Kd.R_drew)); exact HO_15.out)) (by decide) hg); have n4_ := Aside0.mk (Kd.R_over' (by (with_reducible repeat (first | apply Kd.R_alloc | apply Kd.R_drewN | apply Kd.R_drew)); exact HO_16.out) (Kd.R_typed (by (with_reducible repeat (first | apply Kd.R_alloc | apply Kd.R_drewN | apply Kd.R_drew)); exact HO_15.out)) (by decide) hg); have n5_ := Aside0.mk (Kd.R_over' (by (with_reducible repeat (first | apply Kd.R_alloc | apply Kd.R_drewN | apply Kd.R_drew)); exact HL242_0.out) (Kd.R_typed (by (with_reducible repeat (first | apply Kd.R_alloc | apply Kd.R_drewN | apply Kd.R_drew)); exact HO_15.out)) (by decide) hg); have n6_ := Aside0.mk (hb); have n7_ := Aside0.mk (ho); clear HO_5; clear HO_8; clear HO_12; clear HO_13; clear HO_16; clear HL242_0; clear HB; clear HO_15; have HO_5 := n0_; have HO_8 := n1_; have HO_12 := n2_; have HO_13 := n3_; have HO_16 := n4_; have HL242_0 := n5_; have HB := n6_; have HO249 := n7_; clear n0_ n1_ n2_ n3_ n4_ n5_ n6_ n7_; clear ho hb hg hat))
                                         (try simp only [← hl16_7])
                                         go_roundg k7
                                         case measure => have := HJ6.out; have := HJ15.out; have := HK3.out; have := HJ28.out; have := HJ51.out; have := HK6.out; have := HK7.out; omega
                                         case rel => exact ⟨(y247), (y246), (wrap64 (x18_7 + 1)), (by first | rfl | (simp; done) | (simp [*]; done)), H', ⟨by have := HJ6.out; have := HJ15.out; have := HK3.out; have := HJ28.out; have := HJ51.out; have := HK6.out; have := HK7.out; omega⟩, ⟨by (try simp only [hl16_6]); (try simp only [hl16_7]); (with_reducible repeat (first | apply Kd.R_alloc | apply Kd.R_drewN | apply Kd.R_drew)); exact HO_5.out⟩, ⟨by (try simp only [hl16_6]); (try simp only [hl16_7]); (with_reducible repeat (first | apply Kd.R_alloc | apply Kd.R_drewN | apply Kd.R_drew)); exact HO_8.out⟩, ⟨by (try simp only [hl16_6]); (try simp only [hl16_7]); (with_reducible repeat (first | apply Kd.S_alloc | apply Kd.S_drewN | apply Kd.S_drew)); exact HO_12.out⟩, ⟨by (try simp only [hl16_6]); (try simp only [hl16_7]); (with_reducible repeat (first | apply Kd.R_alloc | apply Kd.R_drewN | apply Kd.R_drew)); exact Kd.R_mono HO_13.out (fun _ hk => hk.2)⟩, ⟨by (try simp only [hl16_6]); (try simp only [hl16_7]); (with_reducible repeat (first | apply Kd.R_alloc | apply Kd.R_drewN | apply Kd.R_drew)); exact HO249.out⟩, ⟨by (try simp only [hl16_6]); (try simp only [hl16_7]); (with_reducible repeat (first | apply Kd.R_alloc | apply Kd.R_drewN | apply Kd.R_drew)); exact HO_16.out⟩, ⟨by repeat (first | (with_reducible first | exact HB.out | apply below_alloc | apply pw_below_drewN | apply below_drew1) | exact HB.out)⟩⟩
                                        ·rw [if_neg c92] at H
                                         exact absurd H (by simp)
                                      ·rw [if_neg c85] at H
                                       exact absurd H (by simp)
                                     ·rw [if_neg c84] at H
                                      have c84b0 : ((rd t206 x18_7) == 0) = false := beq_eq_false_iff_ne.mpr c84
                                      have c84b1 : ((rd t206 x18_7) != 0) = true := bne_iff_ne.mpr c84
                                      have H' := Aside0.mk H
                                      clear H
                                      obtain ⟨Ao99, co99, eo99⟩ := Kd.R_slice HO_15.out
                                      subst eo99
                                      have p241 : 0 ≤ (x17_6 : Int) := of_decide_eq_true (by first | (with_reducible assumption) | assumption)
                                      have q241 : x17_6 < (x15_7.length : Int) := of_decide_eq_true (by first | (with_reducible assumption) | assumption)
                                      obtain ⟨ad241, e241, hx241_0⟩ := Kd.at_int (Kd.R_reads' HO_15.out).2.2 x17_6 p241 q241
                                      cases e241
                                      replace p241 := eq_true p241
                                      replace q241 := eq_true q241
                                      obtain ⟨Ao100, co100, eo100⟩ := Kd.S_slice HO_12.out
                                      subst eo100
                                      have p242 : 0 ≤ ((rd x15_7 x17_6) : Int) := of_decide_eq_true (by first | (with_reducible assumption) | assumption)
                                      have q242 : (rd x15_7 x17_6) < (t213.length : Int) := of_decide_eq_true (by first | (with_reducible assumption) | assumption)
                                      obtain ⟨ad242, A242_0, c242_0, e242, hx242_0, hl242_0, hi242_0⟩ := at_L5 (Kd.S_reads' HO_12.out).2.2 (rd x15_7 x17_6) p242 q242
                                      cases e242
                                      obtain ⟨ce242, hce242, hMe242, hcc242⟩ := Kd.S_get HO_12.out [] (rd x15_7 x17_6) p242 (by first | exact q242 | exact of_decide_eq_true (by first | (with_reducible assumption) | assumption) | (have e_ := (Kd.S_reads' HO_12.out).1; omega))
                                      obtain ⟨ve242_0, rfl, ge242_0⟩ := hMe242
                                      have hv242_0 := hcc242 0 _ rfl
                                      rw [Nat.add_zero, show ((Kd.slice 4 Kd.bool)).sz = 1 from rfl, Nat.mul_one] at hv242_0
                                      replace hv242_0 := Option.some.inj (hv242_0.symm.trans hx242_0)
                                      rw [hv242_0] at ge242_0
                                      have HL242_0 := Aside0.mk (show Kd.R Kd.bool 4 _ _ _ _ (rd_L5 t213 (rd x15_7 x17_6)) from ge242_0)
                                      clear hv242_0 ge242_0
                                      clear hcc242 hce242
                                      have HR242_0 := Aside0.mk hi242_0
                                      have HC242_0 := Aside0.mk hl242_0
                                      clear hi242_0 hl242_0
                                      replace p242 := eq_true p242
                                      replace q242 := eq_true q242
                                      have p243 : 0 ≤ (x18_7 : Int) := of_decide_eq_true (by first | (with_reducible assumption) | assumption)
                                      have q243 : x18_7 < ((rd_L5 t213 (rd x15_7 x17_6)).length : Int) := of_decide_eq_true (by first | (with_reducible assumption) | assumption)
                                      obtain ⟨ad243, e243, hx243_0⟩ := Kd.at_bool (by repeat (first | (with_reducible exact HR242_0.out) | (with_reducible refine Kd.C_alloc ?_ _) | (with_reducible refine Kd.C_drewN ?_ _) | (with_reducible refine Kd.C_drew ?_) | exact HR242_0.out)) x18_7 p243 q243
                                      (try rw [← Nbq81.out] at hx243_0)
                                      cases e243
                                      replace p243 := eq_true p243
                                      replace q243 := eq_true q243
                                      obtain ⟨Ao101, co101, eo101⟩ := Kd.R_slice HO_8.out
                                      subst eo101
                                      have p244 : 0 ≤ (x18_7 : Int) := of_decide_eq_true (by first | (with_reducible assumption) | assumption)
                                      have q244 : x18_7 < (t206.length : Int) := of_decide_eq_true (by first | (with_reducible assumption) | assumption)
                                      obtain ⟨ad244, e244, hx244_0⟩ := Kd.at_int (Kd.R_reads' HO_8.out).2.2 x18_7 p244 q244
                                      cases e244
                                      replace p244 := eq_true p244
                                      replace q244 := eq_true q244
                                      go_wp2
                                      (try simp only [← hl16_7])
                                      go_roundg k7
                                      case measure => have := HJ6.out; have := HJ15.out; have := HK3.out; have := HJ28.out; have := HJ51.out; have := HK6.out; have := HK7.out; omega
                                      case rel => exact ⟨(x15_7), (x16_7), (wrap64 (x18_7 + 1)), (by first | rfl | (simp; done) | (simp [*]; done)), H', ⟨by have := HJ6.out; have := HJ15.out; have := HK3.out; have := HJ28.out; have := HJ51.out; have := HK6.out; have := HK7.out; omega⟩, ⟨by (try simp only [hl16_6]); (try simp only [hl16_7]); (with_reducible repeat (first | apply Kd.R_alloc | apply Kd.R_drewN | apply Kd.R_drew)); exact HO_5.out⟩, ⟨by (try simp only [hl16_6]); (try simp only [hl16_7]); (with_reducible repeat (first | apply Kd.R_alloc | apply Kd.R_drewN | apply Kd.R_drew)); exact HO_8.out⟩, ⟨by (try simp only [hl16_6]); (try simp only [hl16_7]); (with_reducible repeat (first | apply Kd.S_alloc | apply Kd.S_drewN | apply Kd.S_drew)); exact HO_12.out⟩, ⟨by (try simp only [hl16_6]); (try simp only [hl16_7]); (with_reducible repeat (first | apply Kd.R_alloc | apply Kd.R_drewN | apply Kd.R_drew)); exact HO_13.out⟩, ⟨by (try simp only [hl16_6]); (try simp only [hl16_7]); (with_reducible repeat (first | apply Kd.R_alloc | apply Kd.R_drewN | apply Kd.R_drew)); exact HO_15.out⟩, ⟨by (try simp only [hl16_6]); (try simp only [hl16_7]); (with_reducible repeat (first | apply Kd.R_alloc | apply Kd.R_drewN | apply Kd.R_drew)); exact HO_16.out⟩, ⟨by repeat (first | (with_reducible first | exact HB.out | apply below_alloc | apply pw_below_drewN | apply below_drew1) | exact HB.out)⟩⟩
                                    ·rw [if_neg c83] at H
                                     exact absurd H (by simp)
                                   ·replace c82 := Bool.eq_false_iff.mpr c82
                                    subst c82
                                    have H1 : (kimberlitelaw04_PairGallai.l2 k7 a0 t201 t206 t213 x13_3 x14_3 x15_7 x16_7 x17_6 (wrap64 (x18_7 + 1))) = some r := by rw [if_neg (show ¬ (false = true) by decide)] at H; exact H
                                    clear H
                                    have H := H1
                                    clear H1
                                    have H' := Aside0.mk H
                                    clear H
                                    obtain ⟨Ao102, co102, eo102⟩ := Kd.R_slice HO_15.out
                                    subst eo102
                                    have p241 : 0 ≤ (x17_6 : Int) := of_decide_eq_true (by first | (with_reducible assumption) | assumption)
                                    have q241 : x17_6 < (x15_7.length : Int) := of_decide_eq_true (by first | (with_reducible assumption) | assumption)
                                    obtain ⟨ad241, e241, hx241_0⟩ := Kd.at_int (Kd.R_reads' HO_15.out).2.2 x17_6 p241 q241
                                    cases e241
                                    replace p241 := eq_true p241
                                    replace q241 := eq_true q241
                                    obtain ⟨Ao103, co103, eo103⟩ := Kd.S_slice HO_12.out
                                    subst eo103
                                    have p242 : 0 ≤ ((rd x15_7 x17_6) : Int) := of_decide_eq_true (by first | (with_reducible assumption) | assumption)
                                    have q242 : (rd x15_7 x17_6) < (t213.length : Int) := of_decide_eq_true (by first | (with_reducible assumption) | assumption)
                                    obtain ⟨ad242, A242_0, c242_0, e242, hx242_0, hl242_0, hi242_0⟩ := at_L5 (Kd.S_reads' HO_12.out).2.2 (rd x15_7 x17_6) p242 q242
                                    cases e242
                                    obtain ⟨ce242, hce242, hMe242, hcc242⟩ := Kd.S_get HO_12.out [] (rd x15_7 x17_6) p242 (by first | exact q242 | exact of_decide_eq_true (by first | (with_reducible assumption) | assumption) | (have e_ := (Kd.S_reads' HO_12.out).1; omega))
                                    obtain ⟨ve242_0, rfl, ge242_0⟩ := hMe242
                                    have hv242_0 := hcc242 0 _ rfl
                                    rw [Nat.add_zero, show ((Kd.slice 4 Kd.bool)).sz = 1 from rfl, Nat.mul_one] at hv242_0
                                    replace hv242_0 := Option.some.inj (hv242_0.symm.trans hx242_0)
                                    rw [hv242_0] at ge242_0
                                    have HL242_0 := Aside0.mk (show Kd.R Kd.bool 4 _ _ _ _ (rd_L5 t213 (rd x15_7 x17_6)) from ge242_0)
                                    clear hv242_0 ge242_0
                                    clear hcc242 hce242
                                    have HR242_0 := Aside0.mk hi242_0
                                    have HC242_0 := Aside0.mk hl242_0
                                    clear hi242_0 hl242_0
                                    replace p242 := eq_true p242
                                    replace q242 := eq_true q242
                                    have p243 : 0 ≤ (x18_7 : Int) := of_decide_eq_true (by first | (with_reducible assumption) | assumption)
                                    have q243 : x18_7 < ((rd_L5 t213 (rd x15_7 x17_6)).length : Int) := of_decide_eq_true (by first | (with_reducible assumption) | assumption)
                                    obtain ⟨ad243, e243, hx243_0⟩ := Kd.at_bool (by repeat (first | (with_reducible exact HR242_0.out) | (with_reducible refine Kd.C_alloc ?_ _) | (with_reducible refine Kd.C_drewN ?_ _) | (with_reducible refine Kd.C_drew ?_) | exact HR242_0.out)) x18_7 p243 q243
                                    (try rw [← Nbq81.out] at hx243_0)
                                    cases e243
                                    replace p243 := eq_true p243
                                    replace q243 := eq_true q243
                                    go_wp2
                                    (try simp only [← hl16_7])
                                    go_roundg k7
                                    case measure => have := HJ6.out; have := HJ15.out; have := HK3.out; have := HJ28.out; have := HJ51.out; have := HK6.out; have := HK7.out; omega
                                    case rel => exact ⟨(x15_7), (x16_7), (wrap64 (x18_7 + 1)), (by first | rfl | (simp; done) | (simp [*]; done)), H', ⟨by have := HJ6.out; have := HJ15.out; have := HK3.out; have := HJ28.out; have := HJ51.out; have := HK6.out; have := HK7.out; omega⟩, ⟨by (try simp only [hl16_6]); (try simp only [hl16_7]); (with_reducible repeat (first | apply Kd.R_alloc | apply Kd.R_drewN | apply Kd.R_drew)); exact HO_5.out⟩, ⟨by (try simp only [hl16_6]); (try simp only [hl16_7]); (with_reducible repeat (first | apply Kd.R_alloc | apply Kd.R_drewN | apply Kd.R_drew)); exact HO_8.out⟩, ⟨by (try simp only [hl16_6]); (try simp only [hl16_7]); (with_reducible repeat (first | apply Kd.S_alloc | apply Kd.S_drewN | apply Kd.S_drew)); exact HO_12.out⟩, ⟨by (try simp only [hl16_6]); (try simp only [hl16_7]); (with_reducible repeat (first | apply Kd.R_alloc | apply Kd.R_drewN | apply Kd.R_drew)); exact HO_13.out⟩, ⟨by (try simp only [hl16_6]); (try simp only [hl16_7]); (with_reducible repeat (first | apply Kd.R_alloc | apply Kd.R_drewN | apply Kd.R_drew)); exact HO_15.out⟩, ⟨by (try simp only [hl16_6]); (try simp only [hl16_7]); (with_reducible repeat (first | apply Kd.R_alloc | apply Kd.R_drewN | apply Kd.R_drew)); exact HO_16.out⟩, ⟨by repeat (first | (with_reducible first | exact HB.out | apply below_alloc | apply pw_below_drewN | apply below_drew1) | exact HB.out)⟩⟩
                                  ·rw [if_neg c80] at H
                                   exact absurd H (by simp)
                                 ·rw [if_neg c79] at H
                                  exact absurd H (by simp)
                                ·rw [if_neg c78] at H
                                 exact absurd H (by simp)
                               ·rw [if_neg c77] at H
                                exact absurd H (by simp)
                              ·rw [if_neg c76] at H
                               exact absurd H (by simp)
                             ·rw [if_neg c75] at H
                              exact absurd H (by simp)
                            ·rw [if_neg c74] at H
                             have c74b0 : decide (x18_7 < a0) = false := decide_eq_false c74
                             clear c74
                             have H' := Aside0.mk H
                             clear H
                             go_wp2
                             (try simp only [← hl16_6, ← hl16_7])
                             go_roundg k7
                             case measure => have := HJ6.out; have := HJ15.out; have := HK3.out; have := HJ28.out; have := HJ51.out; have := HK6.out; have := HK7.out; omega
                             case rel => exact ⟨(x15_7), (x16_7), (wrap64 (x17_6 + 1)), (by first | rfl | (simp; done) | (simp [*]; done)), H', ⟨by have := HJ6.out; have := HJ15.out; have := HK3.out; have := HJ28.out; have := HJ51.out; have := HK6.out; have := HK7.out; omega⟩, ⟨by (try simp only [hl16_6]); (try simp only [hl16_7]); (with_reducible repeat (first | apply Kd.R_alloc | apply Kd.R_drewN | apply Kd.R_drew)); exact HO_5.out⟩, ⟨by (try simp only [hl16_6]); (try simp only [hl16_7]); (with_reducible repeat (first | apply Kd.R_alloc | apply Kd.R_drewN | apply Kd.R_drew)); exact HO_8.out⟩, ⟨by (try simp only [hl16_6]); (try simp only [hl16_7]); (with_reducible repeat (first | apply Kd.S_alloc | apply Kd.S_drewN | apply Kd.S_drew)); exact HO_12.out⟩, ⟨by (try simp only [hl16_6]); (try simp only [hl16_7]); (with_reducible repeat (first | apply Kd.R_alloc | apply Kd.R_drewN | apply Kd.R_drew)); exact HO_13.out⟩, ⟨by (try simp only [hl16_6]); (try simp only [hl16_7]); (with_reducible repeat (first | apply Kd.R_alloc | apply Kd.R_drewN | apply Kd.R_drew)); exact HO_15.out⟩, ⟨by (try simp only [hl16_6]); (try simp only [hl16_7]); (with_reducible repeat (first | apply Kd.R_alloc | apply Kd.R_drewN | apply Kd.R_drew)); exact HO_16.out⟩, ⟨by repeat (first | (with_reducible first | exact HB.out | apply below_alloc | apply pw_below_drewN | apply below_drew1) | exact HB.out)⟩⟩
                         ·rw [if_neg c72] at H
                          have c72b0 : decide (x17_6 < (x15_6.length : Int)) = false := decide_eq_false c72
                          clear c72
                          have H' := Aside0.mk H
                          clear H
                          obtain ⟨Ao104, co104, eo104⟩ := Kd.R_slice HO_15.out
                          subst eo104
                          go_wp2
                          go_loopg [19, 20] k6 (fun kq v19 v20 w' => ∃ (x13_7 : List Bool) (x19_7 : Int) (x20_7 : Int), v19 = .int .i64 x19_7 ∧ v20 = .int .i64 x20_7 ∧ Aside0 (kimberlitelaw04_PairGallai.l3 kq a0 t201 t206 t213 x13_7 x14_3 x15_6 x16_6 x19_7 x20_7 = some r) ∧ Aside0 (kq ≤ k6) ∧ Aside0 (Kd.R (Kd.int .i64) 3 w' w.heap.size (fun k_ => some k_ ≠ (v208 : Value).ownBlock ∧ some k_ ≠ ((.slice Ao104 x15_6.length co104) : Value).ownBlock) (.slice Ao17 t201.length co17) t201) ∧ Aside0 (Kd.R (Kd.int .i64) 3 w' w.heap.size (fun k_ => some k_ ≠ ((.slice Ao17 t201.length co17) : Value).ownBlock ∧ some k_ ≠ ((.slice Ao104 x15_6.length co104) : Value).ownBlock) v208 t206) ∧ Aside0 (Kd.S (Kd.slice 4 Kd.bool) 39 w' w.heap.size (fun k_ => some k_ ≠ (v217 : Value).ownBlock ∧ some k_ ≠ ((.slice (some ⟨go65, 0, none⟩) x16_6.length co65) : Value).ownBlock) v214 t213) ∧ Aside0 (Kd.R Kd.bool 4 w' w.heap.size (fun k_ => some k_ ≠ ((.slice (some ⟨go65, 0, none⟩) x16_6.length co65) : Value).ownBlock) v217 x13_7) ∧ Aside0 (Kd.R (Kd.int .i64) 3 w' w.heap.size (fun k_ => some k_ ≠ ((.slice Ao17 t201.length co17) : Value).ownBlock ∧ some k_ ≠ (v208 : Value).ownBlock) (.slice Ao104 x15_6.length co104) x15_6) ∧ Aside0 (Kd.R Kd.bool 4 w' w.heap.size (fun k_ => some k_ ≠ (v217 : Value).ownBlock) (.slice (some ⟨go65, 0, none⟩) x16_6.length co65) x16_6) ∧ Aside0 (Below w.heap.size w w'))
                          case atStart => exact ⟨(x13_3), (0), (0), (by first | rfl | (simp; done) | (simp [*]; done)), (by first | rfl | (simp; done) | (simp [*]; done)), H', ⟨Nat.le_refl _⟩, ⟨by (try simp only [hl16_6]); (with_reducible repeat (first | apply Kd.R_alloc | apply Kd.R_drewN | apply Kd.R_drew)); exact HO_5.out⟩, ⟨by (try simp only [hl16_6]); (with_reducible repeat (first | apply Kd.R_alloc | apply Kd.R_drewN | apply Kd.R_drew)); exact HO_8.out⟩, ⟨by (try simp only [hl16_6]); (with_reducible repeat (first | apply Kd.S_alloc | apply Kd.S_drewN | apply Kd.S_drew)); exact HO_12.out⟩, ⟨by (try simp only [hl16_6]); (with_reducible repeat (first | apply Kd.R_alloc | apply Kd.R_drewN | apply Kd.R_drew)); exact HO_13.out⟩, ⟨by (try simp only [hl16_6]); (with_reducible repeat (first | apply Kd.R_alloc | apply Kd.R_drewN | apply Kd.R_drew)); exact HO_15.out⟩, ⟨by (try simp only [hl16_6]); (with_reducible repeat (first | apply Kd.R_alloc | apply Kd.R_drewN | apply Kd.R_drew)); exact HO_16.out⟩, ⟨by repeat (first | (with_reducible first | exact HB.out | apply below_alloc | apply pw_below_drewN | apply below_drew1) | exact HB.out)⟩⟩
                          case round => as_aux_lemma =>
                           clear H'
                           try clear c1
                           try clear c2
                           try clear p2
                           try clear q2
                           try clear hx2
                           try clear c3
                           try clear c4
                           try clear c5
                           try clear c6
                           try clear p6
                           try clear q6
                           try clear hx6
                           try clear hf6
                           try clear c7
                           try clear c8
                           try clear q8
                           try clear c9
                           try clear p9
                           try clear q9
                           try clear hx9
                           try clear hf9
                           try clear c10
                           try clear c10b0
                           try clear c10b1
                           try clear c11
                           try clear c12
                           try clear c12b0
                           try clear c12b1
                           try clear c13
                           try clear c15
                           try clear c19
                           try clear c20
                           try clear c21
                           try clear p22
                           try clear q22
                           try clear hx22
                           try clear c23
                           try clear c23b0
                           try clear c23b1
                           try clear p23
                           try clear q23
                           try clear hx23
                           try clear c24
                           try clear c24b0
                           try clear c24b1
                           try clear p24
                           try clear q24
                           try clear hx24
                           try clear c28
                           try clear c28b0
                           try clear c30
                           try clear c30b0
                           try clear c31
                           try clear c31b0
                           try clear c32
                           try clear c32b0
                           try clear c32b1
                           try clear c33
                           try clear c33b0
                           try clear c34
                           try clear c34b0
                           try clear c34b1
                           try clear c36
                           try clear c36b0
                           try clear c37
                           try clear c37b0
                           try clear c38
                           try clear c38b0
                           try clear c38b1
                           try clear c39
                           try clear c39b0
                           try clear c39b1
                           try clear c43
                           try clear c43b0
                           try clear c43b1
                           try clear c44
                           try clear c44b0
                           try clear c45
                           try clear c45b0
                           try clear c45b1
                           try clear c47
                           try clear c47b0
                           try clear c48
                           try clear c48b0
                           try clear c51
                           try clear c53
                           try clear c53b0
                           try clear c54
                           try clear c54b0
                           try clear c55
                           try clear c55b0
                           try clear c55b1
                           try clear c56
                           try clear c56b0
                           try clear c60
                           try clear c61
                           try clear c61b0
                           try clear c61b1
                           try clear c62
                           try clear c62b0
                           try clear c62b1
                           try clear c63
                           try clear c63b0
                           try clear c64
                           try clear c64b0
                           try clear p64
                           try clear p65
                           try clear q65
                           try clear hx65
                           try clear hf65
                           try clear c72
                           try clear c72b0
                           try clear c74
                           try clear c74b0
                           try clear c75
                           try clear c75b0
                           try clear c76
                           try clear c76b0
                           try clear c77
                           try clear c77b0
                           try clear c78
                           try clear c78b0
                           try clear c79
                           try clear c79b0
                           try clear c80
                           try clear c80b0
                           try clear q81
                           try clear c82
                           try clear c83
                           try clear c83b0
                           try clear c84
                           try clear c84b0
                           try clear c84b1
                           try clear c85
                           try clear c85b0
                           try clear q86
                           try clear c87
                           try clear p91
                           try clear q91
                           try clear hx91
                           try clear hf91
                           try clear c92
                           try clear hx220_0
                           try clear hx221_0
                           try clear hx222_0
                           try clear hx223_0
                           try clear hx224_0
                           try clear hx225_0
                           try clear hx226_0
                           try clear hx227_0
                           try clear hx228_0
                           try clear hx229_0
                           try clear hx230_0
                           try clear hx231_0
                           try clear hx232_0
                           try clear hx233_0
                           try clear hx241_0
                           try clear hx242_0
                           try clear hx243_0
                           try clear hx244_0
                           try clear hx245_0
                           try clear hx65_0
                           try clear hx91_0
                           try clear p2
                           try clear p22
                           try clear p220
                           try clear p221
                           try clear p222
                           try clear p223
                           try clear p224
                           try clear p225
                           try clear p226
                           try clear p227
                           try clear p228
                           try clear p229
                           try clear p23
                           try clear p230
                           try clear p231
                           try clear p232
                           try clear p233
                           try clear p241
                           try clear p242
                           try clear p243
                           try clear p244
                           try clear p245
                           try clear p6
                           try clear p64
                           try clear p65
                           try clear p91
                           try clear q2
                           try clear q22
                           try clear q220
                           try clear q221
                           try clear q222
                           try clear q223
                           try clear q224
                           try clear q225
                           try clear q226
                           try clear q227
                           try clear q228
                           try clear q229
                           try clear q23
                           try clear q230
                           try clear q231
                           try clear q232
                           try clear q233
                           try clear q241
                           try clear q242
                           try clear q243
                           try clear q244
                           try clear q245
                           try clear q6
                           try clear q65
                           try clear q91
                           obtain ⟨x13_7, x19_7, x20_7, rfl, rfl, HA, HK7, HO_5, HO_8, HO_12, HO_13, HO_15, HO_16, HB⟩ := hrel
                           cases gk with
                           | zero => exact absurd HA.out (by simp [kimberlitelaw04_PairGallai.l3])
                           | succ k7 =>
                            have H := HA.out
                            clear HA
                            simp only [kimberlitelaw04_PairGallai.l3] at H
                            by_cases c105 : x20_7 < (x15_6.length : Int)
                            ·rw [if_pos c105] at H
                             have c105b0 : decide (x20_7 < (x15_6.length : Int)) = true := decide_eq_true c105
                             clear c105
                             by_cases c106 : 0 ≤ x20_7
                             ·rw [if_pos c106] at H
                              have c106b0 : decide (0 ≤ x20_7) = true := decide_eq_true c106
                              clear c106
                              by_cases c107 : 0 ≤ (rd x15_6 x20_7)
                              ·rw [if_pos c107] at H
                               have c107b0 : decide (0 ≤ (rd x15_6 x20_7)) = true := decide_eq_true c107
                               clear c107
                               by_cases c108 : (rd x15_6 x20_7) < (x13_7.length : Int)
                               ·rw [if_pos c108] at H
                                have c108b0 : decide ((rd x15_6 x20_7) < (x13_7.length : Int)) = true := decide_eq_true c108
                                clear c108
                                obtain ⟨y251, hy251⟩ : ∃ y_ : List Bool, y_ = (x13_7.set ((rd x15_6 x20_7) : Int).toNat true) := ⟨_, rfl⟩
                                replace H : (if (rd x15_6 x20_7) < (t201.length : Int) then (if (rd t201 (rd x15_6 x20_7)) = a0 then (kimberlitelaw04_PairGallai.l3 k7 a0 t201 t206 t213 y251 x14_3 x15_6 x16_6 (wrap64 (x19_7 + 1)) (wrap64 (x20_7 + 1))) else (if 0 ≤ (rd t201 (rd x15_6 x20_7)) then (if (rd t201 (rd x15_6 x20_7)) < (x16_6.length : Int) then (if (rdOf false x16_6 (rd t201 (rd x15_6 x20_7)) = true) then (kimberlitelaw04_PairGallai.l3 k7 a0 t201 t206 t213 y251 x14_3 x15_6 x16_6 x19_7 (wrap64 (x20_7 + 1))) else (kimberlitelaw04_PairGallai.l3 k7 a0 t201 t206 t213 y251 x14_3 x15_6 x16_6 (wrap64 (x19_7 + 1)) (wrap64 (x20_7 + 1)))) else (none)) else (none))) else (none)) = some r := by first | (rw [hy251]; with_reducible exact H) | (have H2_ := (Option.bind_some _ _).symm.trans H; rw [hy251]; with_reducible exact H2_) | (have H2_ := (Option.bind_some _ _).symm.trans H; with_reducible exact H2_) | with_reducible exact H | (rw [hy251]; exact H) | exact H
                                have Ny251 := Aside0.mk hy251
                                clear hy251
                                by_cases c110 : (rd x15_6 x20_7) < (t201.length : Int)
                                ·rw [if_pos c110] at H
                                 have c110b0 : decide ((rd x15_6 x20_7) < (t201.length : Int)) = true := decide_eq_true c110
                                 clear c110
                                 by_cases c111 : (rd t201 (rd x15_6 x20_7)) = a0
                                 ·rw [if_pos c111] at H
                                  have c111b0 : ((rd t201 (rd x15_6 x20_7)) == a0) = true := beq_iff_eq.mpr c111
                                  have c111b1 : ((rd t201 (rd x15_6 x20_7)) != a0) = false := bne_eq_false_iff_eq.mpr c111
                                  clear c111
                                  have H' := Aside0.mk H
                                  clear H
                                  have p250 : 0 ≤ (x20_7 : Int) := of_decide_eq_true (by first | (with_reducible assumption) | assumption)
                                  have q250 : x20_7 < (x15_6.length : Int) := of_decide_eq_true (by first | (with_reducible assumption) | assumption)
                                  obtain ⟨ad250, e250, hx250_0⟩ := Kd.at_int (Kd.R_reads' HO_15.out).2.2 x20_7 p250 q250
                                  cases e250
                                  replace p250 := eq_true p250
                                  replace q250 := eq_true q250
                                  have p109 : 0 ≤ ((rd x15_6 x20_7) : Int) := of_decide_eq_true (by first | (with_reducible assumption) | assumption)
                                  have q109 : ((rd x15_6 x20_7) : Int) < ((x13_7.length : Int) : Int) := of_decide_eq_true (by first | (with_reducible assumption) | assumption)
                                  obtain ⟨go109, co109, eo109, gb109, gl109, cl109, HG109⟩ := Kd.R_form HO_13.out (by omega)
                                  (first | cases eo109 | (injection eo109 with ea_ en_ ec_; (first | subst ea_ | (injection ea_ with ea_; subst ea_)); subst ec_; clear en_))
                                  have GB109 := Aside0.mk gb109
                                  have GG109 := Aside0.mk HG109
                                  clear gb109 gl109 HG109
                                  obtain ⟨hx109_0, hf109_0⟩ := Kd.R_celln false HO_13.out ((rd x15_6 x20_7) : Int) p109 q109
                                  replace p109 := eq_true p109
                                  replace q109 := eq_true q109
                                  have HP112 := Kd.R_putg HO_13.out ((rd x15_6 x20_7) : Int) true
                                  go_wp2_with (first | ((with_reducible refine gate_store (t := 4) (p := 194) rfl ?_); refine store_event (t := 4) (p := 194) (v := ?vo_w113) (w1 := (wr.setCell ⟨go109, ((rd x15_6 x20_7) : Int).toNat, none⟩ (.bool true))) ?hg ?ho ?hn ?hr ?_; (case ho => rfl); (case hg => rfl); (case hn => rfl); (case hr => first | (go_simp; done) | (go_simp; rfl)); intro w113 hw; have hg : wr.grownBy w113 (some go109) := (by rw [hw]; exact HP112.2); have hp_ : Kd.R Kd.bool 4 w113 w.heap.size (fun k_ => some k_ ≠ (.slice (some ⟨go65, 0, none⟩) x16_6.length co65 : Value).ownBlock) (.slice (some ⟨go109, 0, none⟩) x13_7.length co109) y251 := (by rw [hw, Ny251.out]; exact HP112.1); clear HP112; have n0_ := Aside0.mk (Kd.R_over' (v := (.slice (some ⟨go109, 0, none⟩) x13_7.length co109)) (by (with_reducible repeat (first | apply Kd.R_alloc | apply Kd.R_drewN | apply Kd.R_drew)); exact HO_5.out) (Kd.R_typed HO_13.out) (by decide) hg); have n1_ := Aside0.mk (Kd.R_over' (v := (.slice (some ⟨go109, 0, none⟩) x13_7.length co109)) (by (with_reducible repeat (first | apply Kd.R_alloc | apply Kd.R_drewN | apply Kd.R_drew)); exact HO_8.out) (Kd.R_typed HO_13.out) (by decide) hg); have n2_ := Aside0.mk (Kd.S_after (v := (.slice (some ⟨go109, 0, none⟩) x13_7.length co109)) (v1 := (.slice (some ⟨go109, 0, none⟩) x13_7.length co109)) (ok := (fun k_ => some k_ ≠ (.slice (some ⟨go65, 0, none⟩) x16_6.length co65 : Value).ownBlock)) (by (with_reducible repeat (first | apply Kd.S_alloc | apply Kd.S_drewN | apply Kd.S_drew)); exact Kd.S_mono HO_12.out (fun _ hk => ⟨hk.2, hk.1⟩)) hg (.inl rfl)); have n3_ := Aside0.mk (hp_); have n4_ := Aside0.mk (Kd.R_over' (v := (.slice (some ⟨go109, 0, none⟩) x13_7.length co109)) (by (with_reducible repeat (first | apply Kd.R_alloc | apply Kd.R_drewN | apply Kd.R_drew)); exact HO_15.out) (Kd.R_typed HO_13.out) (by decide) hg); have n5_ := Aside0.mk (Kd.R_after (v := (.slice (some ⟨go109, 0, none⟩) x13_7.length co109)) (v1 := (.slice (some ⟨go109, 0, none⟩) x13_7.length co109)) (ok := (fun _ => True)) (by (with_reducible repeat (first | apply Kd.R_alloc | apply Kd.R_drewN | apply Kd.R_drew)); exact Kd.R_mono HO_16.out (fun _ hk => ⟨trivial, hk⟩)) hg (.inl rfl)); have n6_ := Aside0.mk ((by rw [hw]; exact below_set (HB.out) GB109.out : Below w.heap.size w w113)); clear HO_5; clear HO_8; clear HO_12; clear HO_13; clear HO_15; clear HO_16; clear HB; have HO_5 := n0_; have HO_8 := n1_; have HO_12 := n2_; have HO_13 := n3_; have HO_15 := n4_; have HO_16 := n5_; have HB := n6_; clear n0_ n1_ n2_ n3_ n4_ n5_ n6_; clear hg hw hp_; have p252 : 0 ≤ (x20_7 : Int) := of_decide_eq_true (by first | (with_reducible assumption) | assumption); have q252 : x20_7 < (x15_6.length : Int) := of_decide_eq_true (by first | (with_reducible assumption) | assumption); obtain ⟨ad252, e252, hx252_0⟩ := Kd.at_int (Kd.R_reads' HO_15.out).2.2 x20_7 p252 q252; obtain rfl : ad250 = ad252 := (by injection e252); replace p252 := eq_true p252; replace q252 := eq_true q252; have p253 : 0 ≤ ((rd x15_6 x20_7) : Int) := of_decide_eq_true (by first | (with_reducible assumption) | assumption); have q253 : (rd x15_6 x20_7) < (t201.length : Int) := of_decide_eq_true (by first | (with_reducible assumption) | assumption); obtain ⟨ad253, e253, hx253_0⟩ := Kd.at_int (Kd.R_reads' HO_5.out).2.2 (rd x15_6 x20_7) p253 q253; cases e253; replace p253 := eq_true p253; replace q253 := eq_true q253))
                                  go_roundg k7
                                  case measure => have := HJ6.out; have := HJ15.out; have := HK3.out; have := HJ28.out; have := HJ51.out; have := HK6.out; have := HK7.out; omega
                                  case rel => exact ⟨(y251), (wrap64 (x19_7 + 1)), (wrap64 (x20_7 + 1)), (by first | rfl | (simp; done) | (simp [*]; done)), (by first | rfl | (simp; done) | (simp [*]; done)), H', ⟨by have := HJ6.out; have := HJ15.out; have := HK3.out; have := HJ28.out; have := HJ51.out; have := HK6.out; have := HK7.out; omega⟩, ⟨by (try simp only [hl16_6]); (with_reducible repeat (first | apply Kd.R_alloc | apply Kd.R_drewN | apply Kd.R_drew)); exact HO_5.out⟩, ⟨by (try simp only [hl16_6]); (with_reducible repeat (first | apply Kd.R_alloc | apply Kd.R_drewN | apply Kd.R_drew)); exact HO_8.out⟩, ⟨by (try simp only [hl16_6]); (with_reducible repeat (first | apply Kd.S_alloc | apply Kd.S_drewN | apply Kd.S_drew)); exact Kd.S_mono HO_12.out (fun _ hk => ⟨hk.2, hk.1⟩)⟩, ⟨by (try simp only [hl16_6]); (with_reducible repeat (first | apply Kd.R_alloc | apply Kd.R_drewN | apply Kd.R_drew)); exact HO_13.out⟩, ⟨by (try simp only [hl16_6]); (with_reducible repeat (first | apply Kd.R_alloc | apply Kd.R_drewN | apply Kd.R_drew)); exact HO_15.out⟩, ⟨by (try simp only [hl16_6]); (with_reducible repeat (first | apply Kd.R_alloc | apply Kd.R_drewN | apply Kd.R_drew)); exact Kd.R_mono HO_16.out (fun _ hk => hk.2)⟩, ⟨by repeat (first | (with_reducible first | exact HB.out | apply below_alloc | apply pw_below_drewN | apply below_drew1) | exact HB.out)⟩⟩
                                 ·rw [if_neg c111] at H
                                  have c111b0 : ((rd t201 (rd x15_6 x20_7)) == a0) = false := beq_eq_false_iff_ne.mpr c111
                                  have c111b1 : ((rd t201 (rd x15_6 x20_7)) != a0) = true := bne_iff_ne.mpr c111
                                  by_cases c114 : 0 ≤ (rd t201 (rd x15_6 x20_7))
                                  ·rw [if_pos c114] at H
                                   have c114b0 : decide (0 ≤ (rd t201 (rd x15_6 x20_7))) = true := decide_eq_true c114
                                   clear c114
                                   by_cases c115 : (rd t201 (rd x15_6 x20_7)) < (x16_6.length : Int)
                                   ·rw [if_pos c115] at H
                                    have c115b0 : decide ((rd t201 (rd x15_6 x20_7)) < (x16_6.length : Int)) = true := decide_eq_true c115
                                    clear c115
                                    obtain ⟨bq116, hbq116⟩ : ∃ b_ : Bool, b_ = (rdOf false x16_6 (rd t201 (rd x15_6 x20_7))) := ⟨_, rfl⟩
                                    replace H : (if (bq116 = true) then (kimberlitelaw04_PairGallai.l3 k7 a0 t201 t206 t213 y251 x14_3 x15_6 x16_6 x19_7 (wrap64 (x20_7 + 1))) else (kimberlitelaw04_PairGallai.l3 k7 a0 t201 t206 t213 y251 x14_3 x15_6 x16_6 (wrap64 (x19_7 + 1)) (wrap64 (x20_7 + 1)))) = some r := by rw [← hbq116] at H; exact H
                                    have Nbq116 := Aside0.mk hbq116
                                    clear hbq116
                                    by_cases c117 : (bq116 = true)
                                    ·subst c117
                                     have H1 : (kimberlitelaw04_PairGallai.l3 k7 a0 t201 t206 t213 y251 x14_3 x15_6 x16_6 x19_7 (wrap64 (x20_7 + 1))) = some r := by rw [if_pos rfl] at H; exact H
                                     clear H
                                     have H := H1
                                     clear H1
                                     have H' := Aside0.mk H
                                     clear H
                                     have p250 : 0 ≤ (x20_7 : Int) := of_decide_eq_true (by first | (with_reducible assumption) | assumption)
                                     have q250 : x20_7 < (x15_6.length : Int) := of_decide_eq_true (by first | (with_reducible assumption) | assumption)
                                     obtain ⟨ad250, e250, hx250_0⟩ := Kd.at_int (Kd.R_reads' HO_15.out).2.2 x20_7 p250 q250
                                     cases e250
                                     replace p250 := eq_true p250
                                     replace q250 := eq_true q250
                                     have p109 : 0 ≤ ((rd x15_6 x20_7) : Int) := of_decide_eq_true (by first | (with_reducible assumption) | assumption)
                                     have q109 : ((rd x15_6 x20_7) : Int) < ((x13_7.length : Int) : Int) := of_decide_eq_true (by first | (with_reducible assumption) | assumption)
                                     obtain ⟨go109, co109, eo109, gb109, gl109, cl109, HG109⟩ := Kd.R_form HO_13.out (by omega)
                                     (first | cases eo109 | (injection eo109 with ea_ en_ ec_; (first | subst ea_ | (injection ea_ with ea_; subst ea_)); subst ec_; clear en_))
                                     have GB109 := Aside0.mk gb109
                                     have GG109 := Aside0.mk HG109
                                     clear gb109 gl109 HG109
                                     obtain ⟨hx109_0, hf109_0⟩ := Kd.R_celln false HO_13.out ((rd x15_6 x20_7) : Int) p109 q109
                                     replace p109 := eq_true p109
                                     replace q109 := eq_true q109
                                     have HP118 := Kd.R_putg HO_13.out ((rd x15_6 x20_7) : Int) true
                                     go_wp2_with (first | ((with_reducible refine gate_store (t := 4) (p := 194) rfl ?_); refine store_event (t := 4) (p := 194) (v := ?vo_w119) (w1 := (wr.setCell ⟨go109, ((rd x15_6 x20_7) : Int).toNat, none⟩ (.bool true))) ?hg ?ho ?hn ?hr ?_; (case ho => rfl); (case hg => rfl); (case hn => rfl); (case hr => first | (go_simp; done) | (go_simp; rfl)); intro w119 hw; have hg : wr.grownBy w119 (some go109) := (by rw [hw]; exact HP118.2); have hp_ : Kd.R Kd.bool 4 w119 w.heap.size (fun k_ => some k_ ≠ (.slice (some ⟨go65, 0, none⟩) x16_6.length co65 : Value).ownBlock) (.slice (some ⟨go109, 0, none⟩) x13_7.length co109) y251 := (by rw [hw, Ny251.out]; exact HP118.1); clear HP118; have n0_ := Aside0.mk (Kd.R_over' (v := (.slice (some ⟨go109, 0, none⟩) x13_7.length co109)) (by (with_reducible repeat (first | apply Kd.R_alloc | apply Kd.R_drewN | apply Kd.R_drew)); exact HO_5.out) (Kd.R_typed HO_13.out) (by decide) hg); have n1_ := Aside0.mk (Kd.R_over' (v := (.slice (some ⟨go109, 0, none⟩) x13_7.length co109)) (by (with_reducible repeat (first | apply Kd.R_alloc | apply Kd.R_drewN | apply Kd.R_drew)); exact HO_8.out) (Kd.R_typed HO_13.out) (by decide) hg); have n2_ := Aside0.mk (Kd.S_after (v := (.slice (some ⟨go109, 0, none⟩) x13_7.length co109)) (v1 := (.slice (some ⟨go109, 0, none⟩) x13_7.length co109)) (ok := (fun k_ => some k_ ≠ (.slice (some ⟨go65, 0, none⟩) x16_6.length co65 : Value).ownBlock)) (by (with_reducible repeat (first | apply Kd.S_alloc | apply Kd.S_drewN | apply Kd.S_drew)); exact Kd.S_mono HO_12.out (fun _ hk => ⟨hk.2, hk.1⟩)) hg (.inl rfl)); have n3_ := Aside0.mk (hp_); have n4_ := Aside0.mk (Kd.R_over' (v := (.slice (some ⟨go109, 0, none⟩) x13_7.length co109)) (by (with_reducible repeat (first | apply Kd.R_alloc | apply Kd.R_drewN | apply Kd.R_drew)); exact HO_15.out) (Kd.R_typed HO_13.out) (by decide) hg); have n5_ := Aside0.mk (Kd.R_after (v := (.slice (some ⟨go109, 0, none⟩) x13_7.length co109)) (v1 := (.slice (some ⟨go109, 0, none⟩) x13_7.length co109)) (ok := (fun _ => True)) (by (with_reducible repeat (first | apply Kd.R_alloc | apply Kd.R_drewN | apply Kd.R_drew)); exact Kd.R_mono HO_16.out (fun _ hk => ⟨trivial, hk⟩)) hg (.inl rfl)); have n6_ := Aside0.mk ((by rw [hw]; exact below_set (HB.out) GB109.out : Below w.heap.size w w119)); clear HO_5; clear HO_8; clear HO_12; clear HO_13; clear HO_15; clear HO_16; clear HB; have HO_5 := n0_; have HO_8 := n1_; have HO_12 := n2_; have HO_13 := n3_; have HO_15 := n4_; have HO_16 := n5_; have HB := n6_; clear n0_ n1_ n2_ n3_ n4_ n5_ n6_; clear hg hw hp_; have p252 : 0 ≤ (x20_7 : Int) := of_decide_eq_true (by first | (with_reducible assumption) | assumption); have q252 : x20_7 < (x15_6.length : Int) := of_decide_eq_true (by first | (with_reducible assumption) | assumption); obtain ⟨ad252, e252, hx252_0⟩ := Kd.at_int (Kd.R_reads' HO_15.out).2.2 x20_7 p252 q252; obtain rfl : ad250 = ad252 := (by injection e252); replace p252 := eq_true p252; replace q252 := eq_true q252; have p253 : 0 ≤ ((rd x15_6 x20_7) : Int) := of_decide_eq_true (by first | (with_reducible assumption) | assumption); have q253 : (rd x15_6 x20_7) < (t201.length : Int) := of_decide_eq_true (by first | (with_reducible assumption) | assumption); obtain ⟨ad253, e253, hx253_0⟩ := Kd.at_int (Kd.R_reads' HO_5.out).2.2 (rd x15_6 x20_7) p253 q253; cases e253; replace p253 := eq_true p253; replace q253 := eq_true q253; have p254 : 0 ≤ (x20_7 : Int) := of_decide_eq_true (by first | (with_reducible assumption) | assumption); have q254 : x20_7 < (x15_6.length : Int) := of_decide_eq_true (by first | (with_reducible assumption) | assumption); obtain ⟨ad254, e254, hx254_0⟩ := Kd.at_int (Kd.R_reads' HO_15.out).2.2 x20_7 p254 q254; obtain rfl : ad250 = ad254 := (by injection e254); replace p254 := eq_true p254; replace q254 := eq_true q254; have p255 : 0 ≤ ((rd x15_6 x20_7) : Int) := of_decide_eq_true (by first | (with_reducible assumption) | assumption); have q255 : (rd x15_6 x20_7) < (t201.length : Int) := of_decide_eq_true (by first | (with_reducible assumption) | assumption); obtain ⟨ad255, e255, hx255_0⟩ := Kd.at_int (Kd.R_reads' HO_5.out).2.2 (rd x15_6 x20_7) p255 q255; obtain rfl : ad253 = ad255 := (by injection e255); replace p255 := eq_true p255; replace q255 := eq_true q255; have p256 : 0 ≤ ((rd t201 (rd x15_6 x20_7)) : Int) := of_decide_eq_true (by first | (with_reducible assumption) | assumption); have q256 : (rd t201 (rd x15_6 x20_7)) < (x16_6.length : Int) := of_decide_eq_true (by first | (with_reducible assumption) | assumption); obtain ⟨ad256, e256, hx256_0⟩ := Kd.at_bool (Kd.R_reads' HO_16.out).2.2 (rd t201 (rd x15_6 x20_7)) p256 q256; (try rw [← Nbq116.out] at hx256_0); obtain rfl : (⟨go65, 0, none⟩ : Addr) = ad256 := (by injection e256); (first | simp only [add_plain] at hx256_0 | simp only [add_at] at hx256_0 | simp only [Addr.add, Nat.zero_add] at hx256_0 | skip); replace p256 := eq_true p256; replace q256 := eq_true q256))
                                     go_roundg k7
                                     case measure => have := HJ6.out; have := HJ15.out; have := HK3.out; have := HJ28.out; have := HJ51.out; have := HK6.out; have := HK7.out; omega
                                     case rel => exact ⟨(y251), (x19_7), (wrap64 (x20_7 + 1)), (by first | rfl | (simp; done) | (simp [*]; done)), (by first | rfl | (simp; done) | (simp [*]; done)), H', ⟨by have := HJ6.out; have := HJ15.out; have := HK3.out; have := HJ28.out; have := HJ51.out; have := HK6.out; have := HK7.out; omega⟩, ⟨by (try simp only [hl16_6]); (with_reducible repeat (first | apply Kd.R_alloc | apply Kd.R_drewN | apply Kd.R_drew)); exact HO_5.out⟩, ⟨by (try simp only [hl16_6]); (with_reducible repeat (first | apply Kd.R_alloc | apply Kd.R_drewN | apply Kd.R_drew)); exact HO_8.out⟩, ⟨by (try simp only [hl16_6]); (with_reducible repeat (first | apply Kd.S_alloc | apply Kd.S_drewN | apply Kd.S_drew)); exact Kd.S_mono HO_12.out (fun _ hk => ⟨hk.2, hk.1⟩)⟩, ⟨by (try simp only [hl16_6]); (with_reducible repeat (first | apply Kd.R_alloc | apply Kd.R_drewN | apply Kd.R_drew)); exact HO_13.out⟩, ⟨by (try simp only [hl16_6]); (with_reducible repeat (first | apply Kd.R_alloc | apply Kd.R_drewN | apply Kd.R_drew)); exact HO_15.out⟩, ⟨by (try simp only [hl16_6]); (with_reducible repeat (first | apply Kd.R_alloc | apply Kd.R_drewN | apply Kd.R_drew)); exact Kd.R_mono HO_16.out (fun _ hk => hk.2)⟩, ⟨by repeat (first | (with_reducible first | exact HB.out | apply below_alloc | apply pw_below_drewN | apply below_drew1) | exact HB.out)⟩⟩
                                    ·replace c117 := Bool.eq_false_iff.mpr c117
                                     subst c117
                                     have H1 : (kimberlitelaw04_PairGallai.l3 k7 a0 t201 t206 t213 y251 x14_3 x15_6 x16_6 (wrap64 (x19_7 + 1)) (wrap64 (x20_7 + 1))) = some r := by rw [if_neg (show ¬ (false = true) by decide)] at H; exact H
                                     clear H
                                     have H := H1
                                     clear H1
                                     have H' := Aside0.mk H
                                     clear H
                                     have p250 : 0 ≤ (x20_7 : Int) := of_decide_eq_true (by first | (with_reducible assumption) | assumption)
                                     have q250 : x20_7 < (x15_6.length : Int) := of_decide_eq_true (by first | (with_reducible assumption) | assumption)
                                     obtain ⟨ad250, e250, hx250_0⟩ := Kd.at_int (Kd.R_reads' HO_15.out).2.2 x20_7 p250 q250
                                     cases e250
                                     replace p250 := eq_true p250
                                     replace q250 := eq_true q250
                                     have p109 : 0 ≤ ((rd x15_6 x20_7) : Int) := of_decide_eq_true (by first | (with_reducible assumption) | assumption)
                                     have q109 : ((rd x15_6 x20_7) : Int) < ((x13_7.length : Int) : Int) := of_decide_eq_true (by first | (with_reducible assumption) | assumption)
                                     obtain ⟨go109, co109, eo109, gb109, gl109, cl109, HG109⟩ := Kd.R_form HO_13.out (by omega)
                                     (first | cases eo109 | (injection eo109 with ea_ en_ ec_; (first | subst ea_ | (injection ea_ with ea_; subst ea_)); subst ec_; clear en_))
                                     have GB109 := Aside0.mk gb109
                                     have GG109 := Aside0.mk HG109
                                     clear gb109 gl109 HG109
                                     obtain ⟨hx109_0, hf109_0⟩ := Kd.R_celln false HO_13.out ((rd x15_6 x20_7) : Int) p109 q109
                                     replace p109 := eq_true p109
                                     replace q109 := eq_true q109
                                     have HP120 := Kd.R_putg HO_13.out ((rd x15_6 x20_7) : Int) true
                                     go_wp2_with (first | ((with_reducible refine gate_store (t := 4) (p := 194) rfl ?_); refine store_event (t := 4) (p := 194) (v := ?vo_w121) (w1 := (wr.setCell ⟨go109, ((rd x15_6 x20_7) : Int).toNat, none⟩ (.bool true))) ?hg ?ho ?hn ?hr ?_; (case ho => rfl); (case hg => rfl); (case hn => rfl); (case hr => first | (go_simp; done) | (go_simp; rfl)); intro w121 hw; have hg : wr.grownBy w121 (some go109) := (by rw [hw]; exact HP120.2); have hp_ : Kd.R Kd.bool 4 w121 w.heap.size (fun k_ => some k_ ≠ (.slice (some ⟨go65, 0, none⟩) x16_6.length co65 : Value).ownBlock) (.slice (some ⟨go109, 0, none⟩) x13_7.length co109) y251 := (by rw [hw, Ny251.out]; exact HP120.1); clear HP120; have n0_ := Aside0.mk (Kd.R_over' (v := (.slice (some ⟨go109, 0, none⟩) x13_7.length co109)) (by (with_reducible repeat (first | apply Kd.R_alloc | apply Kd.R_drewN | apply Kd.R_drew)); exact HO_5.out) (Kd.R_typed HO_13.out) (by decide) hg); have n1_ := Aside0.mk (Kd.R_over' (v := (.slice (some ⟨go109, 0, none⟩) x13_7.length co109)) (by (with_reducible repeat (first | apply Kd.R_alloc | apply Kd.R_drewN | apply Kd.R_drew)); exact HO_8.out) (Kd.R_typed HO_13.out) (by decide) hg); have n2_ := Aside0.mk (Kd.S_after (v := (.slice (some ⟨go109, 0, none⟩) x13_7.length co109)) (v1 := (.slice (some ⟨go109, 0, none⟩) x13_7.length co109)) (ok := (fun k_ => some k_ ≠ (.slice (some ⟨go65, 0, none⟩) x16_6.length co65 : Value).ownBlock)) (by (with_reducible repeat (first | apply Kd.S_alloc | apply Kd.S_drewN | apply Kd.S_drew)); exact Kd.S_mono HO_12.out (fun _ hk => ⟨hk.2, hk.1⟩)) hg (.inl rfl)); have n3_ := Aside0.mk (hp_); have n4_ := Aside0.mk (Kd.R_over' (v := (.slice (some ⟨go109, 0, none⟩) x13_7.length co109)) (by (with_reducible repeat (first | apply Kd.R_alloc | apply Kd.R_drewN | apply Kd.R_drew)); exact HO_15.out) (Kd.R_typed HO_13.out) (by decide) hg); have n5_ := Aside0.mk (Kd.R_after (v := (.slice (some ⟨go109, 0, none⟩) x13_7.length co109)) (v1 := (.slice (some ⟨go109, 0, none⟩) x13_7.length co109)) (ok := (fun _ => True)) (by (with_reducible repeat (first | apply Kd.R_alloc | apply Kd.R_drewN | apply Kd.R_drew)); exact Kd.R_mono HO_16.out (fun _ hk => ⟨trivial, hk⟩)) hg (.inl rfl)); have n6_ := Aside0.mk ((by rw [hw]; exact below_set (HB.out) GB109.out : Below w.heap.size w w121)); clear HO_5; clear HO_8; clear HO_12; clear HO_13; clear HO_15; clear HO_16; clear HB; have HO_5 := n0_; have HO_8 := n1_; have HO_12 := n2_; have HO_13 := n3_; have HO_15 := n4_; have HO_16 := n5_; have HB := n6_; clear n0_ n1_ n2_ n3_ n4_ n5_ n6_; clear hg hw hp_; have p252 : 0 ≤ (x20_7 : Int) := of_decide_eq_true (by first | (with_reducible assumption) | assumption); have q252 : x20_7 < (x15_6.length : Int) := of_decide_eq_true (by first | (with_reducible assumption) | assumption); obtain ⟨ad252, e252, hx252_0⟩ := Kd.at_int (Kd.R_reads' HO_15.out).2.2 x20_7 p252 q252; obtain rfl : ad250 = ad252 := (by injection e252); replace p252 := eq_true p252; replace q252 := eq_true q252; have p253 : 0 ≤ ((rd x15_6 x20_7) : Int) := of_decide_eq_true (by first | (with_reducible assumption) | assumption); have q253 : (rd x15_6 x20_7) < (t201.length : Int) := of_decide_eq_true (by first | (with_reducible assumption) | assumption); obtain ⟨ad253, e253, hx253_0⟩ := Kd.at_int (Kd.R_reads' HO_5.out).2.2 (rd x15_6 x20_7) p253 q253; cases e253; replace p253 := eq_true p253; replace q253 := eq_true q253; have p254 : 0 ≤ (x20_7 : Int) := of_decide_eq_true (by first | (with_reducible assumption) | assumption); have q254 : x20_7 < (x15_6.length : Int) := of_decide_eq_true (by first | (with_reducible assumption) | assumption); obtain ⟨ad254, e254, hx254_0⟩ := Kd.at_int (Kd.R_reads' HO_15.out).2.2 x20_7 p254 q254; obtain rfl : ad250 = ad254 := (by injection e254); replace p254 := eq_true p254; replace q254 := eq_true q254; have p255 : 0 ≤ ((rd x15_6 x20_7) : Int) := of_decide_eq_true (by first | (with_reducible assumption) | assumption); have q255 : (rd x15_6 x20_7) < (t201.length : Int) := of_decide_eq_true (by first | (with_reducible assumption) | assumption); obtain ⟨ad255, e255, hx255_0⟩ := Kd.at_int (Kd.R_reads' HO_5.out).2.2 (rd x15_6 x20_7) p255 q255; obtain rfl : ad253 = ad255 := (by injection e255); replace p255 := eq_true p255; replace q255 := eq_true q255; have p256 : 0 ≤ ((rd t201 (rd x15_6 x20_7)) : Int) := of_decide_eq_true (by first | (with_reducible assumption) | assumption); have q256 : (rd t201 (rd x15_6 x20_7)) < (x16_6.length : Int) := of_decide_eq_true (by first | (with_reducible assumption) | assumption); obtain ⟨ad256, e256, hx256_0⟩ := Kd.at_bool (Kd.R_reads' HO_16.out).2.2 (rd t201 (rd x15_6 x20_7)) p256 q256; (try rw [← Nbq116.out] at hx256_0); obtain rfl : (⟨go65, 0, none⟩ : Addr) = ad256 := (by injection e256); (first | simp only [add_plain] at hx256_0 | simp only [add_at] at hx256_0 | simp only [Addr.add, Nat.zero_add] at hx256_0 | skip); replace p256 := eq_true p256; replace q256 := eq_true q256))
                                     go_roundg k7
                                     case measure => have := HJ6.out; have := HJ15.out; have := HK3.out; have := HJ28.out; have := HJ51.out; have := HK6.out; have := HK7.out; omega
                                     case rel => exact ⟨(y251), (wrap64 (x19_7 + 1)), (wrap64 (x20_7 + 1)), (by first | rfl | (simp; done) | (simp [*]; done)), (by first | rfl | (simp; done) | (simp [*]; done)), H', ⟨by have := HJ6.out; have := HJ15.out; have := HK3.out; have := HJ28.out; have := HJ51.out; have := HK6.out; have := HK7.out; omega⟩, ⟨by (try simp only [hl16_6]); (with_reducible repeat (first | apply Kd.R_alloc | apply Kd.R_drewN | apply Kd.R_drew)); exact HO_5.out⟩, ⟨by (try simp only [hl16_6]); (with_reducible repeat (first | apply Kd.R_alloc | apply Kd.R_drewN | apply Kd.R_drew)); exact HO_8.out⟩, ⟨by (try simp only [hl16_6]); (with_reducible repeat (first | apply Kd.S_alloc | apply Kd.S_drewN | apply Kd.S_drew)); exact Kd.S_mono HO_12.out (fun _ hk => ⟨hk.2, hk.1⟩)⟩, ⟨by (try simp only [hl16_6]); (with_reducible repeat (first | apply Kd.R_alloc | apply Kd.R_drewN | apply Kd.R_drew)); exact HO_13.out⟩, ⟨by (try simp only [hl16_6]); (with_reducible repeat (first | apply Kd.R_alloc | apply Kd.R_drewN | apply Kd.R_drew)); exact HO_15.out⟩, ⟨by (try simp only [hl16_6]); (with_reducible repeat (first | apply Kd.R_alloc | apply Kd.R_drewN | apply Kd.R_drew)); exact Kd.R_mono HO_16.out (fun _ hk => hk.2)⟩, ⟨by repeat (first | (with_reducible first | exact HB.out | apply below_alloc | apply pw_below_drewN | apply below_drew1) | exact HB.out)⟩⟩
                                   ·rw [if_neg c115] at H
                                    exact absurd H (by simp)
                                  ·rw [if_neg c114] at H
                                   exact absurd H (by simp)
                                ·rw [if_neg c110] at H
                                 exact absurd H (by simp)
                               ·rw [if_neg c108] at H
                                exact absurd H (by simp)
                              ·rw [if_neg c107] at H
                               exact absurd H (by simp)
                             ·rw [if_neg c106] at H
                              exact absurd H (by simp)
                            ·rw [if_neg c105] at H
                             have c105b0 : decide (x20_7 < (x15_6.length : Int)) = false := decide_eq_false c105
                             clear c105
                             by_cases c122 : x19_7 = 1
                             ·rw [if_pos c122] at H
                              have c122b0 : (x19_7 == 1) = true := beq_iff_eq.mpr c122
                              have c122b1 : (x19_7 != 1) = false := bne_eq_false_iff_eq.mpr c122
                              clear c122
                              have H' := Aside0.mk H
                              clear H
                              go_wp2
                              (try simp only [← hl16_6])
                              go_roundg k7
                              case measure => have := HJ6.out; have := HJ15.out; have := HK3.out; have := HJ28.out; have := HJ51.out; have := HK6.out; have := HK7.out; omega
                              case rel => exact ⟨(x13_7), (wrap64 (x14_3 + 1)), (by first | rfl | (simp; done) | (simp [*]; done)), H', ⟨by have := HJ6.out; have := HJ15.out; have := HK3.out; have := HJ28.out; have := HJ51.out; have := HK6.out; have := HK7.out; omega⟩, ⟨by (try simp only [hl16_6]); (with_reducible repeat (first | apply Kd.R_alloc | apply Kd.R_drewN | apply Kd.R_drew)); exact Kd.R_mono HO_5.out (fun _ hk => hk.1)⟩, ⟨by (try simp only [hl16_6]); (with_reducible repeat (first | apply Kd.R_alloc | apply Kd.R_drewN | apply Kd.R_drew)); exact Kd.R_mono HO_8.out (fun _ hk => hk.1)⟩, ⟨by (try simp only [hl16_6]); (with_reducible repeat (first | apply Kd.S_alloc | apply Kd.S_drewN | apply Kd.S_drew)); exact Kd.S_mono HO_12.out (fun _ hk => hk.1)⟩, ⟨by (try simp only [hl16_6]); (with_reducible repeat (first | apply Kd.R_alloc | apply Kd.R_drewN | apply Kd.R_drew)); exact Kd.R_mono HO_13.out (fun _ hk => trivial)⟩, ⟨by repeat (first | (with_reducible first | exact HB.out | apply below_alloc | apply pw_below_drewN | apply below_drew1) | exact HB.out)⟩⟩
                             ·rw [if_neg c122] at H
                              have c122b0 : (x19_7 == 1) = false := beq_eq_false_iff_ne.mpr c122
                              have c122b1 : (x19_7 != 1) = true := bne_iff_ne.mpr c122
                              obtain rfl := Option.some.inj H
                              go_wp2
                              go_ret
                              exact ⟨by first | rfl | (simp [errW_none, errW_some] <;> rfl) | (simp [*, errW_none, errW_some] <;> rfl), by repeat (first | (with_reducible first | exact HB.out | apply below_alloc | apply pw_below_drewN | apply below_drew1) | exact HB.out)⟩
                      ·rw [if_neg c64] at H
                       exact absurd H (by simp)
                     ·rw [if_neg c63] at H
                      exact absurd H (by simp)
                    ·rw [if_neg c62] at H
                     exact absurd H (by simp)
                   ·rw [if_neg c61] at H
                    exact absurd H (by simp)
            ·rw [if_neg c28] at H
             have c28b0 : decide (x14_3 < a0) = false := decide_eq_false c28
             clear c28
             replace H := Option.bind_eq_some_iff.mp H
             obtain ⟨t219, A1230, H⟩ := H
             replace H : (some t219) = some r := H
             have A123 := Aside0.mk A1230
             clear A1230
             obtain rfl := Option.some.inj H
             go_wp2_with (first | ((with_reducible refine gate_callee (f := 14) rfl ?_); refine goesL_ (some 221) rfl rfl Try.func14 (by kernel_rfl) rfl #[] rfl (by (try simp only [List.map_toArray, List.map_cons, List.map_nil]); first | done | rfl | (simp only [List.length_drop, List.length_take]; rfl)) ?_; (with_reducible refine (kimberlitelaw04_alive.calls k3  t219 _ A123.out).mono ?_); rintro e w124 ⟨rfl, hb⟩; refine ⟨_, rfl, ?_⟩; have n0_ := Aside0.mk (Kd.R_below (by (with_reducible repeat (first | apply Kd.R_alloc | apply Kd.R_drewN | apply Kd.R_drew)); exact HO_5.out) hb); have n1_ := Aside0.mk (Kd.R_below (by (with_reducible repeat (first | apply Kd.R_alloc | apply Kd.R_drewN | apply Kd.R_drew)); exact HO_8.out) hb); have n2_ := Aside0.mk (Kd.S_below (by (with_reducible repeat (first | apply Kd.S_alloc | apply Kd.S_drewN | apply Kd.S_drew)); exact HO_12.out) hb); have n3_ := Aside0.mk (Kd.R_below (by (with_reducible repeat (first | apply Kd.R_alloc | apply Kd.R_drewN | apply Kd.R_drew)); exact HO_13.out) hb); have n4_ := Aside0.mk (below_step (by repeat (first | (with_reducible first | exact HB.out | apply below_alloc | apply pw_below_drewN | apply below_drew1) | exact HB.out)) hb); clear HO_5; clear HO_8; clear HO_12; clear HO_13; clear HB; have HO_5 := n0_; have HO_8 := n1_; have HO_12 := n2_; have HO_13 := n3_; have HB := n4_; clear n0_ n1_ n2_ n3_ n4_; (try clear hb); (try clear hb2); (try clear hk); (try clear hi)))
             go_ret
             exact ⟨by first | rfl | (simp [errW_none, errW_some] <;> rfl) | (simp [*, errW_none, errW_some] <;> rfl), by repeat (first | (with_reducible first | exact HB.out | apply below_alloc | apply pw_below_drewN | apply below_drew1) | exact HB.out)⟩
         ·rw [if_neg c24] at H
          exact absurd H (by simp)
        ·rw [if_neg c23] at H
         exact absurd H (by simp)
 ·replace c4 := Bool.eq_false_iff.mpr c4
  subst c4
  have H1 : ((kimberlitelaw04_alive.f k).bind fun t200 => (some t200)) = some r := by rw [if_neg (show ¬ (false = true) by decide)] at H; exact H
  clear H
  have H := H1
  clear H1
  replace H := Option.bind_eq_some_iff.mp H
  obtain ⟨t200, A1250, H⟩ := H
  replace H : (some t200) = some r := H
  have A125 := Aside0.mk A1250
  clear A1250
  obtain rfl := Option.some.inj H
  go_enter Try.func4, Try.ntmps4
  go_wp2_with (first | ((with_reducible refine gate_callee (f := 13) rfl ?_); refine goesL_ (some 22) rfl rfl Try.func13 (by kernel_rfl) rfl #[.slice A1 l1.length c1, .slice none 0 0] rfl (by (try simp only [List.map_toArray, List.map_cons, List.map_nil]); first | done | rfl | (simp only [List.length_drop, List.length_take]; rfl)) ?_; (refine (kimberlitelaw04_few.calls _ _ l1 _ _ ([] : List Int) false _ ?side1 ?side2 ?side3 ?side4 A3.out).mono ?_); (case side1 => repeat (first | exact HR1.out | (with_reducible refine Kd.C_alloc ?_ _) | (with_reducible refine Kd.C_drewN ?_ _) | (with_reducible refine Kd.C_drew ?_))); (case side2 => exact HC1.out); (case side3 => exact Kd.C_nil _ _); (case side4 => exact Nat.le_refl _); rintro e w' ⟨rfl, ⟨nd, rfl⟩⟩; refine ⟨_, rfl, ?_⟩) | ((with_reducible refine gate_callee (f := 14) rfl ?_); refine goesL_ (some 24) rfl rfl Try.func14 (by kernel_rfl) rfl #[] rfl (by (try simp only [List.map_toArray, List.map_cons, List.map_nil]); first | done | rfl | (simp only [List.length_drop, List.length_take]; rfl)) ?_; (with_reducible refine (kimberlitelaw04_alive.calls k  t200 _ A125.out).mono ?_); rintro e w126 ⟨rfl, hb⟩; refine ⟨_, rfl, ?_⟩; have n0_ := Aside0.mk (below_step (by repeat (first | (with_reducible first | exact HB.out | apply below_alloc | apply pw_below_drewN | apply below_drew1) | exact HB.out)) hb); clear HB; have HB := n0_; clear n0_; (try clear hb); (try clear hb2); (try clear hk); (try clear hi)))
  go_ret
  exact ⟨by first | rfl | (simp [errW_none, errW_some] <;> rfl) | (simp [*, errW_none, errW_some] <;> rfl), by repeat (first | (with_reducible first | exact HB.out | apply below_alloc | apply pw_below_drewN | apply below_drew1) | exact HB.out)⟩

end Go.Proofs.Ythhgdndjnflklaa.PP
