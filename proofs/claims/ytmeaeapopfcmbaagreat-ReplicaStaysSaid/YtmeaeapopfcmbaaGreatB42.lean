/- same, Covers. No conditions. -/
import Derived.Test.YtmeaeapopfcmbaaGreatB41
import Derived.ChangeKeysEq
namespace Go.Proofs.YtmeaeapopfcmbaaGreat
open Go.RowKit Go.Proofs.YtmeaeapopfcmbaaGreatW.PrintWords Go.Proofs.YtmeaeapopfcmbaaGreatW.PrintLast Go.Proofs.YtmeaeapopfcmbaaGreatW.PrintMore PP
set_option linter.unusedVariables false
set_option linter.unusedSimpArgs false
set_option maxHeartbeats 4000000
set_option maxRecDepth 100000
theorem eqi_nil {P : Program} {d : Nat} {e : TypeId} {c : Nat} {xs ys : Array Value} {w : World} : (Op.eqItems d e c xs ys []).run P w = .ok true w := by simp [Op.eqItems]
theorem eqi_cons {P : Program} {d : Nat} {e : TypeId} {c : Nat} {xs ys : Array Value} {w : World} {j : Nat} {js : List Nat} {a b : Value} {r s : Bool} (ha : (part e xs (j * c)).run P w = .ok a w) (hb : (part e ys (j * c)).run P w = .ok b w) (he : (Op.equalIn d e a b).run P w = .ok r w) (hr : (Op.eqItems d e c xs ys js).run P w = .ok s w) : (Op.eqItems d e c xs ys (j :: js)).run P w = .ok (r && s) w := by
  rw [Op.eqItems]
  simp only [Sem.run_bind, ha, hb, he, Result.andThen_ok]
  cases r
  · simp
  · simpa using hr
theorem eqA64 (d : Nat) (w : World) (x0 x1 x2 x3 x4 x5 x6 x7 y0 y1 y2 y3 y4 y5 y6 y7 : Int) :
    (Op.equalIn (d + 2) 64 (.agg #[.int .i64 x0, .int .i64 x1, .int .i64 x2, .int .i64 x3, .int .i64 x4, .int .i64 x5, .int .i64 x6, .int .i64 x7]) (.agg #[.int .i64 y0, .int .i64 y1, .int .i64 y2, .int .i64 y3, .int .i64 y4, .int .i64 y5, .int .i64 y6, .int .i64 y7])).run Tryz.prog w = .ok (x0 == y0 && (x1 == y1 && (x2 == y2 && (x3 == y3 && (x4 == y4 && (x5 == y5 && (x6 == y6 && (x7 == y7)))))))) w := by
  obtain ⟨i, hi⟩ : ∃ i, Tryz.prog.info? 3 = some i := Option.isSome_iff_exists.1 (by kernel_rfl)
  rw [run_equalIn_array (P := Tryz.prog) w (d + 1) _ _ Tryz.underlying64 hi, show Tryz.prog.cellsOf 3 = 1 by kernel_rfl]
  show (Op.eqItems (d + 1) 3 1 _ _ [0, 1, 2, 3, 4, 5, 6, 7]).run Tryz.prog w = _
  have h1 := Tryz.isAgg3
  rw [show (x7 == y7) = ((x7 == y7) && true) from (Bool.and_true _).symm]
  refine eqi_cons (by go_simp; rfl) (by go_simp; rfl) (by go_simp) ?_
  refine eqi_cons (by go_simp; rfl) (by go_simp; rfl) (by go_simp) ?_
  refine eqi_cons (by go_simp; rfl) (by go_simp; rfl) (by go_simp) ?_
  refine eqi_cons (by go_simp; rfl) (by go_simp; rfl) (by go_simp) ?_
  refine eqi_cons (by go_simp; rfl) (by go_simp; rfl) (by go_simp) ?_
  refine eqi_cons (by go_simp; rfl) (by go_simp; rfl) (by go_simp) ?_
  refine eqi_cons (by go_simp; rfl) (by go_simp; rfl) (by go_simp) ?_
  refine eqi_cons (by go_simp; rfl) (by go_simp; rfl) (by go_simp) eqi_nil
/-- Do two know the same? -/
noncomputable def sameB (s : List Int) (T : List (S97 × S99)) (N : List (Int × S102)) (Y : List (S131 × Int)) (s' : List Int) (T' : List (S97 × S99)) (N' : List (Int × S102)) (Y' : List (S131 × Int)) : Bool := decide (s = s') && (eqM T T' && (eqM N N' && eqM Y Y'))
theorem eight_eq (a0 a1 a2 a3 a4 a5 a6 a7 b0 b1 b2 b3 b4 b5 b6 b7 : Int) : (a0 == b0 && (a1 == b1 && (a2 == b2 && (a3 == b3 && (a4 == b4 && (a5 == b5 && (a6 == b6 && (a7 == b7)))))))) = decide ([a0, a1, a2, a3, a4, a5, a6, a7] = [b0, b1, b2, b3, b4, b5, b6, b7]) := by
  rw [Bool.eq_iff_iff]
  simp
theorem same_run (w : World) (ka mta mna mwa kb mtb mnb mwb : Nat) (s : List Int) (T : List (S97 × S99)) (N : List (Int × S102)) (Y : List (S131 × Int)) (s' : List Int) (T' : List (S97 × S99)) (N' : List (Int × S102)) (Y' : List (S131 × Int))
    (ha : KnowAt w ka mta mna mwa s T N Y) (hb : KnowAt w kb mtb mnb mwb s' T' N' Y') :
    Calls Tryz.prog 78 #[.pointer (some ⟨ka, 0, none⟩), .pointer (some ⟨kb, 0, none⟩)] w fun e w' => e = .returned (.bool (sameB s T N Y s' T' N' Y')) ∧ Below w.heap.size w w' := by
  obtain ⟨a0, a1, a2, a3, a4, a5, a6, a7, rfl⟩ := ha.s8
  obtain ⟨b0, b1, b2, b3, b4, b5, b6, b7, rfl⟩ := hb.s8
  have HA := Hd.mk (fun W (h : Below w.heap.size w W) => ha.below h)
  have HB := Hd.mk (fun W (h : Below w.heap.size w W) => hb.below h)
  have C1 := Hd.mk (fun W (h : Below w.heap.size w W) => (eqT_run W mta mtb T T' (ha.below h).t (hb.below h).t).mono fun e w' hh => (show e = .returned (.bool (eqM T T')) ∧ Below w.heap.size w w' from ⟨hh.1, h.trans (hh.2.mono h.size)⟩))
  have C2 := Hd.mk (fun W (h : Below w.heap.size w W) => (eqN_run W mna mnb N N' (ha.below h).n (hb.below h).n).mono fun e w' hh => (show e = .returned (.bool (eqM N N')) ∧ Below w.heap.size w w' from ⟨hh.1, h.trans (hh.2.mono h.size)⟩))
  have C3 := Hd.mk (fun W (h : Below w.heap.size w W) => (eqW_run W mwa mwb Y Y' (ha.below h).y (hb.below h).y).mono fun e w' hh => (show e = .returned (.bool (eqM Y Y')) ∧ Below w.heap.size w w' from ⟨hh.1, h.trans (hh.2.mono h.size)⟩))
  have EE := Hd.mk (show sameB [a0, a1, a2, a3, a4, a5, a6, a7] T N Y [b0, b1, b2, b3, b4, b5, b6, b7] T' N' Y' = ((a0 == b0 && (a1 == b1 && (a2 == b2 && (a3 == b3 && (a4 == b4 && (a5 == b5 && (a6 == b6 && (a7 == b7)))))))) && (eqM T T' && (eqM N N' && eqM Y Y'))) by rw [eight_eq]; rfl)
  have EB := Hd.mk (fun d W => eqA64 d W a0 a1 a2 a3 a4 a5 a6 a7 b0 b1 b2 b3 b4 b5 b6 b7)
  clear ha hb
  generalize (a0 == b0 && (a1 == b1 && (a2 == b2 && (a3 == b3 && (a4 == b4 && (a5 == b5 && (a6 == b6 && (a7 == b7)))))))) = g0 at *
  generalize eqM T T' = g1 at *
  generalize eqM N N' = g2 at *
  generalize eqM Y Y' = g3 at *
  go_enter Tryz.func78, Tryz.ntmps78
  go_wp2_with fail
  cases g0 with
  | false =>
    refine wp_region_class (C := fun W => Below w.heap.size w W) (by kernel_rfl) (by kernel_rfl) (Below.drew (Below.refl _ _)) ?_
    repeat (first
      | go_big_quiet_skip
      | (go_big_quiet_want; go_big_quiet_op; first
        | go_big_quiet_on
        | (refine ⟨_, fun _ _ => by with_reducible rfl, ?_⟩; go_big_quiet_on)
        | (apply Exists.intro
           refine ⟨fun W hW => ?_, ?_⟩
           · first
             | (go_at_call 128; exact C1.out W hW)
             | (go_at_call 129; exact C2.out W hW)
             | (go_at_call 130; exact C3.out W hW)
             | (have z0 : W.cell? ⟨ka, 0, none⟩ = some (.int .i64 a0) := (HA.out W hW).seen 0 (by decide); have z1 : W.cell? ⟨ka, 1, none⟩ = some (.int .i64 a1) := (HA.out W hW).seen 1 (by decide); have z2 : W.cell? ⟨ka, 2, none⟩ = some (.int .i64 a2) := (HA.out W hW).seen 2 (by decide); have z3 : W.cell? ⟨ka, 3, none⟩ = some (.int .i64 a3) := (HA.out W hW).seen 3 (by decide); have z4 : W.cell? ⟨ka, 4, none⟩ = some (.int .i64 a4) := (HA.out W hW).seen 4 (by decide); have z5 : W.cell? ⟨ka, 5, none⟩ = some (.int .i64 a5) := (HA.out W hW).seen 5 (by decide); have z6 : W.cell? ⟨ka, 6, none⟩ = some (.int .i64 a6) := (HA.out W hW).seen 6 (by decide); have z7 : W.cell? ⟨ka, 7, none⟩ = some (.int .i64 a7) := (HA.out W hW).seen 7 (by decide); have y0 : W.cell? ⟨kb, 0, none⟩ = some (.int .i64 b0) := (HB.out W hW).seen 0 (by decide); have y1 : W.cell? ⟨kb, 1, none⟩ = some (.int .i64 b1) := (HB.out W hW).seen 1 (by decide); have y2 : W.cell? ⟨kb, 2, none⟩ = some (.int .i64 b2) := (HB.out W hW).seen 2 (by decide); have y3 : W.cell? ⟨kb, 3, none⟩ = some (.int .i64 b3) := (HB.out W hW).seen 3 (by decide); have y4 : W.cell? ⟨kb, 4, none⟩ = some (.int .i64 b4) := (HB.out W hW).seen 4 (by decide); have y5 : W.cell? ⟨kb, 5, none⟩ = some (.int .i64 b5) := (HB.out W hW).seen 5 (by decide); have y6 : W.cell? ⟨kb, 6, none⟩ = some (.int .i64 b6) := (HB.out W hW).seen 6 (by decide); have y7 : W.cell? ⟨kb, 7, none⟩ = some (.int .i64 b7) := (HB.out W hW).seen 7 (by decide); have x1 := (HA.out W hW).ct; have x2 := (HA.out W hW).cn; have x3 := (HA.out W hW).cw; have x4 := (HB.out W hW).ct; have x5 := (HB.out W hW).cn; have x6 := (HB.out W hW).cw; have eb := EB.out; go_simp; first | done | rfl)
           go_big_quiet_on)))
    refine wpQuiet_nil ?_
    intro W hW
    have HW := Hd.mk hW
    clear hW
    go_wp2_with fail
    go_ret
    exact ⟨by rw [EE.out]; rfl, HW.out⟩
  | true =>
    cases g1 with
    | false =>
      refine wp_region_class (C := fun W => Below w.heap.size w W) (by kernel_rfl) (by kernel_rfl) (Below.drew (Below.refl _ _)) ?_
      repeat (first
        | go_big_quiet_skip
        | (go_big_quiet_want; go_big_quiet_op; first
          | go_big_quiet_on
          | (refine ⟨_, fun _ _ => by with_reducible rfl, ?_⟩; go_big_quiet_on)
          | (apply Exists.intro
             refine ⟨fun W hW => ?_, ?_⟩
             · first
               | (go_at_call 128; exact C1.out W hW)
               | (go_at_call 129; exact C2.out W hW)
               | (go_at_call 130; exact C3.out W hW)
               | (have z0 : W.cell? ⟨ka, 0, none⟩ = some (.int .i64 a0) := (HA.out W hW).seen 0 (by decide); have z1 : W.cell? ⟨ka, 1, none⟩ = some (.int .i64 a1) := (HA.out W hW).seen 1 (by decide); have z2 : W.cell? ⟨ka, 2, none⟩ = some (.int .i64 a2) := (HA.out W hW).seen 2 (by decide); have z3 : W.cell? ⟨ka, 3, none⟩ = some (.int .i64 a3) := (HA.out W hW).seen 3 (by decide); have z4 : W.cell? ⟨ka, 4, none⟩ = some (.int .i64 a4) := (HA.out W hW).seen 4 (by decide); have z5 : W.cell? ⟨ka, 5, none⟩ = some (.int .i64 a5) := (HA.out W hW).seen 5 (by decide); have z6 : W.cell? ⟨ka, 6, none⟩ = some (.int .i64 a6) := (HA.out W hW).seen 6 (by decide); have z7 : W.cell? ⟨ka, 7, none⟩ = some (.int .i64 a7) := (HA.out W hW).seen 7 (by decide); have y0 : W.cell? ⟨kb, 0, none⟩ = some (.int .i64 b0) := (HB.out W hW).seen 0 (by decide); have y1 : W.cell? ⟨kb, 1, none⟩ = some (.int .i64 b1) := (HB.out W hW).seen 1 (by decide); have y2 : W.cell? ⟨kb, 2, none⟩ = some (.int .i64 b2) := (HB.out W hW).seen 2 (by decide); have y3 : W.cell? ⟨kb, 3, none⟩ = some (.int .i64 b3) := (HB.out W hW).seen 3 (by decide); have y4 : W.cell? ⟨kb, 4, none⟩ = some (.int .i64 b4) := (HB.out W hW).seen 4 (by decide); have y5 : W.cell? ⟨kb, 5, none⟩ = some (.int .i64 b5) := (HB.out W hW).seen 5 (by decide); have y6 : W.cell? ⟨kb, 6, none⟩ = some (.int .i64 b6) := (HB.out W hW).seen 6 (by decide); have y7 : W.cell? ⟨kb, 7, none⟩ = some (.int .i64 b7) := (HB.out W hW).seen 7 (by decide); have x1 := (HA.out W hW).ct; have x2 := (HA.out W hW).cn; have x3 := (HA.out W hW).cw; have x4 := (HB.out W hW).ct; have x5 := (HB.out W hW).cn; have x6 := (HB.out W hW).cw; have eb := EB.out; go_simp; first | done | rfl)
             go_big_quiet_on)))
      refine wpQuiet_nil ?_
      intro W hW
      have HW := Hd.mk hW
      clear hW
      go_wp2_with fail
      go_ret
      exact ⟨by rw [EE.out]; rfl, HW.out⟩
    | true =>
      cases g2 with
      | false =>
        refine wp_region_class (C := fun W => Below w.heap.size w W) (by kernel_rfl) (by kernel_rfl) (Below.drew (Below.refl _ _)) ?_
        repeat (first
          | go_big_quiet_skip
          | (go_big_quiet_want; go_big_quiet_op; first
            | go_big_quiet_on
            | (refine ⟨_, fun _ _ => by with_reducible rfl, ?_⟩; go_big_quiet_on)
            | (apply Exists.intro
               refine ⟨fun W hW => ?_, ?_⟩
               · first
                 | (go_at_call 128; exact C1.out W hW)
                 | (go_at_call 129; exact C2.out W hW)
                 | (go_at_call 130; exact C3.out W hW)
                 | (have z0 : W.cell? ⟨ka, 0, none⟩ = some (.int .i64 a0) := (HA.out W hW).seen 0 (by decide); have z1 : W.cell? ⟨ka, 1, none⟩ = some (.int .i64 a1) := (HA.out W hW).seen 1 (by decide); have z2 : W.cell? ⟨ka, 2, none⟩ = some (.int .i64 a2) := (HA.out W hW).seen 2 (by decide); have z3 : W.cell? ⟨ka, 3, none⟩ = some (.int .i64 a3) := (HA.out W hW).seen 3 (by decide); have z4 : W.cell? ⟨ka, 4, none⟩ = some (.int .i64 a4) := (HA.out W hW).seen 4 (by decide); have z5 : W.cell? ⟨ka, 5, none⟩ = some (.int .i64 a5) := (HA.out W hW).seen 5 (by decide); have z6 : W.cell? ⟨ka, 6, none⟩ = some (.int .i64 a6) := (HA.out W hW).seen 6 (by decide); have z7 : W.cell? ⟨ka, 7, none⟩ = some (.int .i64 a7) := (HA.out W hW).seen 7 (by decide); have y0 : W.cell? ⟨kb, 0, none⟩ = some (.int .i64 b0) := (HB.out W hW).seen 0 (by decide); have y1 : W.cell? ⟨kb, 1, none⟩ = some (.int .i64 b1) := (HB.out W hW).seen 1 (by decide); have y2 : W.cell? ⟨kb, 2, none⟩ = some (.int .i64 b2) := (HB.out W hW).seen 2 (by decide); have y3 : W.cell? ⟨kb, 3, none⟩ = some (.int .i64 b3) := (HB.out W hW).seen 3 (by decide); have y4 : W.cell? ⟨kb, 4, none⟩ = some (.int .i64 b4) := (HB.out W hW).seen 4 (by decide); have y5 : W.cell? ⟨kb, 5, none⟩ = some (.int .i64 b5) := (HB.out W hW).seen 5 (by decide); have y6 : W.cell? ⟨kb, 6, none⟩ = some (.int .i64 b6) := (HB.out W hW).seen 6 (by decide); have y7 : W.cell? ⟨kb, 7, none⟩ = some (.int .i64 b7) := (HB.out W hW).seen 7 (by decide); have x1 := (HA.out W hW).ct; have x2 := (HA.out W hW).cn; have x3 := (HA.out W hW).cw; have x4 := (HB.out W hW).ct; have x5 := (HB.out W hW).cn; have x6 := (HB.out W hW).cw; have eb := EB.out; go_simp; first | done | rfl)
               go_big_quiet_on)))
        refine wpQuiet_nil ?_
        intro W hW
        have HW := Hd.mk hW
        clear hW
        go_wp2_with fail
        go_ret
        exact ⟨by rw [EE.out]; rfl, HW.out⟩
      | true =>
        refine wp_region_class (C := fun W => Below w.heap.size w W) (by kernel_rfl) (by kernel_rfl) (Below.drew (Below.refl _ _)) ?_
        repeat (first
          | go_big_quiet_skip
          | (go_big_quiet_want; go_big_quiet_op; first
            | go_big_quiet_on
            | (refine ⟨_, fun _ _ => by with_reducible rfl, ?_⟩; go_big_quiet_on)
            | (apply Exists.intro
               refine ⟨fun W hW => ?_, ?_⟩
               · first
                 | (go_at_call 128; exact C1.out W hW)
                 | (go_at_call 129; exact C2.out W hW)
                 | (go_at_call 130; exact C3.out W hW)
                 | (have z0 : W.cell? ⟨ka, 0, none⟩ = some (.int .i64 a0) := (HA.out W hW).seen 0 (by decide); have z1 : W.cell? ⟨ka, 1, none⟩ = some (.int .i64 a1) := (HA.out W hW).seen 1 (by decide); have z2 : W.cell? ⟨ka, 2, none⟩ = some (.int .i64 a2) := (HA.out W hW).seen 2 (by decide); have z3 : W.cell? ⟨ka, 3, none⟩ = some (.int .i64 a3) := (HA.out W hW).seen 3 (by decide); have z4 : W.cell? ⟨ka, 4, none⟩ = some (.int .i64 a4) := (HA.out W hW).seen 4 (by decide); have z5 : W.cell? ⟨ka, 5, none⟩ = some (.int .i64 a5) := (HA.out W hW).seen 5 (by decide); have z6 : W.cell? ⟨ka, 6, none⟩ = some (.int .i64 a6) := (HA.out W hW).seen 6 (by decide); have z7 : W.cell? ⟨ka, 7, none⟩ = some (.int .i64 a7) := (HA.out W hW).seen 7 (by decide); have y0 : W.cell? ⟨kb, 0, none⟩ = some (.int .i64 b0) := (HB.out W hW).seen 0 (by decide); have y1 : W.cell? ⟨kb, 1, none⟩ = some (.int .i64 b1) := (HB.out W hW).seen 1 (by decide); have y2 : W.cell? ⟨kb, 2, none⟩ = some (.int .i64 b2) := (HB.out W hW).seen 2 (by decide); have y3 : W.cell? ⟨kb, 3, none⟩ = some (.int .i64 b3) := (HB.out W hW).seen 3 (by decide); have y4 : W.cell? ⟨kb, 4, none⟩ = some (.int .i64 b4) := (HB.out W hW).seen 4 (by decide); have y5 : W.cell? ⟨kb, 5, none⟩ = some (.int .i64 b5) := (HB.out W hW).seen 5 (by decide); have y6 : W.cell? ⟨kb, 6, none⟩ = some (.int .i64 b6) := (HB.out W hW).seen 6 (by decide); have y7 : W.cell? ⟨kb, 7, none⟩ = some (.int .i64 b7) := (HB.out W hW).seen 7 (by decide); have x1 := (HA.out W hW).ct; have x2 := (HA.out W hW).cn; have x3 := (HA.out W hW).cw; have x4 := (HB.out W hW).ct; have x5 := (HB.out W hW).cn; have x6 := (HB.out W hW).cw; have eb := EB.out; go_simp; first | done | rfl)
               go_big_quiet_on)))
        refine wpQuiet_nil ?_
        intro W hW
        have HW := Hd.mk hW
        clear hW
        go_wp2_with fail
        go_ret
        exact ⟨by rw [EE.out]; rfl, HW.out⟩
end Go.Proofs.YtmeaeapopfcmbaaGreat
