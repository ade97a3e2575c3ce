/- alive: the walk, by hand, in place of the printed text (same names). No conditions. -/
import Derived.Test.YtnbdfmdjedakcaaExt
import Derived.Test.YtnbdfmdjedakcaaQ21
import Derived.Test.YtnbdfmdjedakcaaQ23
import Derived.Test.YtnbdfmdjedakcaaQ55
namespace Go.Proofs.Ytnbdfmdjedakcaa.PP
open Go.RowKit Go.Proofs.YtnbdfmdjedakcaaW.PrintWords Go.Proofs.YtnbdfmdjedakcaaW.PrintLast Go.Proofs.YtnbdfmdjedakcaaW.PrintMore Go.Proofs.Ytnbdfmdjedakcaa
set_option linter.unusedVariables false
set_option linter.unusedSimpArgs false
def q0A : S38 := ⟨(⟨0, 0, 0⟩ : S36), 10, 1⟩
def q1A : S38 := ⟨(⟨1, 0, 0⟩ : S36), 4, 1⟩
/-- What the calls in alive answer. -/
def kimberlitelaw02_alive.f (k : Nat) : Option Bool :=
  if grade_Count.f k [(⟨11, 11, 10⟩ : S36)] = some (2, 0) ∧ grade_Level.f k [q0A, q1A] = some ([7, 7], 3, 0) ∧ kimberlitelaw02_same.f k [7, 7] [7, 7] = some true ∧ kimberlitelaw02_same.f k [0, 1] [0, 1] = some true then some true else none
theorem kimberlitelaw02_alive.mono : ∀ k, LeO (kimberlitelaw02_alive.f k) (kimberlitelaw02_alive.f (k + 1)) := fun k r h => by
  unfold kimberlitelaw02_alive.f at h ⊢
  by_cases hc : grade_Count.f k [(⟨11, 11, 10⟩ : S36)] = some (2, 0) ∧ grade_Level.f k [q0A, q1A] = some ([7, 7], 3, 0) ∧ kimberlitelaw02_same.f k [7, 7] [7, 7] = some true ∧ kimberlitelaw02_same.f k [0, 1] [0, 1] = some true
  · rw [if_pos hc] at h
    rw [if_pos ⟨grade_Count.mono _ _ _ hc.1, grade_Level.mono _ _ _ hc.2.1, kimberlitelaw02_same.mono _ _ _ _ hc.2.2.1, kimberlitelaw02_same.mono _ _ _ _ hc.2.2.2⟩]
    exact h
  · rw [if_neg hc] at h
    exact absurd h (by simp)
theorem blkI2 {w : World} {b : Nat} {x y : Int} (h : w.heap[b]? = some (.cells #[.int .i64 x, .int .i64 y] 3 (0, 0))) : Kd.C (Kd.int .i64) w (some ⟨b, 0, none⟩) 2 [x, y] := by
  refine ⟨rfl, by simp, fun _ => ⟨_, rfl, fun j v hj => ⟨[.int .i64 v], rfl, rfl, fun i u hi => ?_⟩⟩⟩
  match i, hi with
  | 0, hi =>
    obtain rfl := Option.some.inj hi
    match j, hj with
    | 0, hj => obtain rfl := Option.some.inj hj; exact (blk_cell h 0).trans rfl
    | 1, hj => obtain rfl := Option.some.inj hj; exact (blk_cell h 1).trans rfl
theorem blkG1 {w : World} {b : Nat} {x : S36} (h : w.heap[b]? = some (.cells #[.int .i64 x.f0, .int .i64 x.f1, .int .i64 x.f2] 36 (0, 0))) : Kd.C k36 w (some ⟨b, 0, none⟩) 1 [x] := by
  refine ⟨rfl, by simp, fun _ => ⟨_, rfl, fun j v hj => ⟨[.int .i64 v.f0, .int .i64 v.f1, .int .i64 v.f2], rfl, k36_mk _ _, fun i u hi => ?_⟩⟩⟩
  match j, hj with
  | 0, hj =>
    obtain rfl := Option.some.inj hj
    match i, hi with
    | 0, hi => obtain rfl := Option.some.inj hi; exact (blk_cell h 0).trans rfl
    | 1, hi => obtain rfl := Option.some.inj hi; exact (blk_cell h 1).trans rfl
    | 2, hi => obtain rfl := Option.some.inj hi; exact (blk_cell h 2).trans rfl
theorem blkG3 {w : World} {b : Nat} {x y z : S36} (h : w.heap[b]? = some (.cells #[.int .i64 x.f0, .int .i64 x.f1, .int .i64 x.f2, .int .i64 y.f0, .int .i64 y.f1, .int .i64 y.f2, .int .i64 z.f0, .int .i64 z.f1, .int .i64 z.f2] 36 (0, 0))) : Kd.C k36 w (some ⟨b, 0, none⟩) 3 [x, y, z] := by
  refine ⟨rfl, by simp, fun _ => ⟨_, rfl, fun j v hj => ⟨[.int .i64 v.f0, .int .i64 v.f1, .int .i64 v.f2], rfl, k36_mk _ _, fun i u hi => ?_⟩⟩⟩
  match j, hj with
  | 0, hj =>
    obtain rfl := Option.some.inj hj
    match i, hi with
    | 0, hi => obtain rfl := Option.some.inj hi; exact (blk_cell h 0).trans rfl
    | 1, hi => obtain rfl := Option.some.inj hi; exact (blk_cell h 1).trans rfl
    | 2, hi => obtain rfl := Option.some.inj hi; exact (blk_cell h 2).trans rfl
  | 1, hj =>
    obtain rfl := Option.some.inj hj
    match i, hi with
    | 0, hi => obtain rfl := Option.some.inj hi; exact (blk_cell h 3).trans rfl
    | 1, hi => obtain rfl := Option.some.inj hi; exact (blk_cell h 4).trans rfl
    | 2, hi => obtain rfl := Option.some.inj hi; exact (blk_cell h 5).trans rfl
  | 2, hj =>
    obtain rfl := Option.some.inj hj
    match i, hi with
    | 0, hi => obtain rfl := Option.some.inj hi; exact (blk_cell h 6).trans rfl
    | 1, hi => obtain rfl := Option.some.inj hi; exact (blk_cell h 7).trans rfl
    | 2, hi => obtain rfl := Option.some.inj hi; exact (blk_cell h 8).trans rfl
theorem blkQ2 {w : World} {b : Nat} {x y : S38} (h : w.heap[b]? = some (.cells #[.int .i64 x.f0.f0, .int .i64 x.f0.f1, .int .i64 x.f0.f2, .int .i64 x.f1, .int .i64 x.f2, .int .i64 y.f0.f0, .int .i64 y.f0.f1, .int .i64 y.f0.f2, .int .i64 y.f1, .int .i64 y.f2] 38 (0, 0))) : Kd.C k38 w (some ⟨b, 0, none⟩) 2 [x, y] := by
  refine ⟨rfl, by simp, fun _ => ⟨_, rfl, fun j v hj => ⟨[.int .i64 v.f0.f0, .int .i64 v.f0.f1, .int .i64 v.f0.f2, .int .i64 v.f1, .int .i64 v.f2], rfl, k38_mk _ _, fun i u hi => ?_⟩⟩⟩
  match j, hj with
  | 0, hj =>
    obtain rfl := Option.some.inj hj
    match i, hi with
    | 0, hi => obtain rfl := Option.some.inj hi; exact (blk_cell h 0).trans rfl
    | 1, hi => obtain rfl := Option.some.inj hi; exact (blk_cell h 1).trans rfl
    | 2, hi => obtain rfl := Option.some.inj hi; exact (blk_cell h 2).trans rfl
    | 3, hi => obtain rfl := Option.some.inj hi; exact (blk_cell h 3).trans rfl
    | 4, hi => obtain rfl := Option.some.inj hi; exact (blk_cell h 4).trans rfl
  | 1, hj =>
    obtain rfl := Option.some.inj hj
    match i, hi with
    | 0, hi => obtain rfl := Option.some.inj hi; exact (blk_cell h 5).trans rfl
    | 1, hi => obtain rfl := Option.some.inj hi; exact (blk_cell h 6).trans rfl
    | 2, hi => obtain rfl := Option.some.inj hi; exact (blk_cell h 7).trans rfl
    | 3, hi => obtain rfl := Option.some.inj hi; exact (blk_cell h 8).trans rfl
    | 4, hi => obtain rfl := Option.some.inj hi; exact (blk_cell h 9).trans rfl
set_option maxRecDepth 100000 in
set_option maxHeartbeats 4000000 in
theorem kimberlitelaw02_alive.calls (k : Nat) (r : Bool) (w : World) (h : kimberlitelaw02_alive.f k = some r) :
    Calls Try.prog 18 #[] w fun e w' => e = .returned (.bool r) ∧ Below w.heap.size w w' := by
  unfold kimberlitelaw02_alive.f at h
  by_cases hc : grade_Count.f k [(⟨11, 11, 10⟩ : S36)] = some (2, 0) ∧ grade_Level.f k [q0A, q1A] = some ([7, 7], 3, 0) ∧ kimberlitelaw02_same.f k [7, 7] [7, 7] = some true ∧ kimberlitelaw02_same.f k [0, 1] [0, 1] = some true
  · rw [if_pos hc] at h
    obtain rfl := Option.some.inj h
    obtain ⟨h1, h2, h3, h4⟩ := hc
    have h5 : grade_Width.f [(⟨0, 0, 1⟩ : S36), (⟨0, 1, 0⟩ : S36), (⟨0, 1, 1⟩ : S36)] = some (2, [0, 1], 0) := by kernel_rfl
    have H1 := Hd.mk (fun W b hb => grade_Count.calls k (some ⟨b, 0, none⟩) 1 [(⟨11, 11, 10⟩ : S36)] 2 0 W (blkG1 hb) (Nat.le_refl _) h1)
    have H2 := Hd.mk (fun W b hb => grade_Level.calls k (some ⟨b, 0, none⟩) 2 [q0A, q1A] [7, 7] 3 0 W (blkQ2 hb) (Nat.le_refl _) h2)
    have H5 := Hd.mk (fun W b hb => grade_Width.calls (some ⟨b, 0, none⟩) 3 [(⟨0, 0, 1⟩ : S36), (⟨0, 1, 0⟩ : S36), (⟨0, 1, 1⟩ : S36)] 2 [0, 1] 0 W (blkG3 hb) (Nat.le_refl _) h5)
    have H3 := Hd.mk h3
    have H4 := Hd.mk h4
    clear h h1 h2 h3 h4 h5
    go_enter Try.func18, Try.ntmps18
    go_wp2_with fail
    refine (H1.out _ w.heap.size (blk_new w _)).mono ?_
    rintro e w1 ⟨rfl, hb⟩
    have B1 := Hd.mk (((Below.refl _ w).alloc (Nat.le_refl _) (.cells #[.int .i64 11, .int .i64 11, .int .i64 10] 36)).trans (hb.mono (by simp)))
    clear hb
    go_wp2_with fail
    refine (H2.out _ w1.heap.size (blk_new w1 _)).mono ?_
    rintro e w2 ⟨v, rfl, hR, hb⟩
    obtain ⟨A2, c2, rfl, hl2, hC2⟩ := Kd.R_reads hR
    have B2 := Hd.mk (B1.out.trans ((((Below.refl _ w1).alloc (Nat.le_refl _) _).trans (hb.mono (by simp))).mono B1.out.size))
    have L2 := Hd.mk hl2
    have C2 := Hd.mk hC2
    clear hb hR hl2 hC2
    go_wp2_with fail
    refine (H5.out _ w2.heap.size (blk_new w2 _)).mono ?_
    rintro e w3 ⟨v, rfl, hR, hb⟩
    obtain ⟨A3, c3, rfl, hl3, hC3⟩ := Kd.R_reads hR
    have B23 := Hd.mk (((Below.refl _ w2).alloc (Nat.le_refl _) _).trans (hb.mono (by simp)))
    have B3 := Hd.mk (B2.out.trans (B23.out.mono B2.out.size))
    have L3 := Hd.mk hl3
    have C3 := Hd.mk hC3
    have C23 := Hd.mk (Kd.C_below C2.out B23.out)
    clear hb hR hl3 hC3
    go_wp2_with fail
    refine (kimberlitelaw02_same.calls k A2 c2 [7, 7] (some ⟨w3.heap.size, 0, none⟩) 2 [7, 7] true _ (Kd.C_below C23.out ((Below.refl _ w3).alloc (Nat.le_refl _) _)) L2.out (blkI2 (blk_new w3 _)) (Nat.le_refl _) H3.out).mono ?_
    rintro e w4 ⟨rfl, n4, rfl⟩
    have B34 := Hd.mk (((Below.refl _ w3).alloc (Nat.le_refl _) (.cells #[.int .i64 7, .int .i64 7] 3)).trans ((bel_drewN' (w3.alloc (.cells #[.int .i64 7, .int .i64 7] 3)) n4).mono (by simp)))
    generalize (w3.alloc (.cells #[.int .i64 7, .int .i64 7] 3)).drewN n4 = w4 at *
    go_wp2_with fail
    refine (kimberlitelaw02_same.calls k A3 c3 [0, 1] (some ⟨w4.heap.size, 0, none⟩) 2 [0, 1] true _ (Kd.C_below (Kd.C_below C3.out B34.out) ((Below.refl _ w4).alloc (Nat.le_refl _) _)) L3.out (blkI2 (blk_new w4 _)) (Nat.le_refl _) H4.out).mono ?_
    rintro e w5 ⟨rfl, n5, rfl⟩
    go_wp2_with fail
    go_ret
    have B4 := B3.out.trans (B34.out.mono B3.out.size)
    exact ⟨rfl, B4.trans ((((Below.refl _ w4).alloc (Nat.le_refl _) (.cells #[.int .i64 0, .int .i64 1] 3)).trans ((bel_drewN' (w4.alloc (.cells #[.int .i64 0, .int .i64 1] 3)) n5).mono (by simp))).mono B4.size)⟩
  · rw [if_neg hc] at h
    exact absurd h (by simp)
end Go.Proofs.Ytnbdfmdjedakcaa.PP
