/- No conditions. -/
import Derived.Test.YtnbdfmdjedakcaaHD
import Derived.Test.YtnbdfmdjedakcaaQ93
import Derived.Test.YtnbdfmdjedakcaaQ87
namespace Go.Proofs.Ytnbdfmdjedakcaa
open Go.RowKit Go.Proofs.YtnbdfmdjedakcaaW.PrintWords Go.Proofs.YtnbdfmdjedakcaaW.PrintLast Go.Proofs.YtnbdfmdjedakcaaW.PrintMore PP
theorem at_Bo {w : World} {A : Option Addr} {n : Nat} {xs : List Bool} (h : Kd.C Kd.bool w A n xs) (j : Nat) (hj : j < n) : ∃ ad, A = some ad ∧ w.cell? (ad.add j) = some (.bool (rdOf false xs (j : Int))) := by
 obtain ⟨ad, c, e, hl, hK, hc⟩ := Kd.C_get h false (j : Int) (by omega) (by omega)
 refine ⟨ad, e, ?_⟩
 have h1 : c = [.bool (xs.getD (j : Int).toNat false)] := hK
 have h2 := hc 0 (.bool (xs.getD (j : Int).toNat false)) (by rw [h1]; rfl)
 have h3 : (j : Int).toNat * Kd.bool.sz + 0 = j := by
  show (j : Int).toNat * 1 + 0 = j
  omega
 rw [h3] at h2
 exact h2
def rowU (row : List Bool) (g : S36) : Bool := rdOf false row (plN g : Int)
theorem nth_run (W : World) (n : Nat) (hn : n < 1728) (x : S36) (hx : nthG n = x) : Calls Try.prog 93 #[.int .i64 n] W fun e w' => e = .returned (.agg #[.int .i64 x.f0, .int .i64 x.f1, .int .i64 x.f2]) ∧ Below W.heap.size W w' := by
 subst hx
 exact kimberliteref02_Nth.calls _ _ _ _ W (nth_f hn)
theorem place_run (W : World) (a b c : Int) (h : gokB a b c = true) : Calls Try.prog 87 #[.agg #[.int .i64 a, .int .i64 b, .int .i64 c]] W fun e w' => e = .returned (.int .i64 (plN ⟨a, b, c⟩ : Nat)) ∧ Below W.heap.size W w' :=
 kimberliteref02_place.calls a b c _ W (place_f (x := ⟨a, b, c⟩) h)
def hasTo (U : S36 → Bool) (g : S36) (s : Int) : Nat → Bool
 | 0 => false
 | i + 1 => hasTo U g s i || (gok (nb g s i) && U (nb g s i))
theorem hasTo_no {U : S36 → Bool} {g : S36} {s : Int} {i : Nat} (h : gok (nb g s i) = false) : hasTo U g s (i + 1) = hasTo U g s i := by rw [hasTo, h]; simp
theorem hasTo_no2 {U : S36 → Bool} {g : S36} {s : Int} {i : Nat} (h : U (nb g s i) = false) : hasTo U g s (i + 1) = hasTo U g s i := by rw [hasTo, h]; simp
theorem hasTo_yes {U : S36 → Bool} {g : S36} {s : Int} {i : Nat} (h : gok (nb g s i) = true) (h2 : U (nb g s i) = true) : hasTo U g s (i + 1) = true := by rw [hasTo, h, h2]; simp
theorem hasTo_3 (U : S36 → Bool) (g : S36) (s : Int) : hasTo U g s 3 = hasNb U s g := by
 unfold hasNb
 simp only [hasTo, Bool.false_or, Bool.or_assoc]
set_option maxRecDepth 100000 in
set_option maxHeartbeats 16000000 in
theorem refEdge_up (w : World) (A : Option Addr) (c : Nat) (row : List Bool) (hC : Kd.C Kd.bool w A row.length row) (hl : row.length = 1728) :
  Calls Try.prog 92 #[.slice A row.length c, .bool true] w fun e w' => ∃ v, e = .returned v ∧ Kd.R k36 36 w' w.heap.size (fun _ => True) v (edgeL (rowU row) 1) ∧ Below w.heap.size w w' := by
 have hu36 := Try.underlying36
 obtain ⟨U, hU⟩ : ∃ U, U = rowU row := ⟨_, rfl⟩
 have hE : edgeL (rowU row) 1 = ((List.range 1728).map nthG).filter fun g => U g && !hasNb U 1 g := by rw [← all_nth, hU]; rfl
 rw [hE]
 have HU := Hd.mk hU
 have HC := Hd.mk hC
 have HLR := Hd.mk hl
 clear hE hU hC hl
 go_enter Try.func92, Try.ntmps92
 go_wp2_with fail
 go_loopg [5, 6] 1728 (fun gg v5 v6 wr => ∃ (j : Nat) (xs : List S36), v6 = .int .i64 j ∧ j ≤ 1728 ∧ 1728 - j ≤ gg ∧ Hd (xs = ((List.range j).map nthG).filter fun g => U g && !hasNb U 1 g) ∧ Hd (Below w.heap.size w wr) ∧ Hd (Kd.R k36 36 wr w.heap.size (fun _ => True) v5 xs))
 case atStart => exact ⟨0, [], rfl, by omega, by omega, ⟨rfl⟩, ⟨Below.refl _ _⟩, ⟨Kd.R_nil _ _ _ _ _⟩⟩
 case round =>
  obtain ⟨j, xs, rfl, hj, hg, HXS, BW, HR⟩ := hrel
  by_cases hlt : j < 1728
  ·have hltz : (j : Int) < 1728 := by omega
   have hltr : (j : Int) < (row.length : Int) := by have := HLR.out; omega
   obtain ⟨ad, rfl, r0⟩ := at_Bo (Kd.C_below HC.out BW.out) j (by have := HLR.out; omega)
   obtain ⟨x, hx⟩ : ∃ x, nthG j = x := ⟨_, rfl⟩
   have hok := gok_nth hlt
   rw [hx, gok_iff] at hok
   obtain ⟨⟨b1, b2⟩, ⟨b3, b4⟩, b5, b6⟩ := hok
   have SN := Hd.mk (show (((List.range (j + 1)).map nthG).filter fun g => U g && !hasNb U 1 g) = (((List.range j).map nthG).filter fun g => U g && !hasNb U 1 g) ++ (if (U x && !hasNb U 1 x) = true then [x] else []) by
    rw [List.range_succ, List.map_append, List.filter_append, ← hx]
    congr 1
    by_cases h : (U (nthG j) && !hasNb U 1 (nthG j)) = true
    ·rw [if_pos h, List.map_cons, List.filter_cons, if_pos h]; rfl
    ·rw [if_neg h, List.map_cons, List.filter_cons, if_neg h]; rfl)
   have hpx : rdOf false row (j : Int) = U x := by rw [HU.out, ← hx]; unfold rowU; rw [pl_nth hlt]
   rw [hpx] at r0
   have HNTH := Hd.mk (fun W => nth_run W j hlt x hx)
   clear hpx hx
   cases hu : U x with
   | false =>
    rw [hu] at r0
    have HUX := Hd.mk hu
    clear hu
    go_wp2_with fail
    go_roundg (1728 - (j + 1))
    case measure => omega
    case rel => exact ⟨j + 1, xs, by go_num, by omega, by omega, ⟨by rw [HXS.out, SN.out, HUX.out]; simp⟩, BW, HR⟩
   | true =>
    rw [hu] at r0
    have HUX := Hd.mk hu
    clear hu
    go_wp2_with fail
    clear r0
    obtain ⟨wo, rfl⟩ : ∃ z : World, z = wr := ⟨_, rfl⟩
    go_loopg [7, 8] 3 (fun gg v7 v8 wq => ∃ (i : Nat) (en : Bool), v8 = .int .i64 i ∧ v7 = .bool en ∧ i ≤ 3 ∧ 3 - i ≤ gg ∧ Hd (en = !hasTo U x 1 i) ∧ Hd (Below wo.heap.size wo wq))
    case atStart => exact ⟨0, true, rfl, rfl, by omega, by omega, ⟨rfl⟩, ⟨Below.refl _ _⟩⟩
    case round =>
     obtain ⟨i, en, rfl, rfl, hi, hgi, HN, BOQ⟩ := hrel
     have BQ := Hd.mk (BW.out.trans (BOQ.out.mono BW.out.size))
     by_cases hi3 : i < 3
     ·have hii : i = 0 ∨ i = 1 ∨ i = 2 := by omega
      rcases hii with rfl | rfl | rfl
      ·cases hv : gokB (x.f0 + 1) (x.f1) (x.f2) with
       | false =>
         have HN2 := Hd.mk (show en = !hasTo U x 1 (0 + 1) by
          rw [hasTo_no (show gok (nb x 1 0) = false from hv)]; exact HN.out)
         have hgood := fun W => good_any W (x.f0 + 1) (x.f1) (x.f2)
         rw [hv] at hgood
         clear hv
         go_wp2_with fail
         refine (HNTH.out _).mono ?_
         rintro e w3 ⟨rfl, hb3⟩
         have BQ3 := Hd.mk (BQ.out.trans (hb3.mono BQ.out.size))
         have BQ3O := Hd.mk (BOQ.out.trans (hb3.mono BOQ.out.size))
         clear hb3
         go_wp2_with fail
         refine (hgood _).mono ?_
         rintro e w4 ⟨rfl, hb4⟩
         have HB4 := Hd.mk ((BQ3.out.alloc BQ3.out.size (.cells #[.int .i64 (x.f0 + 1), .int .i64 (x.f1), .int .i64 (x.f2)] 36)).trans (hb4.mono (by have := BQ3.out.size; simp; omega)))
         have HB4O := Hd.mk ((BQ3O.out.alloc BQ3O.out.size (.cells #[.int .i64 (x.f0 + 1), .int .i64 (x.f1), .int .i64 (x.f2)] 36)).trans (hb4.mono (by have := BQ3O.out.size; simp; omega)))
         have gb4 := (hb4.block w3.heap.size (by simp)).trans (blk_new w3 (.cells #[.int .i64 (x.f0 + 1), .int .i64 (x.f1), .int .i64 (x.f2)] 36))
         have y0 : w4.cell? ⟨w3.heap.size, 0, none⟩ = some (.int .i64 (x.f0 + 1)) := (blk_cell gb4 0).trans rfl
         have y1 : w4.cell? ⟨w3.heap.size, 1, none⟩ = some (.int .i64 (x.f1)) := (blk_cell gb4 1).trans rfl
         have y2 : w4.cell? ⟨w3.heap.size, 2, none⟩ = some (.int .i64 (x.f2)) := (blk_cell gb4 2).trans rfl
         clear hb4 gb4
         go_wp2_with fail
         go_roundg (3 - (0 + 1))
         case measure => omega
         case rel => exact ⟨0 + 1, en, by go_num, rfl, by omega, by omega, HN2, HB4O⟩
       | true =>
        cases hp : rowU row ⟨x.f0 + 1, x.f1, x.f2⟩ with
        | false =>
         have HN2 := Hd.mk (show en = !hasTo U x 1 (0 + 1) by
          rw [hasTo_no2 (show U (nb x 1 0) = false by rw [HU.out]; exact hp)]; exact HN.out)
         have hgood := fun W => good_any W (x.f0 + 1) (x.f1) (x.f2)
         rw [hv] at hgood
         have HV := Hd.mk hv
         clear hv
         have HPL := Hd.mk (fun W => place_run W (x.f0 + 1) (x.f1) (x.f2) HV.out)
         have pl := nth_pl (x := ⟨x.f0 + 1, x.f1, x.f2⟩) HV.out
         have hpl : plN ⟨x.f0 + 1, x.f1, x.f2⟩ < 1728 := pl.2
         clear pl
         obtain ⟨q, hq⟩ : ∃ q, plN ⟨x.f0 + 1, x.f1, x.f2⟩ = q := ⟨_, rfl⟩
         rw [hq] at HPL hpl
         have HQ := Hd.mk hq
         have hqz : (q : Int) < (row.length : Int) := by have := HLR.out; omega
         clear hq
         go_wp2_with fail
         refine (HNTH.out _).mono ?_
         rintro e w3 ⟨rfl, hb3⟩
         have BQ3 := Hd.mk (BQ.out.trans (hb3.mono BQ.out.size))
         have BQ3O := Hd.mk (BOQ.out.trans (hb3.mono BOQ.out.size))
         clear hb3
         go_wp2_with fail
         refine (hgood _).mono ?_
         rintro e w4 ⟨rfl, hb4⟩
         have HB4 := Hd.mk ((BQ3.out.alloc BQ3.out.size (.cells #[.int .i64 (x.f0 + 1), .int .i64 (x.f1), .int .i64 (x.f2)] 36)).trans (hb4.mono (by have := BQ3.out.size; simp; omega)))
         have HB4O := Hd.mk ((BQ3O.out.alloc BQ3O.out.size (.cells #[.int .i64 (x.f0 + 1), .int .i64 (x.f1), .int .i64 (x.f2)] 36)).trans (hb4.mono (by have := BQ3O.out.size; simp; omega)))
         have gb4 := (hb4.block w3.heap.size (by simp)).trans (blk_new w3 (.cells #[.int .i64 (x.f0 + 1), .int .i64 (x.f1), .int .i64 (x.f2)] 36))
         have y0 : w4.cell? ⟨w3.heap.size, 0, none⟩ = some (.int .i64 (x.f0 + 1)) := (blk_cell gb4 0).trans rfl
         have y1 : w4.cell? ⟨w3.heap.size, 1, none⟩ = some (.int .i64 (x.f1)) := (blk_cell gb4 1).trans rfl
         have y2 : w4.cell? ⟨w3.heap.size, 2, none⟩ = some (.int .i64 (x.f2)) := (blk_cell gb4 2).trans rfl
         clear hb4 gb4
         go_wp2_with fail
         refine (HPL.out _).mono ?_
         rintro e w5 ⟨rfl, hb5⟩
         have HB5 := Hd.mk (HB4.out.trans (hb5.mono HB4.out.size))
         have HB5O := Hd.mk (HB4O.out.trans (hb5.mono HB4O.out.size))
         clear hb5 y0 y1 y2
         obtain ⟨ad2, e2, r0⟩ := at_Bo (Kd.C_below HC.out HB5.out) q (by have := HLR.out; omega)
         obtain rfl := Option.some.inj e2
         have hu : rdOf false row (q : Int) = false := by rw [← HQ.out]; exact hp
         rw [hu] at r0
         clear hu hp
         go_wp2_with fail
         go_roundg (3 - (0 + 1))
         case measure => omega
         case rel => exact ⟨0 + 1, en, by go_num, rfl, by omega, by omega, HN2, HB5O⟩
        | true =>
         have HN2 := Hd.mk (show false = !hasTo U x 1 (0 + 1) by
          rw [hasTo_yes (show gok (nb x 1 0) = true from hv) (show U (nb x 1 0) = true by rw [HU.out]; exact hp)]; rfl)
         have hgood := fun W => good_any W (x.f0 + 1) (x.f1) (x.f2)
         rw [hv] at hgood
         have HV := Hd.mk hv
         clear hv
         have HPL := Hd.mk (fun W => place_run W (x.f0 + 1) (x.f1) (x.f2) HV.out)
         have pl := nth_pl (x := ⟨x.f0 + 1, x.f1, x.f2⟩) HV.out
         have hpl : plN ⟨x.f0 + 1, x.f1, x.f2⟩ < 1728 := pl.2
         clear pl
         obtain ⟨q, hq⟩ : ∃ q, plN ⟨x.f0 + 1, x.f1, x.f2⟩ = q := ⟨_, rfl⟩
         rw [hq] at HPL hpl
         have HQ := Hd.mk hq
         have hqz : (q : Int) < (row.length : Int) := by have := HLR.out; omega
         clear hq
         go_wp2_with fail
         refine (HNTH.out _).mono ?_
         rintro e w3 ⟨rfl, hb3⟩
         have BQ3 := Hd.mk (BQ.out.trans (hb3.mono BQ.out.size))
         have BQ3O := Hd.mk (BOQ.out.trans (hb3.mono BOQ.out.size))
         clear hb3
         go_wp2_with fail
         refine (hgood _).mono ?_
         rintro e w4 ⟨rfl, hb4⟩
         have HB4 := Hd.mk ((BQ3.out.alloc BQ3.out.size (.cells #[.int .i64 (x.f0 + 1), .int .i64 (x.f1), .int .i64 (x.f2)] 36)).trans (hb4.mono (by have := BQ3.out.size; simp; omega)))
         have HB4O := Hd.mk ((BQ3O.out.alloc BQ3O.out.size (.cells #[.int .i64 (x.f0 + 1), .int .i64 (x.f1), .int .i64 (x.f2)] 36)).trans (hb4.mono (by have := BQ3O.out.size; simp; omega)))
         have gb4 := (hb4.block w3.heap.size (by simp)).trans (blk_new w3 (.cells #[.int .i64 (x.f0 + 1), .int .i64 (x.f1), .int .i64 (x.f2)] 36))
         have y0 : w4.cell? ⟨w3.heap.size, 0, none⟩ = some (.int .i64 (x.f0 + 1)) := (blk_cell gb4 0).trans rfl
         have y1 : w4.cell? ⟨w3.heap.size, 1, none⟩ = some (.int .i64 (x.f1)) := (blk_cell gb4 1).trans rfl
         have y2 : w4.cell? ⟨w3.heap.size, 2, none⟩ = some (.int .i64 (x.f2)) := (blk_cell gb4 2).trans rfl
         clear hb4 gb4
         go_wp2_with fail
         refine (HPL.out _).mono ?_
         rintro e w5 ⟨rfl, hb5⟩
         have HB5 := Hd.mk (HB4.out.trans (hb5.mono HB4.out.size))
         have HB5O := Hd.mk (HB4O.out.trans (hb5.mono HB4O.out.size))
         clear hb5 y0 y1 y2
         obtain ⟨ad2, e2, r0⟩ := at_Bo (Kd.C_below HC.out HB5.out) q (by have := HLR.out; omega)
         obtain rfl := Option.some.inj e2
         have hu : rdOf false row (q : Int) = true := by rw [← HQ.out]; exact hp
         rw [hu] at r0
         clear hu hp
         go_wp2_with fail
         go_roundg (3 - (0 + 1))
         case measure => omega
         case rel => exact ⟨0 + 1, false, by go_num, rfl, by omega, by omega, HN2, HB5O⟩
      ·cases hv : gokB (x.f0) (x.f1 + 1) (x.f2) with
       | false =>
         have HN2 := Hd.mk (show en = !hasTo U x 1 (1 + 1) by
          rw [hasTo_no (show gok (nb x 1 1) = false from hv)]; exact HN.out)
         have hgood := fun W => good_any W (x.f0) (x.f1 + 1) (x.f2)
         rw [hv] at hgood
         clear hv
         go_wp2_with fail
         refine (HNTH.out _).mono ?_
         rintro e w3 ⟨rfl, hb3⟩
         have BQ3 := Hd.mk (BQ.out.trans (hb3.mono BQ.out.size))
         have BQ3O := Hd.mk (BOQ.out.trans (hb3.mono BOQ.out.size))
         clear hb3
         go_wp2_with fail
         refine (hgood _).mono ?_
         rintro e w4 ⟨rfl, hb4⟩
         have HB4 := Hd.mk ((BQ3.out.alloc BQ3.out.size (.cells #[.int .i64 (x.f0), .int .i64 (x.f1 + 1), .int .i64 (x.f2)] 36)).trans (hb4.mono (by have := BQ3.out.size; simp; omega)))
         have HB4O := Hd.mk ((BQ3O.out.alloc BQ3O.out.size (.cells #[.int .i64 (x.f0), .int .i64 (x.f1 + 1), .int .i64 (x.f2)] 36)).trans (hb4.mono (by have := BQ3O.out.size; simp; omega)))
         have gb4 := (hb4.block w3.heap.size (by simp)).trans (blk_new w3 (.cells #[.int .i64 (x.f0), .int .i64 (x.f1 + 1), .int .i64 (x.f2)] 36))
         have y0 : w4.cell? ⟨w3.heap.size, 0, none⟩ = some (.int .i64 (x.f0)) := (blk_cell gb4 0).trans rfl
         have y1 : w4.cell? ⟨w3.heap.size, 1, none⟩ = some (.int .i64 (x.f1 + 1)) := (blk_cell gb4 1).trans rfl
         have y2 : w4.cell? ⟨w3.heap.size, 2, none⟩ = some (.int .i64 (x.f2)) := (blk_cell gb4 2).trans rfl
         clear hb4 gb4
         go_wp2_with fail
         go_roundg (3 - (1 + 1))
         case measure => omega
         case rel => exact ⟨1 + 1, en, by go_num, rfl, by omega, by omega, HN2, HB4O⟩
       | true =>
        cases hp : rowU row ⟨x.f0, x.f1 + 1, x.f2⟩ with
        | false =>
         have HN2 := Hd.mk (show en = !hasTo U x 1 (1 + 1) by
          rw [hasTo_no2 (show U (nb x 1 1) = false by rw [HU.out]; exact hp)]; exact HN.out)
         have hgood := fun W => good_any W (x.f0) (x.f1 + 1) (x.f2)
         rw [hv] at hgood
         have HV := Hd.mk hv
         clear hv
         have HPL := Hd.mk (fun W => place_run W (x.f0) (x.f1 + 1) (x.f2) HV.out)
         have pl := nth_pl (x := ⟨x.f0, x.f1 + 1, x.f2⟩) HV.out
         have hpl : plN ⟨x.f0, x.f1 + 1, x.f2⟩ < 1728 := pl.2
         clear pl
         obtain ⟨q, hq⟩ : ∃ q, plN ⟨x.f0, x.f1 + 1, x.f2⟩ = q := ⟨_, rfl⟩
         rw [hq] at HPL hpl
         have HQ := Hd.mk hq
         have hqz : (q : Int) < (row.length : Int) := by have := HLR.out; omega
         clear hq
         go_wp2_with fail
         refine (HNTH.out _).mono ?_
         rintro e w3 ⟨rfl, hb3⟩
         have BQ3 := Hd.mk (BQ.out.trans (hb3.mono BQ.out.size))
         have BQ3O := Hd.mk (BOQ.out.trans (hb3.mono BOQ.out.size))
         clear hb3
         go_wp2_with fail
         refine (hgood _).mono ?_
         rintro e w4 ⟨rfl, hb4⟩
         have HB4 := Hd.mk ((BQ3.out.alloc BQ3.out.size (.cells #[.int .i64 (x.f0), .int .i64 (x.f1 + 1), .int .i64 (x.f2)] 36)).trans (hb4.mono (by have := BQ3.out.size; simp; omega)))
         have HB4O := Hd.mk ((BQ3O.out.alloc BQ3O.out.size (.cells #[.int .i64 (x.f0), .int .i64 (x.f1 + 1), .int .i64 (x.f2)] 36)).trans (hb4.mono (by have := BQ3O.out.size; simp; omega)))
         have gb4 := (hb4.block w3.heap.size (by simp)).trans (blk_new w3 (.cells #[.int .i64 (x.f0), .int .i64 (x.f1 + 1), .int .i64 (x.f2)] 36))
         have y0 : w4.cell? ⟨w3.heap.size, 0, none⟩ = some (.int .i64 (x.f0)) := (blk_cell gb4 0).trans rfl
         have y1 : w4.cell? ⟨w3.heap.size, 1, none⟩ = some (.int .i64 (x.f1 + 1)) := (blk_cell gb4 1).trans rfl
         have y2 : w4.cell? ⟨w3.heap.size, 2, none⟩ = some (.int .i64 (x.f2)) := (blk_cell gb4 2).trans rfl
         clear hb4 gb4
         go_wp2_with fail
         refine (HPL.out _).mono ?_
         rintro e w5 ⟨rfl, hb5⟩
         have HB5 := Hd.mk (HB4.out.trans (hb5.mono HB4.out.size))
         have HB5O := Hd.mk (HB4O.out.trans (hb5.mono HB4O.out.size))
         clear hb5 y0 y1 y2
         obtain ⟨ad2, e2, r0⟩ := at_Bo (Kd.C_below HC.out HB5.out) q (by have := HLR.out; omega)
         obtain rfl := Option.some.inj e2
         have hu : rdOf false row (q : Int) = false := by rw [← HQ.out]; exact hp
         rw [hu] at r0
         clear hu hp
         go_wp2_with fail
         go_roundg (3 - (1 + 1))
         case measure => omega
         case rel => exact ⟨1 + 1, en, by go_num, rfl, by omega, by omega, HN2, HB5O⟩
        | true =>
         have HN2 := Hd.mk (show false = !hasTo U x 1 (1 + 1) by
          rw [hasTo_yes (show gok (nb x 1 1) = true from hv) (show U (nb x 1 1) = true by rw [HU.out]; exact hp)]; rfl)
         have hgood := fun W => good_any W (x.f0) (x.f1 + 1) (x.f2)
         rw [hv] at hgood
         have HV := Hd.mk hv
         clear hv
         have HPL := Hd.mk (fun W => place_run W (x.f0) (x.f1 + 1) (x.f2) HV.out)
         have pl := nth_pl (x := ⟨x.f0, x.f1 + 1, x.f2⟩) HV.out
         have hpl : plN ⟨x.f0, x.f1 + 1, x.f2⟩ < 1728 := pl.2
         clear pl
         obtain ⟨q, hq⟩ : ∃ q, plN ⟨x.f0, x.f1 + 1, x.f2⟩ = q := ⟨_, rfl⟩
         rw [hq] at HPL hpl
         have HQ := Hd.mk hq
         have hqz : (q : Int) < (row.length : Int) := by have := HLR.out; omega
         clear hq
         go_wp2_with fail
         refine (HNTH.out _).mono ?_
         rintro e w3 ⟨rfl, hb3⟩
         have BQ3 := Hd.mk (BQ.out.trans (hb3.mono BQ.out.size))
         have BQ3O := Hd.mk (BOQ.out.trans (hb3.mono BOQ.out.size))
         clear hb3
         go_wp2_with fail
         refine (hgood _).mono ?_
         rintro e w4 ⟨rfl, hb4⟩
         have HB4 := Hd.mk ((BQ3.out.alloc BQ3.out.size (.cells #[.int .i64 (x.f0), .int .i64 (x.f1 + 1), .int .i64 (x.f2)] 36)).trans (hb4.mono (by have := BQ3.out.size; simp; omega)))
         have HB4O := Hd.mk ((BQ3O.out.alloc BQ3O.out.size (.cells #[.int .i64 (x.f0), .int .i64 (x.f1 + 1), .int .i64 (x.f2)] 36)).trans (hb4.mono (by have := BQ3O.out.size; simp; omega)))
         have gb4 := (hb4.block w3.heap.size (by simp)).trans (blk_new w3 (.cells #[.int .i64 (x.f0), .int .i64 (x.f1 + 1), .int .i64 (x.f2)] 36))
         have y0 : w4.cell? ⟨w3.heap.size, 0, none⟩ = some (.int .i64 (x.f0)) := (blk_cell gb4 0).trans rfl
         have y1 : w4.cell? ⟨w3.heap.size, 1, none⟩ = some (.int .i64 (x.f1 + 1)) := (blk_cell gb4 1).trans rfl
         have y2 : w4.cell? ⟨w3.heap.size, 2, none⟩ = some (.int .i64 (x.f2)) := (blk_cell gb4 2).trans rfl
         clear hb4 gb4
         go_wp2_with fail
         refine (HPL.out _).mono ?_
         rintro e w5 ⟨rfl, hb5⟩
         have HB5 := Hd.mk (HB4.out.trans (hb5.mono HB4.out.size))
         have HB5O := Hd.mk (HB4O.out.trans (hb5.mono HB4O.out.size))
         clear hb5 y0 y1 y2
         obtain ⟨ad2, e2, r0⟩ := at_Bo (Kd.C_below HC.out HB5.out) q (by have := HLR.out; omega)
         obtain rfl := Option.some.inj e2
         have hu : rdOf false row (q : Int) = true := by rw [← HQ.out]; exact hp
         rw [hu] at r0
         clear hu hp
         go_wp2_with fail
         go_roundg (3 - (1 + 1))
         case measure => omega
         case rel => exact ⟨1 + 1, false, by go_num, rfl, by omega, by omega, HN2, HB5O⟩
      ·cases hv : gokB (x.f0) (x.f1) (x.f2 + 1) with
       | false =>
         have HN2 := Hd.mk (show en = !hasTo U x 1 (2 + 1) by
          rw [hasTo_no (show gok (nb x 1 2) = false from hv)]; exact HN.out)
         have hgood := fun W => good_any W (x.f0) (x.f1) (x.f2 + 1)
         rw [hv] at hgood
         clear hv
         go_wp2_with fail
         refine (HNTH.out _).mono ?_
         rintro e w3 ⟨rfl, hb3⟩
         have BQ3 := Hd.mk (BQ.out.trans (hb3.mono BQ.out.size))
         have BQ3O := Hd.mk (BOQ.out.trans (hb3.mono BOQ.out.size))
         clear hb3
         go_wp2_with fail
         refine (hgood _).mono ?_
         rintro e w4 ⟨rfl, hb4⟩
         have HB4 := Hd.mk ((BQ3.out.alloc BQ3.out.size (.cells #[.int .i64 (x.f0), .int .i64 (x.f1), .int .i64 (x.f2 + 1)] 36)).trans (hb4.mono (by have := BQ3.out.size; simp; omega)))
         have HB4O := Hd.mk ((BQ3O.out.alloc BQ3O.out.size (.cells #[.int .i64 (x.f0), .int .i64 (x.f1), .int .i64 (x.f2 + 1)] 36)).trans (hb4.mono (by have := BQ3O.out.size; simp; omega)))
         have gb4 := (hb4.block w3.heap.size (by simp)).trans (blk_new w3 (.cells #[.int .i64 (x.f0), .int .i64 (x.f1), .int .i64 (x.f2 + 1)] 36))
         have y0 : w4.cell? ⟨w3.heap.size, 0, none⟩ = some (.int .i64 (x.f0)) := (blk_cell gb4 0).trans rfl
         have y1 : w4.cell? ⟨w3.heap.size, 1, none⟩ = some (.int .i64 (x.f1)) := (blk_cell gb4 1).trans rfl
         have y2 : w4.cell? ⟨w3.heap.size, 2, none⟩ = some (.int .i64 (x.f2 + 1)) := (blk_cell gb4 2).trans rfl
         clear hb4 gb4
         go_wp2_with fail
         go_roundg (3 - (2 + 1))
         case measure => omega
         case rel => exact ⟨2 + 1, en, by go_num, rfl, by omega, by omega, HN2, HB4O⟩
       | true =>
        cases hp : rowU row ⟨x.f0, x.f1, x.f2 + 1⟩ with
        | false =>
         have HN2 := Hd.mk (show en = !hasTo U x 1 (2 + 1) by
          rw [hasTo_no2 (show U (nb x 1 2) = false by rw [HU.out]; exact hp)]; exact HN.out)
         have hgood := fun W => good_any W (x.f0) (x.f1) (x.f2 + 1)
         rw [hv] at hgood
         have HV := Hd.mk hv
         clear hv
         have HPL := Hd.mk (fun W => place_run W (x.f0) (x.f1) (x.f2 + 1) HV.out)
         have pl := nth_pl (x := ⟨x.f0, x.f1, x.f2 + 1⟩) HV.out
         have hpl : plN ⟨x.f0, x.f1, x.f2 + 1⟩ < 1728 := pl.2
         clear pl
         obtain ⟨q, hq⟩ : ∃ q, plN ⟨x.f0, x.f1, x.f2 + 1⟩ = q := ⟨_, rfl⟩
         rw [hq] at HPL hpl
         have HQ := Hd.mk hq
         have hqz : (q : Int) < (row.length : Int) := by have := HLR.out; omega
         clear hq
         go_wp2_with fail
         refine (HNTH.out _).mono ?_
         rintro e w3 ⟨rfl, hb3⟩
         have BQ3 := Hd.mk (BQ.out.trans (hb3.mono BQ.out.size))
         have BQ3O := Hd.mk (BOQ.out.trans (hb3.mono BOQ.out.size))
         clear hb3
         go_wp2_with fail
         refine (hgood _).mono ?_
         rintro e w4 ⟨rfl, hb4⟩
         have HB4 := Hd.mk ((BQ3.out.alloc BQ3.out.size (.cells #[.int .i64 (x.f0), .int .i64 (x.f1), .int .i64 (x.f2 + 1)] 36)).trans (hb4.mono (by have := BQ3.out.size; simp; omega)))
         have HB4O := Hd.mk ((BQ3O.out.alloc BQ3O.out.size (.cells #[.int .i64 (x.f0), .int .i64 (x.f1), .int .i64 (x.f2 + 1)] 36)).trans (hb4.mono (by have := BQ3O.out.size; simp; omega)))
         have gb4 := (hb4.block w3.heap.size (by simp)).trans (blk_new w3 (.cells #[.int .i64 (x.f0), .int .i64 (x.f1), .int .i64 (x.f2 + 1)] 36))
         have y0 : w4.cell? ⟨w3.heap.size, 0, none⟩ = some (.int .i64 (x.f0)) := (blk_cell gb4 0).trans rfl
         have y1 : w4.cell? ⟨w3.heap.size, 1, none⟩ = some (.int .i64 (x.f1)) := (blk_cell gb4 1).trans rfl
         have y2 : w4.cell? ⟨w3.heap.size, 2, none⟩ = some (.int .i64 (x.f2 + 1)) := (blk_cell gb4 2).trans rfl
         clear hb4 gb4
         go_wp2_with fail
         refine (HPL.out _).mono ?_
         rintro e w5 ⟨rfl, hb5⟩
         have HB5 := Hd.mk (HB4.out.trans (hb5.mono HB4.out.size))
         have HB5O := Hd.mk (HB4O.out.trans (hb5.mono HB4O.out.size))
         clear hb5 y0 y1 y2
         obtain ⟨ad2, e2, r0⟩ := at_Bo (Kd.C_below HC.out HB5.out) q (by have := HLR.out; omega)
         obtain rfl := Option.some.inj e2
         have hu : rdOf false row (q : Int) = false := by rw [← HQ.out]; exact hp
         rw [hu] at r0
         clear hu hp
         go_wp2_with fail
         go_roundg (3 - (2 + 1))
         case measure => omega
         case rel => exact ⟨2 + 1, en, by go_num, rfl, by omega, by omega, HN2, HB5O⟩
        | true =>
         have HN2 := Hd.mk (show false = !hasTo U x 1 (2 + 1) by
          rw [hasTo_yes (show gok (nb x 1 2) = true from hv) (show U (nb x 1 2) = true by rw [HU.out]; exact hp)]; rfl)
         have hgood := fun W => good_any W (x.f0) (x.f1) (x.f2 + 1)
         rw [hv] at hgood
         have HV := Hd.mk hv
         clear hv
         have HPL := Hd.mk (fun W => place_run W (x.f0) (x.f1) (x.f2 + 1) HV.out)
         have pl := nth_pl (x := ⟨x.f0, x.f1, x.f2 + 1⟩) HV.out
         have hpl : plN ⟨x.f0, x.f1, x.f2 + 1⟩ < 1728 := pl.2
         clear pl
         obtain ⟨q, hq⟩ : ∃ q, plN ⟨x.f0, x.f1, x.f2 + 1⟩ = q := ⟨_, rfl⟩
         rw [hq] at HPL hpl
         have HQ := Hd.mk hq
         have hqz : (q : Int) < (row.length : Int) := by have := HLR.out; omega
         clear hq
         go_wp2_with fail
         refine (HNTH.out _).mono ?_
         rintro e w3 ⟨rfl, hb3⟩
         have BQ3 := Hd.mk (BQ.out.trans (hb3.mono BQ.out.size))
         have BQ3O := Hd.mk (BOQ.out.trans (hb3.mono BOQ.out.size))
         clear hb3
         go_wp2_with fail
         refine (hgood _).mono ?_
         rintro e w4 ⟨rfl, hb4⟩
         have HB4 := Hd.mk ((BQ3.out.alloc BQ3.out.size (.cells #[.int .i64 (x.f0), .int .i64 (x.f1), .int .i64 (x.f2 + 1)] 36)).trans (hb4.mono (by have := BQ3.out.size; simp; omega)))
         have HB4O := Hd.mk ((BQ3O.out.alloc BQ3O.out.size (.cells #[.int .i64 (x.f0), .int .i64 (x.f1), .int .i64 (x.f2 + 1)] 36)).trans (hb4.mono (by have := BQ3O.out.size; simp; omega)))
         have gb4 := (hb4.block w3.heap.size (by simp)).trans (blk_new w3 (.cells #[.int .i64 (x.f0), .int .i64 (x.f1), .int .i64 (x.f2 + 1)] 36))
         have y0 : w4.cell? ⟨w3.heap.size, 0, none⟩ = some (.int .i64 (x.f0)) := (blk_cell gb4 0).trans rfl
         have y1 : w4.cell? ⟨w3.heap.size, 1, none⟩ = some (.int .i64 (x.f1)) := (blk_cell gb4 1).trans rfl
         have y2 : w4.cell? ⟨w3.heap.size, 2, none⟩ = some (.int .i64 (x.f2 + 1)) := (blk_cell gb4 2).trans rfl
         clear hb4 gb4
         go_wp2_with fail
         refine (HPL.out _).mono ?_
         rintro e w5 ⟨rfl, hb5⟩
         have HB5 := Hd.mk (HB4.out.trans (hb5.mono HB4.out.size))
         have HB5O := Hd.mk (HB4O.out.trans (hb5.mono HB4O.out.size))
         clear hb5 y0 y1 y2
         obtain ⟨ad2, e2, r0⟩ := at_Bo (Kd.C_below HC.out HB5.out) q (by have := HLR.out; omega)
         obtain rfl := Option.some.inj e2
         have hu : rdOf false row (q : Int) = true := by rw [← HQ.out]; exact hp
         rw [hu] at r0
         clear hu hp
         go_wp2_with fail
         go_roundg (3 - (2 + 1))
         case measure => omega
         case rel => exact ⟨2 + 1, false, by go_num, rfl, by omega, by omega, HN2, HB5O⟩
     ·obtain rfl : i = 3 := by omega
      have HNB := Hd.mk (show en = !hasNb U 1 x by rw [← hasTo_3]; exact HN.out)
      cases en with
      | false =>
       go_wp2_with fail
       go_roundg (1728 - (j + 1))
       case measure => omega
       case rel => exact ⟨j + 1, xs, by go_num, by omega, by omega, ⟨by rw [HXS.out, SN.out, HUX.out, ← HNB.out]; simp⟩, BQ, ⟨Kd.R_below HR.out BOQ.out⟩⟩
      | true =>
       have HLN := Hd.mk (show xs.length ≤ 1728 by
        rw [HXS.out]
        exact Nat.le_trans (List.length_filter_le _ _) (by simp; omega))
       go_wp2_with fail
       refine (HNTH.out _).mono ?_
       rintro e w3 ⟨rfl, hb3⟩
       have BQ3 := Hd.mk (BQ.out.trans (hb3.mono BQ.out.size))
       have R3 := Hd.mk (Kd.R_below (Kd.R_below HR.out BOQ.out) hb3)
       clear hb3
       go_wp2_with (((with_reducible refine gate_builtin (b := .append) (xs := #[.tmp 46, .tmp 49]) rfl ?_); at_builtin; refine Kd.R_append k36 (w0 := w) w.heap.size rfl (.tmp 46) (.tmp 49) 41 36 (.agg #[(.int .i64 0), (.int .i64 0), (.int .i64 0)]) 24 rfl Try.underlying41 info36 rfl (by decide) (by omega) u5 _ x [.int .i64 x.f0, .int .i64 x.f1, .int .i64 x.f2] (fun _ => True) (fun _ => False) rfl rfl ?aP (fun _ hk => hk.elim) (fun _ _ => trivial) R3.out BQ3.out ?aS ?aL ?_; (case aP => exact k36_mkM _ _ _ x); (case aS => exact BQ3.out.size); (case aL => have := HLN.out; omega); intro v5 w5 ho hb hg2 hat; have HO5 := Hd.mk ho; have HB5 := Hd.mk hb; clear ho hb hg2 hat))
       go_roundg (1728 - (j + 1))
       case measure => omega
       case rel => exact ⟨j + 1, _, by go_num, by omega, by omega, ⟨by rw [HXS.out, SN.out, HUX.out, ← HNB.out]; simp⟩, HB5, HO5⟩
  ·have hltz : ¬ (j : Int) < 1728 := by omega
   obtain rfl : j = 1728 := by omega
   go_wp2_with fail
   go_ret
   exact ⟨_, rfl, by rw [← HXS.out]; exact HR.out, BW.out⟩
set_option maxRecDepth 100000 in
set_option maxHeartbeats 16000000 in
theorem refEdge_dn (w : World) (A : Option Addr) (c : Nat) (row : List Bool) (hC : Kd.C Kd.bool w A row.length row) (hl : row.length = 1728) :
  Calls Try.prog 92 #[.slice A row.length c, .bool false] w fun e w' => ∃ v, e = .returned v ∧ Kd.R k36 36 w' w.heap.size (fun _ => True) v (edgeL (rowU row) (-1)) ∧ Below w.heap.size w w' := by
 have hu36 := Try.underlying36
 obtain ⟨U, hU⟩ : ∃ U, U = rowU row := ⟨_, rfl⟩
 have hE : edgeL (rowU row) (-1) = ((List.range 1728).map nthG).filter fun g => U g && !hasNb U (-1) g := by rw [← all_nth, hU]; rfl
 rw [hE]
 have HU := Hd.mk hU
 have HC := Hd.mk hC
 have HLR := Hd.mk hl
 clear hE hU hC hl
 go_enter Try.func92, Try.ntmps92
 go_wp2_with fail
 go_loopg [5, 6] 1728 (fun gg v5 v6 wr => ∃ (j : Nat) (xs : List S36), v6 = .int .i64 j ∧ j ≤ 1728 ∧ 1728 - j ≤ gg ∧ Hd (xs = ((List.range j).map nthG).filter fun g => U g && !hasNb U (-1) g) ∧ Hd (Below w.heap.size w wr) ∧ Hd (Kd.R k36 36 wr w.heap.size (fun _ => True) v5 xs))
 case atStart => exact ⟨0, [], rfl, by omega, by omega, ⟨rfl⟩, ⟨Below.refl _ _⟩, ⟨Kd.R_nil _ _ _ _ _⟩⟩
 case round =>
  obtain ⟨j, xs, rfl, hj, hg, HXS, BW, HR⟩ := hrel
  by_cases hlt : j < 1728
  ·have hltz : (j : Int) < 1728 := by omega
   have hltr : (j : Int) < (row.length : Int) := by have := HLR.out; omega
   obtain ⟨ad, rfl, r0⟩ := at_Bo (Kd.C_below HC.out BW.out) j (by have := HLR.out; omega)
   obtain ⟨x, hx⟩ : ∃ x, nthG j = x := ⟨_, rfl⟩
   have hok := gok_nth hlt
   rw [hx, gok_iff] at hok
   obtain ⟨⟨b1, b2⟩, ⟨b3, b4⟩, b5, b6⟩ := hok
   have SN := Hd.mk (show (((List.range (j + 1)).map nthG).filter fun g => U g && !hasNb U (-1) g) = (((List.range j).map nthG).filter fun g => U g && !hasNb U (-1) g) ++ (if (U x && !hasNb U (-1) x) = true then [x] else []) by
    rw [List.range_succ, List.map_append, List.filter_append, ← hx]
    congr 1
    by_cases h : (U (nthG j) && !hasNb U (-1) (nthG j)) = true
    ·rw [if_pos h, List.map_cons, List.filter_cons, if_pos h]; rfl
    ·rw [if_neg h, List.map_cons, List.filter_cons, if_neg h]; rfl)
   have hpx : rdOf false row (j : Int) = U x := by rw [HU.out, ← hx]; unfold rowU; rw [pl_nth hlt]
   rw [hpx] at r0
   have HNTH := Hd.mk (fun W => nth_run W j hlt x hx)
   clear hpx hx
   cases hu : U x with
   | false =>
    rw [hu] at r0
    have HUX := Hd.mk hu
    clear hu
    go_wp2_with fail
    go_roundg (1728 - (j + 1))
    case measure => omega
    case rel => exact ⟨j + 1, xs, by go_num, by omega, by omega, ⟨by rw [HXS.out, SN.out, HUX.out]; simp⟩, BW, HR⟩
   | true =>
    rw [hu] at r0
    have HUX := Hd.mk hu
    clear hu
    go_wp2_with fail
    clear r0
    obtain ⟨wo, rfl⟩ : ∃ z : World, z = wr := ⟨_, rfl⟩
    go_loopg [7, 8] 3 (fun gg v7 v8 wq => ∃ (i : Nat) (en : Bool), v8 = .int .i64 i ∧ v7 = .bool en ∧ i ≤ 3 ∧ 3 - i ≤ gg ∧ Hd (en = !hasTo U x (-1) i) ∧ Hd (Below wo.heap.size wo wq))
    case atStart => exact ⟨0, true, rfl, rfl, by omega, by omega, ⟨rfl⟩, ⟨Below.refl _ _⟩⟩
    case round =>
     obtain ⟨i, en, rfl, rfl, hi, hgi, HN, BOQ⟩ := hrel
     have BQ := Hd.mk (BW.out.trans (BOQ.out.mono BW.out.size))
     by_cases hi3 : i < 3
     ·have hii : i = 0 ∨ i = 1 ∨ i = 2 := by omega
      rcases hii with rfl | rfl | rfl
      ·cases hv : gokB (x.f0 - 1) (x.f1) (x.f2) with
       | false =>
         have HN2 := Hd.mk (show en = !hasTo U x (-1) (0 + 1) by
          rw [hasTo_no (show gok (nb x (-1) 0) = false from hv)]; exact HN.out)
         have hgood := fun W => good_any W (x.f0 - 1) (x.f1) (x.f2)
         rw [hv] at hgood
         clear hv
         go_wp2_with fail
         refine (HNTH.out _).mono ?_
         rintro e w3 ⟨rfl, hb3⟩
         have BQ3 := Hd.mk (BQ.out.trans (hb3.mono BQ.out.size))
         have BQ3O := Hd.mk (BOQ.out.trans (hb3.mono BOQ.out.size))
         clear hb3
         go_wp2_with fail
         refine (hgood _).mono ?_
         rintro e w4 ⟨rfl, hb4⟩
         have HB4 := Hd.mk ((BQ3.out.alloc BQ3.out.size (.cells #[.int .i64 (x.f0 - 1), .int .i64 (x.f1), .int .i64 (x.f2)] 36)).trans (hb4.mono (by have := BQ3.out.size; simp; omega)))
         have HB4O := Hd.mk ((BQ3O.out.alloc BQ3O.out.size (.cells #[.int .i64 (x.f0 - 1), .int .i64 (x.f1), .int .i64 (x.f2)] 36)).trans (hb4.mono (by have := BQ3O.out.size; simp; omega)))
         have gb4 := (hb4.block w3.heap.size (by simp)).trans (blk_new w3 (.cells #[.int .i64 (x.f0 - 1), .int .i64 (x.f1), .int .i64 (x.f2)] 36))
         have y0 : w4.cell? ⟨w3.heap.size, 0, none⟩ = some (.int .i64 (x.f0 - 1)) := (blk_cell gb4 0).trans rfl
         have y1 : w4.cell? ⟨w3.heap.size, 1, none⟩ = some (.int .i64 (x.f1)) := (blk_cell gb4 1).trans rfl
         have y2 : w4.cell? ⟨w3.heap.size, 2, none⟩ = some (.int .i64 (x.f2)) := (blk_cell gb4 2).trans rfl
         clear hb4 gb4
         go_wp2_with fail
         go_roundg (3 - (0 + 1))
         case measure => omega
         case rel => exact ⟨0 + 1, en, by go_num, rfl, by omega, by omega, HN2, HB4O⟩
       | true =>
        cases hp : rowU row ⟨x.f0 - 1, x.f1, x.f2⟩ with
        | false =>
         have HN2 := Hd.mk (show en = !hasTo U x (-1) (0 + 1) by
          rw [hasTo_no2 (show U (nb x (-1) 0) = false by rw [HU.out]; exact hp)]; exact HN.out)
         have hgood := fun W => good_any W (x.f0 - 1) (x.f1) (x.f2)
         rw [hv] at hgood
         have HV := Hd.mk hv
         clear hv
         have HPL := Hd.mk (fun W => place_run W (x.f0 - 1) (x.f1) (x.f2) HV.out)
         have pl := nth_pl (x := ⟨x.f0 - 1, x.f1, x.f2⟩) HV.out
         have hpl : plN ⟨x.f0 - 1, x.f1, x.f2⟩ < 1728 := pl.2
         clear pl
         obtain ⟨q, hq⟩ : ∃ q, plN ⟨x.f0 - 1, x.f1, x.f2⟩ = q := ⟨_, rfl⟩
         rw [hq] at HPL hpl
         have HQ := Hd.mk hq
         have hqz : (q : Int) < (row.length : Int) := by have := HLR.out; omega
         clear hq
         go_wp2_with fail
         refine (HNTH.out _).mono ?_
         rintro e w3 ⟨rfl, hb3⟩
         have BQ3 := Hd.mk (BQ.out.trans (hb3.mono BQ.out.size))
         have BQ3O := Hd.mk (BOQ.out.trans (hb3.mono BOQ.out.size))
         clear hb3
         go_wp2_with fail
         refine (hgood _).mono ?_
         rintro e w4 ⟨rfl, hb4⟩
         have HB4 := Hd.mk ((BQ3.out.alloc BQ3.out.size (.cells #[.int .i64 (x.f0 - 1), .int .i64 (x.f1), .int .i64 (x.f2)] 36)).trans (hb4.mono (by have := BQ3.out.size; simp; omega)))
         have HB4O := Hd.mk ((BQ3O.out.alloc BQ3O.out.size (.cells #[.int .i64 (x.f0 - 1), .int .i64 (x.f1), .int .i64 (x.f2)] 36)).trans (hb4.mono (by have := BQ3O.out.size; simp; omega)))
         have gb4 := (hb4.block w3.heap.size (by simp)).trans (blk_new w3 (.cells #[.int .i64 (x.f0 - 1), .int .i64 (x.f1), .int .i64 (x.f2)] 36))
         have y0 : w4.cell? ⟨w3.heap.size, 0, none⟩ = some (.int .i64 (x.f0 - 1)) := (blk_cell gb4 0).trans rfl
         have y1 : w4.cell? ⟨w3.heap.size, 1, none⟩ = some (.int .i64 (x.f1)) := (blk_cell gb4 1).trans rfl
         have y2 : w4.cell? ⟨w3.heap.size, 2, none⟩ = some (.int .i64 (x.f2)) := (blk_cell gb4 2).trans rfl
         clear hb4 gb4
         go_wp2_with fail
         refine (HPL.out _).mono ?_
         rintro e w5 ⟨rfl, hb5⟩
         have HB5 := Hd.mk (HB4.out.trans (hb5.mono HB4.out.size))
         have HB5O := Hd.mk (HB4O.out.trans (hb5.mono HB4O.out.size))
         clear hb5 y0 y1 y2
         obtain ⟨ad2, e2, r0⟩ := at_Bo (Kd.C_below HC.out HB5.out) q (by have := HLR.out; omega)
         obtain rfl := Option.some.inj e2
         have hu : rdOf false row (q : Int) = false := by rw [← HQ.out]; exact hp
         rw [hu] at r0
         clear hu hp
         go_wp2_with fail
         go_roundg (3 - (0 + 1))
         case measure => omega
         case rel => exact ⟨0 + 1, en, by go_num, rfl, by omega, by omega, HN2, HB5O⟩
        | true =>
         have HN2 := Hd.mk (show false = !hasTo U x (-1) (0 + 1) by
          rw [hasTo_yes (show gok (nb x (-1) 0) = true from hv) (show U (nb x (-1) 0) = true by rw [HU.out]; exact hp)]; rfl)
         have hgood := fun W => good_any W (x.f0 - 1) (x.f1) (x.f2)
         rw [hv] at hgood
         have HV := Hd.mk hv
         clear hv
         have HPL := Hd.mk (fun W => place_run W (x.f0 - 1) (x.f1) (x.f2) HV.out)
         have pl := nth_pl (x := ⟨x.f0 - 1, x.f1, x.f2⟩) HV.out
         have hpl : plN ⟨x.f0 - 1, x.f1, x.f2⟩ < 1728 := pl.2
         clear pl
         obtain ⟨q, hq⟩ : ∃ q, plN ⟨x.f0 - 1, x.f1, x.f2⟩ = q := ⟨_, rfl⟩
         rw [hq] at HPL hpl
         have HQ := Hd.mk hq
         have hqz : (q : Int) < (row.length : Int) := by have := HLR.out; omega
         clear hq
         go_wp2_with fail
         refine (HNTH.out _).mono ?_
         rintro e w3 ⟨rfl, hb3⟩
         have BQ3 := Hd.mk (BQ.out.trans (hb3.mono BQ.out.size))
         have BQ3O := Hd.mk (BOQ.out.trans (hb3.mono BOQ.out.size))
         clear hb3
         go_wp2_with fail
         refine (hgood _).mono ?_
         rintro e w4 ⟨rfl, hb4⟩
         have HB4 := Hd.mk ((BQ3.out.alloc BQ3.out.size (.cells #[.int .i64 (x.f0 - 1), .int .i64 (x.f1), .int .i64 (x.f2)] 36)).trans (hb4.mono (by have := BQ3.out.size; simp; omega)))
         have HB4O := Hd.mk ((BQ3O.out.alloc BQ3O.out.size (.cells #[.int .i64 (x.f0 - 1), .int .i64 (x.f1), .int .i64 (x.f2)] 36)).trans (hb4.mono (by have := BQ3O.out.size; simp; omega)))
         have gb4 := (hb4.block w3.heap.size (by simp)).trans (blk_new w3 (.cells #[.int .i64 (x.f0 - 1), .int .i64 (x.f1), .int .i64 (x.f2)] 36))
         have y0 : w4.cell? ⟨w3.heap.size, 0, none⟩ = some (.int .i64 (x.f0 - 1)) := (blk_cell gb4 0).trans rfl
         have y1 : w4.cell? ⟨w3.heap.size, 1, none⟩ = some (.int .i64 (x.f1)) := (blk_cell gb4 1).trans rfl
         have y2 : w4.cell? ⟨w3.heap.size, 2, none⟩ = some (.int .i64 (x.f2)) := (blk_cell gb4 2).trans rfl
         clear hb4 gb4
         go_wp2_with fail
         refine (HPL.out _).mono ?_
         rintro e w5 ⟨rfl, hb5⟩
         have HB5 := Hd.mk (HB4.out.trans (hb5.mono HB4.out.size))
         have HB5O := Hd.mk (HB4O.out.trans (hb5.mono HB4O.out.size))
         clear hb5 y0 y1 y2
         obtain ⟨ad2, e2, r0⟩ := at_Bo (Kd.C_below HC.out HB5.out) q (by have := HLR.out; omega)
         obtain rfl := Option.some.inj e2
         have hu : rdOf false row (q : Int) = true := by rw [← HQ.out]; exact hp
         rw [hu] at r0
         clear hu hp
         go_wp2_with fail
         go_roundg (3 - (0 + 1))
         case measure => omega
         case rel => exact ⟨0 + 1, false, by go_num, rfl, by omega, by omega, HN2, HB5O⟩
      ·cases hv : gokB (x.f0) (x.f1 - 1) (x.f2) with
       | false =>
         have HN2 := Hd.mk (show en = !hasTo U x (-1) (1 + 1) by
          rw [hasTo_no (show gok (nb x (-1) 1) = false from hv)]; exact HN.out)
         have hgood := fun W => good_any W (x.f0) (x.f1 - 1) (x.f2)
         rw [hv] at hgood
         clear hv
         go_wp2_with fail
         refine (HNTH.out _).mono ?_
         rintro e w3 ⟨rfl, hb3⟩
         have BQ3 := Hd.mk (BQ.out.trans (hb3.mono BQ.out.size))
         have BQ3O := Hd.mk (BOQ.out.trans (hb3.mono BOQ.out.size))
         clear hb3
         go_wp2_with fail
         refine (hgood _).mono ?_
         rintro e w4 ⟨rfl, hb4⟩
         have HB4 := Hd.mk ((BQ3.out.alloc BQ3.out.size (.cells #[.int .i64 (x.f0), .int .i64 (x.f1 - 1), .int .i64 (x.f2)] 36)).trans (hb4.mono (by have := BQ3.out.size; simp; omega)))
         have HB4O := Hd.mk ((BQ3O.out.alloc BQ3O.out.size (.cells #[.int .i64 (x.f0), .int .i64 (x.f1 - 1), .int .i64 (x.f2)] 36)).trans (hb4.mono (by have := BQ3O.out.size; simp; omega)))
         have gb4 := (hb4.block w3.heap.size (by simp)).trans (blk_new w3 (.cells #[.int .i64 (x.f0), .int .i64 (x.f1 - 1), .int .i64 (x.f2)] 36))
         have y0 : w4.cell? ⟨w3.heap.size, 0, none⟩ = some (.int .i64 (x.f0)) := (blk_cell gb4 0).trans rfl
         have y1 : w4.cell? ⟨w3.heap.size, 1, none⟩ = some (.int .i64 (x.f1 - 1)) := (blk_cell gb4 1).trans rfl
         have y2 : w4.cell? ⟨w3.heap.size, 2, none⟩ = some (.int .i64 (x.f2)) := (blk_cell gb4 2).trans rfl
         clear hb4 gb4
         go_wp2_with fail
         go_roundg (3 - (1 + 1))
         case measure => omega
         case rel => exact ⟨1 + 1, en, by go_num, rfl, by omega, by omega, HN2, HB4O⟩
       | true =>
        cases hp : rowU row ⟨x.f0, x.f1 - 1, x.f2⟩ with
        | false =>
         have HN2 := Hd.mk (show en = !hasTo U x (-1) (1 + 1) by
          rw [hasTo_no2 (show U (nb x (-1) 1) = false by rw [HU.out]; exact hp)]; exact HN.out)
         have hgood := fun W => good_any W (x.f0) (x.f1 - 1) (x.f2)
         rw [hv] at hgood
         have HV := Hd.mk hv
         clear hv
         have HPL := Hd.mk (fun W => place_run W (x.f0) (x.f1 - 1) (x.f2) HV.out)
         have pl := nth_pl (x := ⟨x.f0, x.f1 - 1, x.f2⟩) HV.out
         have hpl : plN ⟨x.f0, x.f1 - 1, x.f2⟩ < 1728 := pl.2
         clear pl
         obtain ⟨q, hq⟩ : ∃ q, plN ⟨x.f0, x.f1 - 1, x.f2⟩ = q := ⟨_, rfl⟩
         rw [hq] at HPL hpl
         have HQ := Hd.mk hq
         have hqz : (q : Int) < (row.length : Int) := by have := HLR.out; omega
         clear hq
         go_wp2_with fail
         refine (HNTH.out _).mono ?_
         rintro e w3 ⟨rfl, hb3⟩
         have BQ3 := Hd.mk (BQ.out.trans (hb3.mono BQ.out.size))
         have BQ3O := Hd.mk (BOQ.out.trans (hb3.mono BOQ.out.size))
         clear hb3
         go_wp2_with fail
         refine (hgood _).mono ?_
         rintro e w4 ⟨rfl, hb4⟩
         have HB4 := Hd.mk ((BQ3.out.alloc BQ3.out.size (.cells #[.int .i64 (x.f0), .int .i64 (x.f1 - 1), .int .i64 (x.f2)] 36)).trans (hb4.mono (by have := BQ3.out.size; simp; omega)))
         have HB4O := Hd.mk ((BQ3O.out.alloc BQ3O.out.size (.cells #[.int .i64 (x.f0), .int .i64 (x.f1 - 1), .int .i64 (x.f2)] 36)).trans (hb4.mono (by have := BQ3O.out.size; simp; omega)))
         have gb4 := (hb4.block w3.heap.size (by simp)).trans (blk_new w3 (.cells #[.int .i64 (x.f0), .int .i64 (x.f1 - 1), .int .i64 (x.f2)] 36))
         have y0 : w4.cell? ⟨w3.heap.size, 0, none⟩ = some (.int .i64 (x.f0)) := (blk_cell gb4 0).trans rfl
         have y1 : w4.cell? ⟨w3.heap.size, 1, none⟩ = some (.int .i64 (x.f1 - 1)) := (blk_cell gb4 1).trans rfl
         have y2 : w4.cell? ⟨w3.heap.size, 2, none⟩ = some (.int .i64 (x.f2)) := (blk_cell gb4 2).trans rfl
         clear hb4 gb4
         go_wp2_with fail
         refine (HPL.out _).mono ?_
         rintro e w5 ⟨rfl, hb5⟩
         have HB5 := Hd.mk (HB4.out.trans (hb5.mono HB4.out.size))
         have HB5O := Hd.mk (HB4O.out.trans (hb5.mono HB4O.out.size))
         clear hb5 y0 y1 y2
         obtain ⟨ad2, e2, r0⟩ := at_Bo (Kd.C_below HC.out HB5.out) q (by have := HLR.out; omega)
         obtain rfl := Option.some.inj e2
         have hu : rdOf false row (q : Int) = false := by rw [← HQ.out]; exact hp
         rw [hu] at r0
         clear hu hp
         go_wp2_with fail
         go_roundg (3 - (1 + 1))
         case measure => omega
         case rel => exact ⟨1 + 1, en, by go_num, rfl, by omega, by omega, HN2, HB5O⟩
        | true =>
         have HN2 := Hd.mk (show false = !hasTo U x (-1) (1 + 1) by
          rw [hasTo_yes (show gok (nb x (-1) 1) = true from hv) (show U (nb x (-1) 1) = true by rw [HU.out]; exact hp)]; rfl)
         have hgood := fun W => good_any W (x.f0) (x.f1 - 1) (x.f2)
         rw [hv] at hgood
         have HV := Hd.mk hv
         clear hv
         have HPL := Hd.mk (fun W => place_run W (x.f0) (x.f1 - 1) (x.f2) HV.out)
         have pl := nth_pl (x := ⟨x.f0, x.f1 - 1, x.f2⟩) HV.out
         have hpl : plN ⟨x.f0, x.f1 - 1, x.f2⟩ < 1728 := pl.2
         clear pl
         obtain ⟨q, hq⟩ : ∃ q, plN ⟨x.f0, x.f1 - 1, x.f2⟩ = q := ⟨_, rfl⟩
         rw [hq] at HPL hpl
         have HQ := Hd.mk hq
         have hqz : (q : Int) < (row.length : Int) := by have := HLR.out; omega
         clear hq
         go_wp2_with fail
         refine (HNTH.out _).mono ?_
         rintro e w3 ⟨rfl, hb3⟩
         have BQ3 := Hd.mk (BQ.out.trans (hb3.mono BQ.out.size))
         have BQ3O := Hd.mk (BOQ.out.trans (hb3.mono BOQ.out.size))
         clear hb3
         go_wp2_with fail
         refine (hgood _).mono ?_
         rintro e w4 ⟨rfl, hb4⟩
         have HB4 := Hd.mk ((BQ3.out.alloc BQ3.out.size (.cells #[.int .i64 (x.f0), .int .i64 (x.f1 - 1), .int .i64 (x.f2)] 36)).trans (hb4.mono (by have := BQ3.out.size; simp; omega)))
         have HB4O := Hd.mk ((BQ3O.out.alloc BQ3O.out.size (.cells #[.int .i64 (x.f0), .int .i64 (x.f1 - 1), .int .i64 (x.f2)] 36)).trans (hb4.mono (by have := BQ3O.out.size; simp; omega)))
         have gb4 := (hb4.block w3.heap.size (by simp)).trans (blk_new w3 (.cells #[.int .i64 (x.f0), .int .i64 (x.f1 - 1), .int .i64 (x.f2)] 36))
         have y0 : w4.cell? ⟨w3.heap.size, 0, none⟩ = some (.int .i64 (x.f0)) := (blk_cell gb4 0).trans rfl
         have y1 : w4.cell? ⟨w3.heap.size, 1, none⟩ = some (.int .i64 (x.f1 - 1)) := (blk_cell gb4 1).trans rfl
         have y2 : w4.cell? ⟨w3.heap.size, 2, none⟩ = some (.int .i64 (x.f2)) := (blk_cell gb4 2).trans rfl
         clear hb4 gb4
         go_wp2_with fail
         refine (HPL.out _).mono ?_
         rintro e w5 ⟨rfl, hb5⟩
         have HB5 := Hd.mk (HB4.out.trans (hb5.mono HB4.out.size))
         have HB5O := Hd.mk (HB4O.out.trans (hb5.mono HB4O.out.size))
         clear hb5 y0 y1 y2
         obtain ⟨ad2, e2, r0⟩ := at_Bo (Kd.C_below HC.out HB5.out) q (by have := HLR.out; omega)
         obtain rfl := Option.some.inj e2
         have hu : rdOf false row (q : Int) = true := by rw [← HQ.out]; exact hp
         rw [hu] at r0
         clear hu hp
         go_wp2_with fail
         go_roundg (3 - (1 + 1))
         case measure => omega
         case rel => exact ⟨1 + 1, false, by go_num, rfl, by omega, by omega, HN2, HB5O⟩
      ·cases hv : gokB (x.f0) (x.f1) (x.f2 - 1) with
       | false =>
         have HN2 := Hd.mk (show en = !hasTo U x (-1) (2 + 1) by
          rw [hasTo_no (show gok (nb x (-1) 2) = false from hv)]; exact HN.out)
         have hgood := fun W => good_any W (x.f0) (x.f1) (x.f2 - 1)
         rw [hv] at hgood
         clear hv
         go_wp2_with fail
         refine (HNTH.out _).mono ?_
         rintro e w3 ⟨rfl, hb3⟩
         have BQ3 := Hd.mk (BQ.out.trans (hb3.mono BQ.out.size))
         have BQ3O := Hd.mk (BOQ.out.trans (hb3.mono BOQ.out.size))
         clear hb3
         go_wp2_with fail
         refine (hgood _).mono ?_
         rintro e w4 ⟨rfl, hb4⟩
         have HB4 := Hd.mk ((BQ3.out.alloc BQ3.out.size (.cells #[.int .i64 (x.f0), .int .i64 (x.f1), .int .i64 (x.f2 - 1)] 36)).trans (hb4.mono (by have := BQ3.out.size; simp; omega)))
         have HB4O := Hd.mk ((BQ3O.out.alloc BQ3O.out.size (.cells #[.int .i64 (x.f0), .int .i64 (x.f1), .int .i64 (x.f2 - 1)] 36)).trans (hb4.mono (by have := BQ3O.out.size; simp; omega)))
         have gb4 := (hb4.block w3.heap.size (by simp)).trans (blk_new w3 (.cells #[.int .i64 (x.f0), .int .i64 (x.f1), .int .i64 (x.f2 - 1)] 36))
         have y0 : w4.cell? ⟨w3.heap.size, 0, none⟩ = some (.int .i64 (x.f0)) := (blk_cell gb4 0).trans rfl
         have y1 : w4.cell? ⟨w3.heap.size, 1, none⟩ = some (.int .i64 (x.f1)) := (blk_cell gb4 1).trans rfl
         have y2 : w4.cell? ⟨w3.heap.size, 2, none⟩ = some (.int .i64 (x.f2 - 1)) := (blk_cell gb4 2).trans rfl
         clear hb4 gb4
         go_wp2_with fail
         go_roundg (3 - (2 + 1))
         case measure => omega
         case rel => exact ⟨2 + 1, en, by go_num, rfl, by omega, by omega, HN2, HB4O⟩
       | true =>
        cases hp : rowU row ⟨x.f0, x.f1, x.f2 - 1⟩ with
        | false =>
         have HN2 := Hd.mk (show en = !hasTo U x (-1) (2 + 1) by
          rw [hasTo_no2 (show U (nb x (-1) 2) = false by rw [HU.out]; exact hp)]; exact HN.out)
         have hgood := fun W => good_any W (x.f0) (x.f1) (x.f2 - 1)
         rw [hv] at hgood
         have HV := Hd.mk hv
         clear hv
         have HPL := Hd.mk (fun W => place_run W (x.f0) (x.f1) (x.f2 - 1) HV.out)
         have pl := nth_pl (x := ⟨x.f0, x.f1, x.f2 - 1⟩) HV.out
         have hpl : plN ⟨x.f0, x.f1, x.f2 - 1⟩ < 1728 := pl.2
         clear pl
         obtain ⟨q, hq⟩ : ∃ q, plN ⟨x.f0, x.f1, x.f2 - 1⟩ = q := ⟨_, rfl⟩
         rw [hq] at HPL hpl
         have HQ := Hd.mk hq
         have hqz : (q : Int) < (row.length : Int) := by have := HLR.out; omega
         clear hq
         go_wp2_with fail
         refine (HNTH.out _).mono ?_
         rintro e w3 ⟨rfl, hb3⟩
         have BQ3 := Hd.mk (BQ.out.trans (hb3.mono BQ.out.size))
         have BQ3O := Hd.mk (BOQ.out.trans (hb3.mono BOQ.out.size))
         clear hb3
         go_wp2_with fail
         refine (hgood _).mono ?_
         rintro e w4 ⟨rfl, hb4⟩
         have HB4 := Hd.mk ((BQ3.out.alloc BQ3.out.size (.cells #[.int .i64 (x.f0), .int .i64 (x.f1), .int .i64 (x.f2 - 1)] 36)).trans (hb4.mono (by have := BQ3.out.size; simp; omega)))
         have HB4O := Hd.mk ((BQ3O.out.alloc BQ3O.out.size (.cells #[.int .i64 (x.f0), .int .i64 (x.f1), .int .i64 (x.f2 - 1)] 36)).trans (hb4.mono (by have := BQ3O.out.size; simp; omega)))
         have gb4 := (hb4.block w3.heap.size (by simp)).trans (blk_new w3 (.cells #[.int .i64 (x.f0), .int .i64 (x.f1), .int .i64 (x.f2 - 1)] 36))
         have y0 : w4.cell? ⟨w3.heap.size, 0, none⟩ = some (.int .i64 (x.f0)) := (blk_cell gb4 0).trans rfl
         have y1 : w4.cell? ⟨w3.heap.size, 1, none⟩ = some (.int .i64 (x.f1)) := (blk_cell gb4 1).trans rfl
         have y2 : w4.cell? ⟨w3.heap.size, 2, none⟩ = some (.int .i64 (x.f2 - 1)) := (blk_cell gb4 2).trans rfl
         clear hb4 gb4
         go_wp2_with fail
         refine (HPL.out _).mono ?_
         rintro e w5 ⟨rfl, hb5⟩
         have HB5 := Hd.mk (HB4.out.trans (hb5.mono HB4.out.size))
         have HB5O := Hd.mk (HB4O.out.trans (hb5.mono HB4O.out.size))
         clear hb5 y0 y1 y2
         obtain ⟨ad2, e2, r0⟩ := at_Bo (Kd.C_below HC.out HB5.out) q (by have := HLR.out; omega)
         obtain rfl := Option.some.inj e2
         have hu : rdOf false row (q : Int) = false := by rw [← HQ.out]; exact hp
         rw [hu] at r0
         clear hu hp
         go_wp2_with fail
         go_roundg (3 - (2 + 1))
         case measure => omega
         case rel => exact ⟨2 + 1, en, by go_num, rfl, by omega, by omega, HN2, HB5O⟩
        | true =>
         have HN2 := Hd.mk (show false = !hasTo U x (-1) (2 + 1) by
          rw [hasTo_yes (show gok (nb x (-1) 2) = true from hv) (show U (nb x (-1) 2) = true by rw [HU.out]; exact hp)]; rfl)
         have hgood := fun W => good_any W (x.f0) (x.f1) (x.f2 - 1)
         rw [hv] at hgood
         have HV := Hd.mk hv
         clear hv
         have HPL := Hd.mk (fun W => place_run W (x.f0) (x.f1) (x.f2 - 1) HV.out)
         have pl := nth_pl (x := ⟨x.f0, x.f1, x.f2 - 1⟩) HV.out
         have hpl : plN ⟨x.f0, x.f1, x.f2 - 1⟩ < 1728 := pl.2
         clear pl
         obtain ⟨q, hq⟩ : ∃ q, plN ⟨x.f0, x.f1, x.f2 - 1⟩ = q := ⟨_, rfl⟩
         rw [hq] at HPL hpl
         have HQ := Hd.mk hq
         have hqz : (q : Int) < (row.length : Int) := by have := HLR.out; omega
         clear hq
         go_wp2_with fail
         refine (HNTH.out _).mono ?_
         rintro e w3 ⟨rfl, hb3⟩
         have BQ3 := Hd.mk (BQ.out.trans (hb3.mono BQ.out.size))
         have BQ3O := Hd.mk (BOQ.out.trans (hb3.mono BOQ.out.size))
         clear hb3
         go_wp2_with fail
         refine (hgood _).mono ?_
         rintro e w4 ⟨rfl, hb4⟩
         have HB4 := Hd.mk ((BQ3.out.alloc BQ3.out.size (.cells #[.int .i64 (x.f0), .int .i64 (x.f1), .int .i64 (x.f2 - 1)] 36)).trans (hb4.mono (by have := BQ3.out.size; simp; omega)))
         have HB4O := Hd.mk ((BQ3O.out.alloc BQ3O.out.size (.cells #[.int .i64 (x.f0), .int .i64 (x.f1), .int .i64 (x.f2 - 1)] 36)).trans (hb4.mono (by have := BQ3O.out.size; simp; omega)))
         have gb4 := (hb4.block w3.heap.size (by simp)).trans (blk_new w3 (.cells #[.int .i64 (x.f0), .int .i64 (x.f1), .int .i64 (x.f2 - 1)] 36))
         have y0 : w4.cell? ⟨w3.heap.size, 0, none⟩ = some (.int .i64 (x.f0)) := (blk_cell gb4 0).trans rfl
         have y1 : w4.cell? ⟨w3.heap.size, 1, none⟩ = some (.int .i64 (x.f1)) := (blk_cell gb4 1).trans rfl
         have y2 : w4.cell? ⟨w3.heap.size, 2, none⟩ = some (.int .i64 (x.f2 - 1)) := (blk_cell gb4 2).trans rfl
         clear hb4 gb4
         go_wp2_with fail
         refine (HPL.out _).mono ?_
         rintro e w5 ⟨rfl, hb5⟩
         have HB5 := Hd.mk (HB4.out.trans (hb5.mono HB4.out.size))
         have HB5O := Hd.mk (HB4O.out.trans (hb5.mono HB4O.out.size))
         clear hb5 y0 y1 y2
         obtain ⟨ad2, e2, r0⟩ := at_Bo (Kd.C_below HC.out HB5.out) q (by have := HLR.out; omega)
         obtain rfl := Option.some.inj e2
         have hu : rdOf false row (q : Int) = true := by rw [← HQ.out]; exact hp
         rw [hu] at r0
         clear hu hp
         go_wp2_with fail
         go_roundg (3 - (2 + 1))
         case measure => omega
         case rel => exact ⟨2 + 1, false, by go_num, rfl, by omega, by omega, HN2, HB5O⟩
     ·obtain rfl : i = 3 := by omega
      have HNB := Hd.mk (show en = !hasNb U (-1) x by rw [← hasTo_3]; exact HN.out)
      cases en with
      | false =>
       go_wp2_with fail
       go_roundg (1728 - (j + 1))
       case measure => omega
       case rel => exact ⟨j + 1, xs, by go_num, by omega, by omega, ⟨by rw [HXS.out, SN.out, HUX.out, ← HNB.out]; simp⟩, BQ, ⟨Kd.R_below HR.out BOQ.out⟩⟩
      | true =>
       have HLN := Hd.mk (show xs.length ≤ 1728 by
        rw [HXS.out]
        exact Nat.le_trans (List.length_filter_le _ _) (by simp; omega))
       go_wp2_with fail
       refine (HNTH.out _).mono ?_
       rintro e w3 ⟨rfl, hb3⟩
       have BQ3 := Hd.mk (BQ.out.trans (hb3.mono BQ.out.size))
       have R3 := Hd.mk (Kd.R_below (Kd.R_below HR.out BOQ.out) hb3)
       clear hb3
       go_wp2_with (((with_reducible refine gate_builtin (b := .append) (xs := #[.tmp 46, .tmp 49]) rfl ?_); at_builtin; refine Kd.R_append k36 (w0 := w) w.heap.size rfl (.tmp 46) (.tmp 49) 41 36 (.agg #[(.int .i64 0), (.int .i64 0), (.int .i64 0)]) 24 rfl Try.underlying41 info36 rfl (by decide) (by omega) u5 _ x [.int .i64 x.f0, .int .i64 x.f1, .int .i64 x.f2] (fun _ => True) (fun _ => False) rfl rfl ?aP (fun _ hk => hk.elim) (fun _ _ => trivial) R3.out BQ3.out ?aS ?aL ?_; (case aP => exact k36_mkM _ _ _ x); (case aS => exact BQ3.out.size); (case aL => have := HLN.out; omega); intro v5 w5 ho hb hg2 hat; have HO5 := Hd.mk ho; have HB5 := Hd.mk hb; clear ho hb hg2 hat))
       go_roundg (1728 - (j + 1))
       case measure => omega
       case rel => exact ⟨j + 1, _, by go_num, by omega, by omega, ⟨by rw [HXS.out, SN.out, HUX.out, ← HNB.out]; simp⟩, HB5, HO5⟩
  ·have hltz : ¬ (j : Int) < 1728 := by omega
   obtain rfl : j = 1728 := by omega
   go_wp2_with fail
   go_ret
   exact ⟨_, rfl, by rw [← HXS.out]; exact HR.out, BW.out⟩
end Go.Proofs.Ytnbdfmdjedakcaa
