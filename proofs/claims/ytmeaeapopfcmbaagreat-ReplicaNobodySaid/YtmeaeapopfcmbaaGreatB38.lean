/- ReplicaNobody's walk: every method of no replica. No conditions. -/
import Derived.Test.YtmeaeapopfcmbaaGreatG6
import Derived.Test.YtmeaeapopfcmbaaGreatQ22
namespace Go.Proofs.YtmeaeapopfcmbaaGreat
open Go.RowKit Go.Proofs.YtmeaeapopfcmbaaGreatW.PrintWords Go.Proofs.YtmeaeapopfcmbaaGreatW.PrintLast Go.Proofs.YtmeaeapopfcmbaaGreatW.PrintMore PP
set_option linter.unusedVariables false
set_option linter.unusedSimpArgs false
set_option maxHeartbeats 4000000
set_option maxRecDepth 100000
theorem same_none (W : World) : Calls Tryz.prog 22 #[.agg #[.slice none 0 0, .slice none 0 0, .slice none 0 0, .slice none 0 0, .slice none 0 0], .agg #[.slice none 0 0, .slice none 0 0, .slice none 0 0, .slice none 0 0, .slice none 0 0]] W fun e w' => e = .returned (.bool true) ∧ Below W.heap.size W w' :=
  kimberliteref08_Same.calls 9 none 0 [] none 0 [] none 0 [] none 0 [] none 0 [] none 0 [] none 0 [] none 0 [] none 0 [] none 0 [] true W (Kd.R_reads' (Kd.R_nil (Kd.int .i64) 3 W 0 (fun _ => True))).2.2 (Nat.le_refl _) (Kd.R_reads' (Kd.R_nil k99 99 W 0 (fun _ => True))).2.2 (Nat.le_refl _) (Kd.R_reads' (Kd.R_nil k102 102 W 0 (fun _ => True))).2.2 (Nat.le_refl _) (Kd.R_reads' (Kd.R_nil k108 108 W 0 (fun _ => True))).2.2 (Nat.le_refl _) (Kd.R_reads' (Kd.R_nil k111 111 W 0 (fun _ => True))).2.2 (Nat.le_refl _) (Kd.R_reads' (Kd.R_nil (Kd.int .i64) 3 W 0 (fun _ => True))).2.2 (Nat.le_refl _) (Kd.R_reads' (Kd.R_nil k99 99 W 0 (fun _ => True))).2.2 (Nat.le_refl _) (Kd.R_reads' (Kd.R_nil k102 102 W 0 (fun _ => True))).2.2 (Nat.le_refl _) (Kd.R_reads' (Kd.R_nil k108 108 W 0 (fun _ => True))).2.2 (Nat.le_refl _) (Kd.R_reads' (Kd.R_nil k111 111 W 0 (fun _ => True))).2.2 (Nat.le_refl _) (by rfl)
theorem nobody_run (w : World) (kd n tg am : Int) (tx : ByteArray) (A0 A1 A2 A3 A4 : Option Addr) (n0 n1 n2 n3 n4 c0 c1 c2 c3 c4 : Nat) (plain : Bool) :
    Calls Tryz.prog 11 #[.agg #[.int .u8 kd, .int .i64 n, .int .i64 tg, .string tx, .int .i64 am, .slice A0 n0 c0, .slice A1 n1 c1, .slice A2 n2 c2, .slice A3 n3 c3, .slice A4 n4 c4], .bool plain] w fun e w' => e = .returned (.bool true) ∧ Below w.heap.size w w' := by
  obtain ⟨wB, hwB⟩ : ∃ wB, wB = w.alloc (.cells #[.int .u8 kd, .int .i64 n, .int .i64 tg, .string tx, .int .i64 am, .slice A0 n0 c0, .slice A1 n1 c1, .slice A2 n2 c2, .slice A3 n3 c3, .slice A4 n4 c4] 59) := ⟨_, rfl⟩
  have BB := Hd.mk (show Below w.heap.size w wB by rw [hwB]; exact below_alloc (Below.refl _ _) _)
  have XB := Hd.mk (show wB.heap[w.heap.size]? = some (Obj.cells #[.int .u8 kd, .int .i64 n, .int .i64 tg, .string tx, .int .i64 am, .slice A0 n0 c0, .slice A1 n1 c1, .slice A2 n2 c2, .slice A3 n3 c3, .slice A4 n4 c4] 59 (0, 0)) by rw [hwB]; exact alloc_at _ _ _ rfl)
  have BX := Hd.mk (fun W (hb : Below wB.heap.size wB W) => (hb.block _ (Array.getElem?_eq_some_iff.1 XB.out).1).trans XB.out)
  have LB := Hd.mk (fun W (hb : Below wB.heap.size wB W) => BB.out.trans (hb.mono BB.out.size))
  have N1 := Hd.mk (fun W p (h : NoRep W p) => drop_no W p h n tx)
  have N2 := Hd.mk (fun W p (h : NoRep W p) => has_no W p h n)
  have N3 := Hd.mk (fun W p (h : NoRep W p) => readn_no W p h n)
  have N4 := Hd.mk (fun W p (h : NoRep W p) => free_no W p h n)
  have N5 := Hd.mk (fun W p (h : NoRep W p) => left_no W p h n)
  have N6 := Hd.mk (fun W p (h : NoRep W p) => state_no W p h)
  have N7 := Hd.mk same_none
  have N8 := Hd.mk (fun W p (h : NoRep W p) => copy_no W p h)
  have N9 := Hd.mk (fun W p (h : NoRep W p) => put_no W p h n tx)
  have M1 := Hd.mk (fun W p (h : NoRep W p) => write_no W p h n tx)
  have M2 := Hd.mk (fun W p (h : NoRep W p) => make_no W p h n am)
  have M3 := Hd.mk (fun W p (h : NoRep W p) => give_no W p h n tg am)
  have M4 := Hd.mk (fun W p (h : NoRep W p) => take_no W p h n am)
  have M5 := Hd.mk (fun W p (h : NoRep W p) => sync_no W p h A0 A1 A2 A3 A4 n0 n1 n2 n3 n4 c0 c1 c2 c3 c4)
  have M6 := Hd.mk alive_run
  go_enter Tryz.func11, Tryz.ntmps11
  cases plain with
  | false =>
    have NR := Hd.mk (show NoRep wB none from .inl rfl)
    have BQ := Hd.mk (Below.refl wB.heap.size wB)
    have z1 := cell_of (BX.out _ BQ.out) 1 rfl
    have z3 := cell_of (BX.out _ BQ.out) 3 rfl
    subst hwB
    go_wp2_with fail
    refine (N1.out _ _ NR.out).mono ?_
    rintro e x0 ⟨rfl, hb⟩
    have NR' := Hd.mk (NR.out.below hb)
    have BQ' := Hd.mk (BQ.out.trans (hb.mono BQ.out.size))
    clear hb NR BQ z1 z3
    have NR := NR'
    have BQ := BQ'
    clear NR' BQ'
    have z1 := cell_of (BX.out _ BQ.out) 1 rfl
    go_wp2_with fail
    refine (N2.out _ _ NR.out).mono ?_
    rintro e x1 ⟨rfl, hb⟩
    have NR' := Hd.mk (NR.out.below hb)
    have BQ' := Hd.mk (BQ.out.trans (hb.mono BQ.out.size))
    clear hb NR BQ z1
    have NR := NR'
    have BQ := BQ'
    clear NR' BQ'
    have z1 := cell_of (BX.out _ BQ.out) 1 rfl
    go_wp2_with fail
    refine (N3.out _ _ NR.out).mono ?_
    rintro e x2 ⟨rfl, hb⟩
    have NR' := Hd.mk (NR.out.below hb)
    have BQ' := Hd.mk (BQ.out.trans (hb.mono BQ.out.size))
    clear hb NR BQ z1
    have NR := NR'
    have BQ := BQ'
    clear NR' BQ'
    have z1 := cell_of (BX.out _ BQ.out) 1 rfl
    go_wp2_with fail
    refine (N4.out _ _ NR.out).mono ?_
    rintro e x3 ⟨rfl, hb⟩
    have NR' := Hd.mk (NR.out.below hb)
    have BQ' := Hd.mk (BQ.out.trans (hb.mono BQ.out.size))
    clear hb NR BQ z1
    have NR := NR'
    have BQ := BQ'
    clear NR' BQ'
    have z1 := cell_of (BX.out _ BQ.out) 1 rfl
    go_wp2_with fail
    refine (N5.out _ _ NR.out).mono ?_
    rintro e x4 ⟨rfl, hb⟩
    have NR' := Hd.mk (NR.out.below hb)
    have BQ' := Hd.mk (BQ.out.trans (hb.mono BQ.out.size))
    clear hb NR BQ z1
    have NR := NR'
    have BQ := BQ'
    clear NR' BQ'
    go_wp2_with fail
    refine (N6.out _ _ NR.out).mono ?_
    rintro e x5 ⟨rfl, hb⟩
    have NR' := Hd.mk (NR.out.below hb)
    have BQ' := Hd.mk (BQ.out.trans (hb.mono BQ.out.size))
    clear hb NR BQ
    have NR := NR'
    have BQ := BQ'
    clear NR' BQ'
    go_wp2_with fail
    refine (N7.out _).mono ?_
    rintro e x6 ⟨rfl, hb⟩
    have NR' := Hd.mk (NR.out.below hb)
    have BQ' := Hd.mk (BQ.out.trans (hb.mono BQ.out.size))
    clear hb NR BQ
    have NR := NR'
    have BQ := BQ'
    clear NR' BQ'
    go_wp2_with fail
    refine (N8.out _ _ NR.out).mono ?_
    rintro e x7 ⟨rfl, hb⟩
    have NR' := Hd.mk (NR.out.below hb)
    have BQ' := Hd.mk (BQ.out.trans (hb.mono BQ.out.size))
    clear hb NR BQ
    have NR := NR'
    have BQ := BQ'
    clear NR' BQ'
    have z1 := cell_of (BX.out _ BQ.out) 1 rfl
    have z3 := cell_of (BX.out _ BQ.out) 3 rfl
    go_wp2_with fail
    refine (N9.out _ _ NR.out).mono ?_
    rintro e x8 ⟨rfl, hb⟩
    have NR' := Hd.mk (NR.out.below hb)
    have BQ' := Hd.mk (BQ.out.trans (hb.mono BQ.out.size))
    clear hb NR BQ z1 z3
    have NR := NR'
    have BQ := BQ'
    clear NR' BQ'
    have z1 := cell_of (BX.out _ BQ.out) 1 rfl
    have z3 := cell_of (BX.out _ BQ.out) 3 rfl
    go_wp2_with fail
    refine (M1.out _ _ NR.out).mono ?_
    rintro e x9 ⟨rfl, hb⟩
    have NR' := Hd.mk (NR.out.below hb)
    have BQ' := Hd.mk (BQ.out.trans (hb.mono BQ.out.size))
    clear hb NR BQ z1 z3
    have NR := NR'
    have BQ := BQ'
    clear NR' BQ'
    have z1 := cell_of (BX.out _ BQ.out) 1 rfl
    have z4 := cell_of (BX.out _ BQ.out) 4 rfl
    go_wp2_with fail
    refine (M2.out _ _ NR.out).mono ?_
    rintro e x10 ⟨rfl, hb⟩
    have NR' := Hd.mk (NR.out.below hb)
    have BQ' := Hd.mk (BQ.out.trans (hb.mono BQ.out.size))
    clear hb NR BQ z1 z4
    have NR := NR'
    have BQ := BQ'
    clear NR' BQ'
    have z1 := cell_of (BX.out _ BQ.out) 1 rfl
    have z2 := cell_of (BX.out _ BQ.out) 2 rfl
    have z4 := cell_of (BX.out _ BQ.out) 4 rfl
    go_wp2_with fail
    refine (M3.out _ _ NR.out).mono ?_
    rintro e x11 ⟨rfl, hb⟩
    have NR' := Hd.mk (NR.out.below hb)
    have BQ' := Hd.mk (BQ.out.trans (hb.mono BQ.out.size))
    clear hb NR BQ z1 z2 z4
    have NR := NR'
    have BQ := BQ'
    clear NR' BQ'
    have z1 := cell_of (BX.out _ BQ.out) 1 rfl
    have z4 := cell_of (BX.out _ BQ.out) 4 rfl
    go_wp2_with fail
    refine (M4.out _ _ NR.out).mono ?_
    rintro e x12 ⟨rfl, hb⟩
    have NR' := Hd.mk (NR.out.below hb)
    have BQ' := Hd.mk (BQ.out.trans (hb.mono BQ.out.size))
    clear hb NR BQ z1 z4
    have NR := NR'
    have BQ := BQ'
    clear NR' BQ'
    have z5 := cell_of (BX.out _ BQ.out) 5 rfl
    have z6 := cell_of (BX.out _ BQ.out) 6 rfl
    have z7 := cell_of (BX.out _ BQ.out) 7 rfl
    have z8 := cell_of (BX.out _ BQ.out) 8 rfl
    have z9 := cell_of (BX.out _ BQ.out) 9 rfl
    go_wp2_with fail
    refine (M5.out _ _ NR.out).mono ?_
    rintro e x13 ⟨rfl, hb⟩
    have NR' := Hd.mk (NR.out.below hb)
    have BQ' := Hd.mk (BQ.out.trans (hb.mono BQ.out.size))
    clear hb NR BQ z5 z6 z7 z8 z9
    have NR := NR'
    have BQ := BQ'
    clear NR' BQ'
    go_wp2_with fail
    refine (M6.out _).mono ?_
    rintro e x14 ⟨rfl, hb⟩
    have NR' := Hd.mk (NR.out.below hb)
    have BQ' := Hd.mk (BQ.out.trans (hb.mono BQ.out.size))
    clear hb NR BQ
    have NR := NR'
    have BQ := BQ'
    clear NR' BQ'
    go_wp2_with fail
    go_ret
    exact ⟨rfl, LB.out _ BQ.out⟩
  | true =>
    have NR := Hd.mk (show NoRep (wB.alloc (.cells #[.int .i64 0, .pointer none] 86)) (some ⟨w.heap.size + 1, 0, none⟩) from .inr ⟨w.heap.size + 1, 0, rfl, alloc_at _ _ _ (by rw [hwB]; simp)⟩)
    have BQ := Hd.mk (show Below wB.heap.size wB (wB.alloc (.cells #[.int .i64 0, .pointer none] 86)) from below_alloc (Below.refl _ _) _)
    have z1 := cell_of (BX.out _ BQ.out) 1 rfl
    have z3 := cell_of (BX.out _ BQ.out) 3 rfl
    subst hwB
    go_wp2_with fail
    refine (N1.out _ _ NR.out).mono ?_
    rintro e x0 ⟨rfl, hb⟩
    have NR' := Hd.mk (NR.out.below hb)
    have BQ' := Hd.mk (BQ.out.trans (hb.mono BQ.out.size))
    clear hb NR BQ z1 z3
    have NR := NR'
    have BQ := BQ'
    clear NR' BQ'
    have z1 := cell_of (BX.out _ BQ.out) 1 rfl
    go_wp2_with fail
    refine (N2.out _ _ NR.out).mono ?_
    rintro e x1 ⟨rfl, hb⟩
    have NR' := Hd.mk (NR.out.below hb)
    have BQ' := Hd.mk (BQ.out.trans (hb.mono BQ.out.size))
    clear hb NR BQ z1
    have NR := NR'
    have BQ := BQ'
    clear NR' BQ'
    have z1 := cell_of (BX.out _ BQ.out) 1 rfl
    go_wp2_with fail
    refine (N3.out _ _ NR.out).mono ?_
    rintro e x2 ⟨rfl, hb⟩
    have NR' := Hd.mk (NR.out.below hb)
    have BQ' := Hd.mk (BQ.out.trans (hb.mono BQ.out.size))
    clear hb NR BQ z1
    have NR := NR'
    have BQ := BQ'
    clear NR' BQ'
    have z1 := cell_of (BX.out _ BQ.out) 1 rfl
    go_wp2_with fail
    refine (N4.out _ _ NR.out).mono ?_
    rintro e x3 ⟨rfl, hb⟩
    have NR' := Hd.mk (NR.out.below hb)
    have BQ' := Hd.mk (BQ.out.trans (hb.mono BQ.out.size))
    clear hb NR BQ z1
    have NR := NR'
    have BQ := BQ'
    clear NR' BQ'
    have z1 := cell_of (BX.out _ BQ.out) 1 rfl
    go_wp2_with fail
    refine (N5.out _ _ NR.out).mono ?_
    rintro e x4 ⟨rfl, hb⟩
    have NR' := Hd.mk (NR.out.below hb)
    have BQ' := Hd.mk (BQ.out.trans (hb.mono BQ.out.size))
    clear hb NR BQ z1
    have NR := NR'
    have BQ := BQ'
    clear NR' BQ'
    go_wp2_with fail
    refine (N6.out _ _ NR.out).mono ?_
    rintro e x5 ⟨rfl, hb⟩
    have NR' := Hd.mk (NR.out.below hb)
    have BQ' := Hd.mk (BQ.out.trans (hb.mono BQ.out.size))
    clear hb NR BQ
    have NR := NR'
    have BQ := BQ'
    clear NR' BQ'
    go_wp2_with fail
    refine (N7.out _).mono ?_
    rintro e x6 ⟨rfl, hb⟩
    have NR' := Hd.mk (NR.out.below hb)
    have BQ' := Hd.mk (BQ.out.trans (hb.mono BQ.out.size))
    clear hb NR BQ
    have NR := NR'
    have BQ := BQ'
    clear NR' BQ'
    go_wp2_with fail
    refine (N8.out _ _ NR.out).mono ?_
    rintro e x7 ⟨rfl, hb⟩
    have NR' := Hd.mk (NR.out.below hb)
    have BQ' := Hd.mk (BQ.out.trans (hb.mono BQ.out.size))
    clear hb NR BQ
    have NR := NR'
    have BQ := BQ'
    clear NR' BQ'
    have z1 := cell_of (BX.out _ BQ.out) 1 rfl
    have z3 := cell_of (BX.out _ BQ.out) 3 rfl
    go_wp2_with fail
    refine (N9.out _ _ NR.out).mono ?_
    rintro e x8 ⟨rfl, hb⟩
    have NR' := Hd.mk (NR.out.below hb)
    have BQ' := Hd.mk (BQ.out.trans (hb.mono BQ.out.size))
    clear hb NR BQ z1 z3
    have NR := NR'
    have BQ := BQ'
    clear NR' BQ'
    have z1 := cell_of (BX.out _ BQ.out) 1 rfl
    have z3 := cell_of (BX.out _ BQ.out) 3 rfl
    go_wp2_with fail
    refine (M1.out _ _ NR.out).mono ?_
    rintro e x9 ⟨rfl, hb⟩
    have NR' := Hd.mk (NR.out.below hb)
    have BQ' := Hd.mk (BQ.out.trans (hb.mono BQ.out.size))
    clear hb NR BQ z1 z3
    have NR := NR'
    have BQ := BQ'
    clear NR' BQ'
    have z1 := cell_of (BX.out _ BQ.out) 1 rfl
    have z4 := cell_of (BX.out _ BQ.out) 4 rfl
    go_wp2_with fail
    refine (M2.out _ _ NR.out).mono ?_
    rintro e x10 ⟨rfl, hb⟩
    have NR' := Hd.mk (NR.out.below hb)
    have BQ' := Hd.mk (BQ.out.trans (hb.mono BQ.out.size))
    clear hb NR BQ z1 z4
    have NR := NR'
    have BQ := BQ'
    clear NR' BQ'
    have z1 := cell_of (BX.out _ BQ.out) 1 rfl
    have z2 := cell_of (BX.out _ BQ.out) 2 rfl
    have z4 := cell_of (BX.out _ BQ.out) 4 rfl
    go_wp2_with fail
    refine (M3.out _ _ NR.out).mono ?_
    rintro e x11 ⟨rfl, hb⟩
    have NR' := Hd.mk (NR.out.below hb)
    have BQ' := Hd.mk (BQ.out.trans (hb.mono BQ.out.size))
    clear hb NR BQ z1 z2 z4
    have NR := NR'
    have BQ := BQ'
    clear NR' BQ'
    have z1 := cell_of (BX.out _ BQ.out) 1 rfl
    have z4 := cell_of (BX.out _ BQ.out) 4 rfl
    go_wp2_with fail
    refine (M4.out _ _ NR.out).mono ?_
    rintro e x12 ⟨rfl, hb⟩
    have NR' := Hd.mk (NR.out.below hb)
    have BQ' := Hd.mk (BQ.out.trans (hb.mono BQ.out.size))
    clear hb NR BQ z1 z4
    have NR := NR'
    have BQ := BQ'
    clear NR' BQ'
    have z5 := cell_of (BX.out _ BQ.out) 5 rfl
    have z6 := cell_of (BX.out _ BQ.out) 6 rfl
    have z7 := cell_of (BX.out _ BQ.out) 7 rfl
    have z8 := cell_of (BX.out _ BQ.out) 8 rfl
    have z9 := cell_of (BX.out _ BQ.out) 9 rfl
    go_wp2_with fail
    refine (M5.out _ _ NR.out).mono ?_
    rintro e x13 ⟨rfl, hb⟩
    have NR' := Hd.mk (NR.out.below hb)
    have BQ' := Hd.mk (BQ.out.trans (hb.mono BQ.out.size))
    clear hb NR BQ z5 z6 z7 z8 z9
    have NR := NR'
    have BQ := BQ'
    clear NR' BQ'
    go_wp2_with fail
    refine (M6.out _).mono ?_
    rintro e x14 ⟨rfl, hb⟩
    have NR' := Hd.mk (NR.out.below hb)
    have BQ' := Hd.mk (BQ.out.trans (hb.mono BQ.out.size))
    clear hb NR BQ
    have NR := NR'
    have BQ := BQ'
    clear NR' BQ'
    go_wp2_with fail
    go_ret
    exact ⟨rfl, LB.out _ BQ.out⟩
end Go.Proofs.YtmeaeapopfcmbaaGreat
