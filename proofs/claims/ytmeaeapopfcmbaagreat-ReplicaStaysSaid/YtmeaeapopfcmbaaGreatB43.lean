/- Covers. No conditions. -/
import Derived.Test.YtmeaeapopfcmbaaGreatB40
import Derived.Test.YtmeaeapopfcmbaaGreatB42
import Derived.Test.YtmeaeapopfcmbaaGreatP8
namespace Go.Proofs.YtmeaeapopfcmbaaGreat
open Go.RowKit Go.Proofs.YtmeaeapopfcmbaaGreatW.PrintWords Go.Proofs.YtmeaeapopfcmbaaGreatW.PrintLast Go.Proofs.YtmeaeapopfcmbaaGreatW.PrintMore PP
set_option linter.unusedVariables false
set_option linter.unusedSimpArgs false
set_option maxHeartbeats 4000000
set_option maxRecDepth 100000
open Classical in
theorem know_iff {M A : S28} (hM : Rt M) (hA : Rt A) : sameB M.f0 (tagsP M) (notesP M) (waysP M) A.f0 (tagsP A) (notesP A) (waysP A) = decide (M = A) := by
  rw [Bool.eq_iff_iff]
  simp only [sameB, Bool.and_eq_true, decide_eq_true_eq, eqM_iff]
  constructor
  · rintro ⟨h0, h1, h2, h3⟩
    exact rt_ext hM hA h0 h1 h2 h3
  · rintro rfl
    exact ⟨rfl, fun _ => rfl, fun _ => rfl, fun _ => rfl⟩
open Classical in
/-- Does A know all that B knows? -/
noncomputable def covB (A B : S28) : Bool := decide (bothE A B = 0 ∧ aMerge A B = A)
open Classical in
theorem covB_0 {A B : S28} (h : bothE A B = 0) : covB A B = decide (aMerge A B = A) := by
  unfold covB
  rw [Bool.eq_iff_iff, decide_eq_true_eq, decide_eq_true_eq]
  exact ⟨fun g => g.2, fun g => ⟨h, g⟩⟩
open Classical in
theorem Covers_run (w : World) (A0 A1 A2 A3 A4 : Option Addr) (c0 c1 c2 c3 c4 : Nat) (A : S28) (hA : StC w A0 c0 A1 c1 A2 c2 A3 c3 A4 c4 A) (okA : StOk A) (B0 B1 B2 B3 B4 : Option Addr) (d0 d1 d2 d3 d4 : Nat) (B : S28) (hB : StC w B0 d0 B1 d1 B2 d2 B3 d3 B4 d4 B) (okB : StOk B) :
    Calls Tryz.prog 39 #[stV A A0 c0 A1 c1 A2 c2 A3 c3 A4 c4, stV B B0 d0 B1 d1 B2 d2 B3 d3 B4 d4] w fun e w' => e = .returned (.tuple #[.bool (covB A B), .int .i64 (bothE A B)]) ∧ Below w.heap.size w w' := by
  obtain ⟨wB, hwB⟩ : ∃ wB, wB = (w.alloc (.cells #[.slice A0 A.f0.length c0, .slice A1 A.f1.length c1, .slice A2 A.f2.length c2, .slice A3 A.f3.length c3, .slice A4 A.f4.length c4] 28)).alloc (.cells #[.slice B0 B.f0.length d0, .slice B1 B.f1.length d1, .slice B2 B.f2.length d2, .slice B3 B.f3.length d3, .slice B4 B.f4.length d4] 28) := ⟨_, rfl⟩
  have BB := Hd.mk (show Below w.heap.size w wB by rw [hwB]; exact below_alloc (below_alloc (Below.refl _ _) _) _)
  have RA := Hd.mk (show wB.heap[w.heap.size]? = some (Obj.cells #[.slice A0 A.f0.length c0, .slice A1 A.f1.length c1, .slice A2 A.f2.length c2, .slice A3 A.f3.length c3, .slice A4 A.f4.length c4] 28 (0, 0)) by rw [hwB]; exact ((below_alloc (Below.refl (w.alloc (.cells #[.slice A0 A.f0.length c0, .slice A1 A.f1.length c1, .slice A2 A.f2.length c2, .slice A3 A.f3.length c3, .slice A4 A.f4.length c4] 28)).heap.size _) _).block _ (by simp)).trans (alloc_at _ _ _ rfl))
  have BT := Hd.mk (both_run wB A0 A1 A2 A3 A4 c0 c1 c2 c3 c4 A (hA.below BB.out) okA B0 B1 B2 B3 B4 d0 d1 d2 d3 d4 B (hB.below BB.out) okB)
  have R1 := Hd.mk (fun W (hb : Below w.heap.size w W) => read_rt W A0 A1 A2 A3 A4 c0 c1 c2 c3 c4 A (hA.below hb) okA)
  have ER := Hd.mk (show bothE A B ≠ 0 → covB A B = false from fun h => by unfold covB; exact decide_eq_false fun g => h g.1)
  have EQ := Hd.mk (show bothE A B = 0 → covB A B = sameB (aMerge A B).f0 (tagsP (aMerge A B)) (notesP (aMerge A B)) (waysP (aMerge A B)) A.f0 (tagsP A) (notesP A) (waysP A) from fun h => by rw [covB_0 h, know_iff (aMerge_rt (bothE_0 h).1 (bothE_0 h).2.1 (bothE_0 h).2.2) (bothE_0 h).1])
  have RT := Hd.mk (show bothE A B = 0 → rtB A = true from fun h => rtB_iff.2 (bothE_0 h).1)
  clear hA hB okA okB
  generalize bothE A B = v at *
  generalize covB A B = cv at *
  generalize aMerge A B = M at *
  have HW := Hd.mk hwB
  clear hwB
  unfold stV at *
  go_enter Tryz.func39, Tryz.ntmps39
  go_wp2_with fail
  rw [← HW.out]
  refine BT.out.mono ?_
  rintro e w1 ⟨p, rfl, hp0, hp1, hb⟩
  have P0 := Hd.mk hp0
  have P1 := Hd.mk hp1
  have B1 := Hd.mk (BB.out.trans (hb.mono BB.out.size))
  have RB1 := Hd.mk ((hb.block _ (Array.getElem?_eq_some_iff.1 RA.out).1).trans RA.out)
  clear hp0 hp1 hb BT
  by_cases hv : v = 0
  · subst hv
    obtain ⟨k, mt, mn, mw, rfl, hn⟩ := P1.out rfl
    have ER1 := Hd.mk (R1.out w1 B1.out)
    have RT1 := Hd.mk (RT.out rfl)
    have EQ1 := Hd.mk (EQ.out rfl)
    have KN := Hd.mk hn
    rw [RT1.out] at ER1
    clear hn P0 P1 R1 RT EQ ER
    have s0 := cell_of RB1.out 0 rfl
    have s1 := cell_of RB1.out 1 rfl
    have s2 := cell_of RB1.out 2 rfl
    have s3 := cell_of RB1.out 3 rfl
    have s4 := cell_of RB1.out 4 rfl
    go_wp2_with fail
    refine ER1.out.mono ?_
    rintro e w2 ⟨p2, rfl, hk, hb⟩
    obtain ⟨k2, mt2, mn2, mw2, rfl, hn2⟩ := hk (by first | rfl | trivial)
    have B2 := Hd.mk (B1.out.trans (hb.mono B1.out.size))
    have SR := Hd.mk (same_run w2 k mt mn mw k2 mt2 mn2 mw2 _ _ _ _ _ _ _ _ (KN.out.at_.below hb) hn2.at_)
    rw [← EQ1.out] at SR
    clear hk hb hn2 ER1 KN
    go_wp2_with fail
    refine SR.out.mono ?_
    rintro e w3 ⟨rfl, hb⟩
    have B3 := Hd.mk (B2.out.trans (hb.mono B2.out.size))
    clear hb SR
    go_wp2_with fail
    go_ret2
    exact ⟨rfl, B3.out⟩
  · obtain rfl := P0.out hv
    have hvb : (v == 0) = false := by simp [hv]
    have hvn : (v != 0) = true := by simp [hv]
    have hvd : decide (v = 0) = false := by simp [hv]
    have ER2 := Hd.mk (ER.out hv)
    clear hv
    go_wp2_with fail
    go_ret2
    exact ⟨by rw [ER2.out]; rfl, B1.out⟩
end Go.Proofs.YtmeaeapopfcmbaaGreat
