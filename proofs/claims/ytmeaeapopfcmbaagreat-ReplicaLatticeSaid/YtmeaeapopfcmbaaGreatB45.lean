/- The law's merge. No conditions. -/
import Derived.Test.YtmeaeapopfcmbaaGreatB44
namespace Go.Proofs.YtmeaeapopfcmbaaGreat
open Go.RowKit Go.Proofs.YtmeaeapopfcmbaaGreatW.PrintWords Go.Proofs.YtmeaeapopfcmbaaGreatW.PrintLast Go.Proofs.YtmeaeapopfcmbaaGreatW.PrintMore PP
set_option linter.unusedVariables false
set_option linter.unusedSimpArgs false
set_option maxHeartbeats 4000000
set_option maxRecDepth 100000
theorem merge41_v {W : World} {A B : S28} {x0 x1 x2 x3 x4 y0 y1 y2 y3 y4 : Value} (ha : Sv W A x0 x1 x2 x3 x4) (hb : Sv W B y0 y1 y2 y3 y4) : Calls Tryz.prog 41 #[.agg #[x0, x1, x2, x3, x4], .agg #[y0, y1, y2, y3, y4]] W fun e w' => ∃ v0 v1 v2 v3 v4, e = .returned (.tuple #[.agg #[v0, v1, v2, v3, v4], .bool (bothE A B == 0)]) ∧ StR W.heap.size w' v0 v1 v2 v3 v4 (mrgV A B) ∧ Below W.heap.size W w' := by
  obtain ⟨wB, hwB⟩ : ∃ wB, wB = ((W.alloc (.cells #[x0, x1, x2, x3, x4] 28)).alloc (.cells #[y0, y1, y2, y3, y4] 28)).alloc (.cells zeroSt 28) := ⟨_, rfl⟩
  have BB := Hd.mk (show Below W.heap.size W wB by rw [hwB]; exact below_alloc (below_alloc (below_alloc (Below.refl _ _) _) _) _)
  have RB := Hd.mk (show wB.heap[W.heap.size + 1 + 1]? = some (Obj.cells zeroSt 28 (0, 0)) by rw [hwB]; exact alloc_at _ _ _ (by simp))
  have BT := Hd.mk ((merge_v (ha.below BB.out) (hb.below BB.out)).mono fun e w' ⟨v0, v1, v2, v3, v4, e1, e2, e3⟩ => (show ∃ v0 v1 v2 v3 v4, e = Ending.returned (.tuple #[.agg #[v0, v1, v2, v3, v4], .int .i64 (bothE A B)]) ∧ StR W.heap.size w' v0 v1 v2 v3 v4 (mrgV A B) ∧ Below wB.heap.size wB w' from ⟨v0, v1, v2, v3, v4, e1, e2.lower BB.out.size, e3⟩))
  clear ha hb
  generalize bothE A B = v at *
  generalize mrgV A B = M at *
  have hz := Tryz.zeroValue28
  have HW := Hd.mk hwB
  clear hwB
  unfold zeroSt at HW
  go_enter Tryz.func41, Tryz.ntmps41
  go_wp2_with fail
  rw [← HW.out]
  refine BT.out.mono ?_
  rintro e w1 ⟨v0, v1, v2, v3, v4, rfl, hs, hb⟩
  have RB1 := Hd.mk ((hb.block _ (Array.getElem?_eq_some_iff.1 RB.out).1).trans RB.out)
  have B1 := Hd.mk (BB.out.trans (hb.mono BB.out.size))
  obtain ⟨C0, d0, C1, d1, C2, d2, C3, d3, C4, d4, rfl, rfl, rfl, rfl, rfl, _⟩ := StR.sk hs
  have HS := Hd.mk hs
  have RS := Hd.mk (show (w1.alloc (Obj.cells #[.slice C0 M.f0.length d0, .slice C1 M.f1.length d1, .slice C2 M.f2.length d2, .slice C3 M.f3.length d3, .slice C4 M.f4.length d4] 28)).heap[W.heap.size + 1 + 1]? = some (Obj.cells zeroSt 28 (0, 0)) from ((below_alloc (Below.refl _ _) _).block _ (Array.getElem?_eq_some_iff.1 RB1.out).1).trans RB1.out)
  have LS := Hd.mk (show StR W.heap.size (w1.alloc (Obj.cells #[.slice C0 M.f0.length d0, .slice C1 M.f1.length d1, .slice C2 M.f2.length d2, .slice C3 M.f3.length d3, .slice C4 M.f4.length d4] 28)) (.slice C0 M.f0.length d0) (.slice C1 M.f1.length d1) (.slice C2 M.f2.length d2) (.slice C3 M.f3.length d3) (.slice C4 M.f4.length d4) M from HS.out.below (below_alloc (Below.refl _ _) _))
  have BS := Hd.mk (show Below W.heap.size W (w1.alloc (Obj.cells #[.slice C0 M.f0.length d0, .slice C1 M.f1.length d1, .slice C2 M.f2.length d2, .slice C3 M.f3.length d3, .slice C4 M.f4.length d4] 28)) from B1.out.alloc B1.out.size _)
  clear hs hb BT
  have s0 := cell_of RS.out 0 rfl
  have s1 := cell_of RS.out 1 rfl
  have s2 := cell_of RS.out 2 rfl
  have s3 := cell_of RS.out 3 rfl
  have s4 := cell_of RS.out 4 rfl
  have z0 := frozen_of RS.out 0 none
  have z1 := frozen_of RS.out 1 none
  have z2 := frozen_of RS.out 2 none
  have z3 := frozen_of RS.out 3 none
  have z4 := frozen_of RS.out 4 none
  go_wp2_with fail
  have FE := Hd.mk (zeroSt_store RS.out BS.out (by omega) LS.out)
  refine bodyPost_ret (results_cell_tmp rfl _ _ (W.heap.size + 1 + 1) 28 #[.slice C0 M.f0.length d0, .slice C1 M.f1.length d1, .slice C2 M.f2.length d2, .slice C3 M.f3.length d3, .slice C4 M.f4.length d4] (0, 0) _ rfl FE.out.1 Tryz.underlying28 rfl (by kernel_rfl)) rfl ?_
  exact ⟨_, _, _, _, _, rfl, FE.out.2.1, FE.out.2.2⟩
end Go.Proofs.YtmeaeapopfcmbaaGreat
