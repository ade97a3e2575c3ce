/- alive is true. Plain. No conditions. -/
import Derived.Test.YtnbdfmdjedakcaaJ0
import Derived.Test.YtnbdfmdjedakcaaQ18
namespace Go.Proofs.Ytnbdfmdjedakcaa.PP
open Go.RowKit Go.Proofs.YtnbdfmdjedakcaaW.PrintWords Go.Proofs.YtnbdfmdjedakcaaW.PrintLast Go.Proofs.YtnbdfmdjedakcaaW.PrintMore Go.Proofs.Ytnbdfmdjedakcaa
set_option linter.unusedVariables false
set_option linter.unusedSimpArgs false
def g11 : S36 := ⟨11, 11, 10⟩
theorem ex11 : exF belowG [g11] = [g11] := by
  have h : (exGo belowG [g11] [g11].length).2 = [g11] := by kernel_rfl
  exact (congrArg sortG h).trans (List.mergeSort_singleton _)
theorem anti11 : Ev (fun k => grade_antichain.f k [g11]) true := by
  unfold grade_antichain.f
  have h1 : grade_listed.f [g11] 256 = some 0 := by kernel_rfl
  have h2 : grade_least.f [g11] = some [g11] := by
    unfold grade_least.f
    rw [if_pos (by decide), ex11]
  simp only [h1, h2, Option.bind_some, if_true]
  have h3 : Ev (fun k => api_Grade_111.f k [g11] [g11]) true := Ev.of_mono (api_Grade_111.mono _ _) (k := 5) (by kernel_rfl)
  exact Ev.bind h3 (Ev.pure _)
theorem count11 : Ev (fun k => grade_Count.f k [g11]) (2, 0) := by
  refine Ev.to (count_ev anti11) ?_
  have h : (allL.filter fun g => [g11].any fun o => belowG o g).length = 2 := by kernel_rfl
  rw [h]
  rfl
theorem alive_ev : Ev (fun k => kimberlitelaw02_alive.f k) true := by
  unfold kimberlitelaw02_alive.f
  refine Ev.bind count11 ?_
  have h1 : Ev (fun k => grade_Level.f k (([(⟨(⟨0, 0, 0⟩ : S36), 10, 1⟩ : S38), (⟨(⟨1, 0, 0⟩ : S36), 4, 1⟩ : S38)] : List (S38)))) ([7, 7], 3, 0) := Ev.of_mono (grade_Level.mono _) (k := 40) (by kernel_rfl)
  refine Ev.bind h1 ?_
  have h2 : grade_Width.f (([(⟨0, 0, 1⟩ : S36), (⟨0, 1, 0⟩ : S36), (⟨0, 1, 1⟩ : S36)] : List (S36))) = some (2, [0, 1], 0) := by kernel_rfl
  rw [h2]
  simp only [Option.bind_some, if_true]
  have h3 : Ev (fun k => kimberlitelaw02_same.f k [7, 7] [7, 7]) true := Ev.of_mono (kimberlitelaw02_same.mono _ _) (k := 10) (by kernel_rfl)
  refine Ev.bind h3 ?_
  simp only [if_true]
  have h4 : Ev (fun k => kimberlitelaw02_same.f k [0, 1] [0, 1]) true := Ev.of_mono (kimberlitelaw02_same.mono _ _) (k := 10) (by kernel_rfl)
  exact Ev.bind h4 (Ev.pure _)
end Go.Proofs.Ytnbdfmdjedakcaa.PP
