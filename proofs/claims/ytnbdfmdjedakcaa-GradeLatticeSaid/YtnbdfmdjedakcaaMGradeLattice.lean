/- The law GradeLattice, as plain Lean: what its calls answer. No conditions. -/
import Derived.Test.YtnbdfmdjedakcaaU3
import Derived.Test.YtnbdfmdjedakcaaH30
namespace Go.Proofs.Ytnbdfmdjedakcaa.PP
open Go.RowKit Go.Proofs.YtnbdfmdjedakcaaW.PrintWords Go.Proofs.YtnbdfmdjedakcaaW.PrintLast Go.Proofs.YtnbdfmdjedakcaaW.PrintMore Go.Proofs.Ytnbdfmdjedakcaa
set_option linter.unusedVariables false
set_option linter.unusedSimpArgs false
theorem lattice_all (w : World) (x y z : S36) (A3 A4 A5 : Option Addr) (c3 c4 c5 : Nat) (l3 l4 l5 : List S36) (hr3 : Kd.C k36 w A3 l3.length l3) (hr4 : Kd.C k36 w A4 l4.length l4) (hr5 : Kd.C k36 w A5 l5.length l5) (hc3 : l3.length ≤ c3) (hc4 : l4.length ≤ c4) (hc5 : l5.length ≤ c5) :
    Calls Try.prog 11 #[.agg #[.int .i64 x.f0, .int .i64 x.f1, .int .i64 x.f2], .agg #[.int .i64 y.f0, .int .i64 y.f1, .int .i64 y.f2], .agg #[.int .i64 z.f0, .int .i64 z.f1, .int .i64 z.f2], .slice A3 l3.length c3, .slice A4 l4.length c4, .slice A5 l5.length c5] w fun e w' => e = .returned (.bool true) ∧ Below w.heap.size w w' := by
  have hX := classF_anti l3
  have hY := classF_anti l4
  have hZ := classF_anti l5
  have sX := hX.short
  have sY := hY.short
  have sZ := hZ.short
  have uX := upS_up (classF l3)
  have uY := upS_up (classF l4)
  have uZ := upS_up (classF l5)
  have uYZ := up_or uY uZ
  have uXY := up_and uX uY
  have uXZ := up_and uX uZ
  have hYZ := clU_anti uYZ
  have hXY := clU_anti uXY
  have hXZ := clU_anti uXZ
  have uLF := up_and uX uYZ
  have hLF := clU_anti uLF
  have sYZ := hYZ.short
  have sXY := hXY.short
  have sXZ := hXZ.short
  have sLF := hLF.short
  obtain ⟨k1, g1⟩ := alike_same _ (show (clU fun g => upS (classF l3) g && (upS (classF l4) g || upS (classF l5) g)).length ≤ 1000000 by omega)
  obtain ⟨k2, g2⟩ := alike_same _ (show (clU fun g => upS (classF l3) g && upS (classF l4) g).length ≤ 1000000 by omega)
  obtain ⟨k3, g3⟩ := alike_same _ (show (clU fun g => upS (classF l4) g || upS (classF l5) g).length ≤ 1000000 by omega)
  obtain ⟨k4, g4⟩ := alive_ev
  refine lattice_main (k1 + k2 + k3 + k4) x.f0 x.f1 x.f2 y.f0 y.f1 y.f2 z.f0 z.f1 z.f2 A3 c3 l3 A4 c4 l4 A5 c5 l5 w hr3 hc3 hr4 hc4 hr5 hc5
    (classF l3) (classF l4) (classF l5) (clU fun g => upS (classF l4) g || upS (classF l5) g) (clU fun g => upS (classF l3) g && (upS (classF l4) g || upS (classF l5) g)) (clU fun g => upS (classF l3) g && upS (classF l4) g) (clU fun g => upS (classF l3) g && upS (classF l5) g) rfl rfl rfl (eit_cl hY hZ) ?_ (bot_cl hX hY) (bot_cl hX hZ) ?_ ?_ ?_ (by omega) (by omega) (by omega) (by omega) (by omega) (by omega) (g1 _ (by omega)) (g2 _ (by omega)) (g3 _ (by omega)) (g4 _ (by omega))
  · rw [bot_cl hX hYZ]
    congr 1
    exact clU_congr fun g hg => by rw [clU_up uYZ hg]
  · rw [eit_cl hXY hXZ]
    congr 1
    exact clU_congr fun g hg => by rw [clU_up uXY hg, clU_up uXZ hg, ← Bool.and_or_distrib_left]
  · rw [bot_cl hY hX]
    congr 1
    exact clU_congr fun g hg => Bool.and_comm _ _
  · rw [eit_cl hZ hY]
    congr 1
    exact clU_congr fun g hg => Bool.or_comm _ _
end Go.Proofs.Ytnbdfmdjedakcaa.PP
