/- The contracts of functions that were walked by hand, in the words of the printed texts: strings.Compare. No conditions. -/
import Derived.Test.YtmeaeapopfcmbaaGreatG1
namespace Go.Proofs.YtmeaeapopfcmbaaGreat.PP
open Go.RowKit Go.Proofs.YtmeaeapopfcmbaaGreatW.PrintWords Go.Proofs.YtmeaeapopfcmbaaGreatW.PrintLast Go.Proofs.YtmeaeapopfcmbaaGreatW.PrintMore Go.Proofs.YtmeaeapopfcmbaaGreat
set_option linter.unusedVariables false
set_option linter.unusedSimpArgs false
def strings_Compare.f (a b : ByteArray) : Option Int := some (Lib.compareBytes a.data.toList b.data.toList)
theorem strings_Compare.calls (a0 : ByteArray) (a1 : ByteArray) (r : Int) (w : World) (h : strings_Compare.f a0 a1 = some r) :
    Calls Tryz.prog 141 #[.string a0, .string a1] w fun e w' => e = .returned (.int .i64 r) ∧ Below w.heap.size w w' := by
  obtain rfl := Option.some.inj h
  exact (stringsCompare_run a0 a1 w).mono (fun e w' h => ⟨h.1, by rw [h.2]; exact Below.refl _ _⟩)
end Go.Proofs.YtmeaeapopfcmbaaGreat.PP
