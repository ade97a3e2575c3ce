/- No conditions. -/
import Derived.Test.YtnbdfmdjedakcaaWInv
import Derived.Test.YtnbdfmdjedakcaaWFootNe
namespace Go.Proofs.YtnbdfmdjedakcaaW.PrintWords
open Go.RowKit
end Go.Proofs.YtnbdfmdjedakcaaW.PrintWords
namespace Go.Proofs.YtnbdfmdjedakcaaW.PrintLast
section
variable {ops : Array Oper} {a : Act} {o og : Oper} {g : Nat} {t : Tmp} {u : Bool}
end
end Go.Proofs.YtnbdfmdjedakcaaW.PrintLast

