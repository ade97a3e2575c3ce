/- No conditions. -/
import Derived.Test.YtnbdfmdjedakcaaWWords
import Derived.Laws.StructEq
namespace Go.Proofs.YtnbdfmdjedakcaaW.PrintWords
open Go.RowKit
section
variable {P : Program} {d : Nat} {xs ys : Array Value} {f : Field} {fs : List Field} {a b : Value} {r s : Bool} {w : World}
end
end Go.Proofs.YtnbdfmdjedakcaaW.PrintWords

