/- few, alike: how they are called. No conditions. -/
import Derived.Test.YtnbdfmdjedakcaaHD
import Derived.Test.YtnbdfmdjedakcaaQ33
import Derived.Test.YtnbdfmdjedakcaaQ37
namespace Go.Proofs.Ytnbdfmdjedakcaa
open Go.RowKit Go.Proofs.YtnbdfmdjedakcaaW.PrintWords Go.Proofs.YtnbdfmdjedakcaaW.PrintLast Go.Proofs.YtnbdfmdjedakcaaW.PrintMore PP
set_option linter.unusedVariables false
set_option linter.unusedSimpArgs false
theorem few_any (w : World) (A : Option Addr) (c : Nat) (l : List S36) (hC : Kd.C k36 w A l.length l) (hc : l.length ≤ c) (r : Bool) (hr : decide ((l.length : Int) ≤ 260) = r) : Calls Try.prog 33 #[.slice A l.length c] w fun e w' => e = .returned (.bool r) ∧ Below w.heap.size w w' :=
  (kimberlitelaw02_few.calls A c l r w hC hc (by unfold kimberlitelaw02_few.f; rw [hr])).mono fun e w' ⟨h1, n, h2⟩ => ⟨h1, by rw [h2]; exact bel_drewN' w n⟩
theorem alike_any (w : World) (A B : Option Addr) (c d : Nat) (l : List S36) (hA : Kd.C k36 w A l.length l) (hB : Kd.C k36 w B l.length l) (hc : l.length ≤ c) (hd : l.length ≤ d) (k : Nat) (hk : kimberlitelaw02_alike.f k l l = some true) : Calls Try.prog 37 #[.slice A l.length c, .slice B l.length d] w fun e w' => e = .returned (.bool true) ∧ Below w.heap.size w w' :=
  (kimberlitelaw02_alike.calls k A c l B d l true w hA hc hB hd hk).mono fun e w' ⟨h1, n, h2⟩ => ⟨h1, by rw [h2]; exact bel_drewN' w n⟩
end Go.Proofs.Ytnbdfmdjedakcaa
