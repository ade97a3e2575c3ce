/- ReplicaSafe's walk. No conditions. -/
import Derived.Test.YtmeaeapopfcmbaaGreatB50
namespace Go.Proofs.YtmeaeapopfcmbaaGreat
open Go.RowKit Go.Proofs.YtmeaeapopfcmbaaGreatW.PrintWords Go.Proofs.YtmeaeapopfcmbaaGreatW.PrintLast Go.Proofs.YtmeaeapopfcmbaaGreatW.PrintMore PP
set_option linter.unusedVariables false
set_option linter.unusedSimpArgs false
set_option maxHeartbeats 4000000
set_option maxRecDepth 100000
theorem safe_run (w : World) (n : Nat) (hn : n < 256) (A : Option Addr) (c : Nat) (l : List S61) (hL : Kd.C k61 w A l.length l) (hc : l.length ≤ c) (oL : ∀ x ∈ l, StepOk x) :
    Calls Tryz.prog 5 #[.int .u8 n, .slice A l.length c] w fun e w' => e = .returned (.bool true) ∧ Below w.heap.size w w' := by
  have BR := Hd.mk (brief_v hL hc)
  have RN := Hd.mk (fun W (hb : Below w.heap.size w W) (h60 : l.length ≤ 60) => ran_run W n hn A c l (Kd.C_below hL hb) oL h60)
  have B6 := Hd.mk (fun h : briefB l = true => briefB_60 h)
  have AL := Hd.mk alive_run
  clear hL hc oL hn
  generalize briefB l = b at *
  go_enter Tryz.func5, Tryz.ntmps5
  go_wp2_with fail
  with_reducible refine BR.out.mono ?_
  rintro e w1 ⟨rfl, hb⟩
  have B1 := Hd.mk hb
  clear hb BR
  cases b with
  | false =>
    go_wp2_with fail
    with_reducible refine (AL.out _).mono ?_
    rintro e w2 ⟨rfl, hb⟩
    have B2 := Hd.mk (B1.out.trans (hb.mono B1.out.size))
    clear hb
    go_wp2_with fail
    go_ret
    exact ⟨rfl, B2.out⟩
  | true =>
    have R1 := Hd.mk (RN.out w1 B1.out (B6.out rfl))
    clear RN B6
    go_wp2_with fail
    with_reducible refine R1.out.mono ?_
    rintro e w2 ⟨g, r, S, H, md, tk, rfl, hg, _⟩
    have B2 := Hd.mk (B1.out.trans (hg.base.mono B1.out.size))
    clear hg R1
    go_wp2_with fail
    with_reducible refine (AL.out _).mono ?_
    rintro e w3 ⟨rfl, hb⟩
    have B3 := Hd.mk (B2.out.trans (hb.mono B2.out.size))
    clear hb
    go_wp2_with fail
    go_ret
    exact ⟨rfl, B3.out⟩
end Go.Proofs.YtmeaeapopfcmbaaGreat
