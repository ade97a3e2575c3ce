/- Offices that sync: what the last state covers; who covers has the tag. No conditions. -/
import Derived.Test.YtmeaeapopfcmbaaGreatP12
import Derived.Test.YtmeaeapopfcmbaaGreatB43
namespace Go.Proofs.YtmeaeapopfcmbaaGreat
set_option linter.unusedVariables false
set_option linter.unusedSimpArgs false
open PP
section
variable {n d : Nat} {last S : Nat → S28} {P : S28 → Prop} {i k : Nat}
/-- Who covers the state in which the tag was put on has it. -/
theorem Stay.covers {t : S99} {M X : S28} (h : Stay n S P t M) (hs : Sys n S P) (hX : P X) (h0 : bothE X M = 0) (hc : covB X M = true) : mget (tagsP X) t.f2 = some t := by
  rcases h.kept X hX with h1 | h1
  · exfalso
    classical
    rw [covB_0 h0, decide_eq_true_eq] at hc
    obtain ⟨j, hj, ej⟩ := h.w
    have n8 := hs.n8
    have h2 := am_seen (hs.rt X hX) (hs.rt M h.mine) (o := t.f2.f0) (by omega) (by omega)
    rw [hc] at h2
    rw [stat_none] at h1
    have := h.seen
    omega
  · exact h1
end
end Go.Proofs.YtmeaeapopfcmbaaGreat
