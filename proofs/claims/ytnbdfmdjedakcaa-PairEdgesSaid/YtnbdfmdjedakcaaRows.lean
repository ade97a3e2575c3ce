/-
  No cell of these rows narrows 'for every input' (looked for: loops, veiled, ifaces, maps, wideKeys, modest, calm, conditions, laid).
  DERIVED. THE GIVEN ROWS OF THIS SEAT. 14 by the template 'for every input the law returns true; each argument reads behind the call as it read before'; 0 by the template 'total and deterministic' (their statements: YtnbdfmdjedakcaaTotals.lean).
  GIVEN WITH THE SEED: the statements are not yours to turn. If you find one false, say at which input.
  Laid BY PROGRAM, IN A SANDBOX (cutbox-rows.mjs): the forced cells as the released guide's own fill.sh prints them over the translation 2347efe1b55be917… (all of the seat's roots in one cut). By AI agents, Wed Nov 11 2026. No macro, syntax, notation, axiom, sorry.
-/
import Derived.Test.YtnbdfmdjedakcaaChecked
import GoSem.Claim
import GoSem.ClaimJoined
import GoSem.ClaimMapViews
import Derived.JoinedTies
import Derived.KernelRfl
namespace Go.Proofs.Ytnbdfmdjedakcaa
/- THE CELL 'sum', in the pinned program and in every row, IS THE sha256 OF THE DUMP (.gsa) THAT YtnbdfmdjedakcaaProg.lean LOADS. Nothing in Lean hashes anything: it is a label: what it is worth is what the hold of that sum in a sandbox is worth. -/
noncomputable def Try.pinned : Pinned := { name := "ytnbdfmdjedakcaa", sum := "2347efe1b55be9179bdd9cc54d3b2ef5d2dc35d855b39906ec163aacabd9f1c7", checked := Try.checked }
namespace Rows
def none {H : Type} : Left H := { results := [], args := [] }

/-- 'kimberlitelaw02.GradeLevels': WHATEVER THE INPUT: true; the input reads as it did. -/
def gradeLevelsSpec : ChangeSpec := { name := "gradeLevels", fn := fun _ => fun
  | [d] => { results := [.lit (.bool true)], args := [d] }
  | _ => none }
def gradeLevelsRow : OpenClaim := { program := "ytnbdfmdjedakcaa", sum := "2347efe1b55be9179bdd9cc54d3b2ef5d2dc35d855b39906ec163aacabd9f1c7", func := "kimberlite/kimberlitelaw02.GradeLevels", spec := "gradeLevels", unfollowed := true, recurses := true, plainKeys := false, apart := false }
def GradeLevelsSaid : Prop := gradeLevelsRow.holds Try.pinned (OpenSpec.ofChange gradeLevelsSpec)

/-- ITS FALSE NEIGHBOUR: 'it returns false'. Refute it at one input. -/
def gradeLevelsWrong : ChangeSpec := { name := "gradeLevels", fn := fun _ => fun
  | [d] => { results := [.lit (.bool false)], args := [d] }
  | _ => none }
def GradeLevelsWrongFalsely : Prop := gradeLevelsRow.holds Try.pinned (OpenSpec.ofChange gradeLevelsWrong)

/-- 'kimberlitelaw02.GradeStrain': WHATEVER THE INPUT: true; the input reads as it did. -/
def gradeStrainSpec : ChangeSpec := { name := "gradeStrain", fn := fun _ => fun
  | [d1, d2] => { results := [.lit (.bool true)], args := [d1, d2] }
  | _ => none }
def gradeStrainRow : OpenClaim := { program := "ytnbdfmdjedakcaa", sum := "2347efe1b55be9179bdd9cc54d3b2ef5d2dc35d855b39906ec163aacabd9f1c7", func := "kimberlite/kimberlitelaw02.GradeStrain", spec := "gradeStrain", unfollowed := true, recurses := true, plainKeys := false, apart := false }
def GradeStrainSaid : Prop := gradeStrainRow.holds Try.pinned (OpenSpec.ofChange gradeStrainSpec)

/-- ITS FALSE NEIGHBOUR: 'it returns false'. Refute it at one input. -/
def gradeStrainWrong : ChangeSpec := { name := "gradeStrain", fn := fun _ => fun
  | [d1, d2] => { results := [.lit (.bool false)], args := [d1, d2] }
  | _ => none }
def GradeStrainWrongFalsely : Prop := gradeStrainRow.holds Try.pinned (OpenSpec.ofChange gradeStrainWrong)

/-- 'kimberlitelaw02.GradeOrder': WHATEVER THE INPUT: true; the input reads as it did. -/
def gradeOrderSpec : ChangeSpec := { name := "gradeOrder", fn := fun _ => fun
  | [d1, d2] => { results := [.lit (.bool true)], args := [d1, d2] }
  | _ => none }
def gradeOrderRow : OpenClaim := { program := "ytnbdfmdjedakcaa", sum := "2347efe1b55be9179bdd9cc54d3b2ef5d2dc35d855b39906ec163aacabd9f1c7", func := "kimberlite/kimberlitelaw02.GradeOrder", spec := "gradeOrder", unfollowed := true, recurses := true, plainKeys := false, apart := false }
def GradeOrderSaid : Prop := gradeOrderRow.holds Try.pinned (OpenSpec.ofChange gradeOrderSpec)

/-- ITS FALSE NEIGHBOUR: 'it returns false'. Refute it at one input. -/
def gradeOrderWrong : ChangeSpec := { name := "gradeOrder", fn := fun _ => fun
  | [d1, d2] => { results := [.lit (.bool false)], args := [d1, d2] }
  | _ => none }
def GradeOrderWrongFalsely : Prop := gradeOrderRow.holds Try.pinned (OpenSpec.ofChange gradeOrderWrong)

/-- 'kimberlitelaw02.GradeEnds': WHATEVER THE INPUT: true; the input reads as it did. -/
def gradeEndsSpec : ChangeSpec := { name := "gradeEnds", fn := fun _ => fun
  | [d] => { results := [.lit (.bool true)], args := [d] }
  | _ => none }
def gradeEndsRow : OpenClaim := { program := "ytnbdfmdjedakcaa", sum := "2347efe1b55be9179bdd9cc54d3b2ef5d2dc35d855b39906ec163aacabd9f1c7", func := "kimberlite/kimberlitelaw02.GradeEnds", spec := "gradeEnds", unfollowed := true, recurses := true, plainKeys := false, apart := false }
def GradeEndsSaid : Prop := gradeEndsRow.holds Try.pinned (OpenSpec.ofChange gradeEndsSpec)

/-- ITS FALSE NEIGHBOUR: 'it returns false'. Refute it at one input. -/
def gradeEndsWrong : ChangeSpec := { name := "gradeEnds", fn := fun _ => fun
  | [d] => { results := [.lit (.bool false)], args := [d] }
  | _ => none }
def GradeEndsWrongFalsely : Prop := gradeEndsRow.holds Try.pinned (OpenSpec.ofChange gradeEndsWrong)

/-- 'kimberlitelaw02.GradeChains': WHATEVER THE INPUT: true; the input reads as it did. -/
def gradeChainsSpec : ChangeSpec := { name := "gradeChains", fn := fun _ => fun
  | [d] => { results := [.lit (.bool true)], args := [d] }
  | _ => none }
def gradeChainsRow : OpenClaim := { program := "ytnbdfmdjedakcaa", sum := "2347efe1b55be9179bdd9cc54d3b2ef5d2dc35d855b39906ec163aacabd9f1c7", func := "kimberlite/kimberlitelaw02.GradeChains", spec := "gradeChains", unfollowed := true, recurses := true, plainKeys := false, apart := false }
def GradeChainsSaid : Prop := gradeChainsRow.holds Try.pinned (OpenSpec.ofChange gradeChainsSpec)

/-- ITS FALSE NEIGHBOUR: 'it returns false'. Refute it at one input. -/
def gradeChainsWrong : ChangeSpec := { name := "gradeChains", fn := fun _ => fun
  | [d] => { results := [.lit (.bool false)], args := [d] }
  | _ => none }
def GradeChainsWrongFalsely : Prop := gradeChainsRow.holds Try.pinned (OpenSpec.ofChange gradeChainsWrong)

/-- 'kimberlitelaw02.GradeDilworth': WHATEVER THE INPUT: true; the input reads as it did. -/
def gradeDilworthSpec : ChangeSpec := { name := "gradeDilworth", fn := fun _ => fun
  | [d1, d2] => { results := [.lit (.bool true)], args := [d1, d2] }
  | _ => none }
def gradeDilworthRow : OpenClaim := { program := "ytnbdfmdjedakcaa", sum := "2347efe1b55be9179bdd9cc54d3b2ef5d2dc35d855b39906ec163aacabd9f1c7", func := "kimberlite/kimberlitelaw02.GradeDilworth", spec := "gradeDilworth", unfollowed := true, recurses := true, plainKeys := false, apart := false }
def GradeDilworthSaid : Prop := gradeDilworthRow.holds Try.pinned (OpenSpec.ofChange gradeDilworthSpec)

/-- ITS FALSE NEIGHBOUR: 'it returns false'. Refute it at one input. -/
def gradeDilworthWrong : ChangeSpec := { name := "gradeDilworth", fn := fun _ => fun
  | [d1, d2] => { results := [.lit (.bool false)], args := [d1, d2] }
  | _ => none }
def GradeDilworthWrongFalsely : Prop := gradeDilworthRow.holds Try.pinned (OpenSpec.ofChange gradeDilworthWrong)

/-- 'kimberlitelaw02.GradeDual': WHATEVER THE INPUT: true; the input reads as it did. -/
def gradeDualSpec : ChangeSpec := { name := "gradeDual", fn := fun _ => fun
  | [d1, d2] => { results := [.lit (.bool true)], args := [d1, d2] }
  | _ => none }
def gradeDualRow : OpenClaim := { program := "ytnbdfmdjedakcaa", sum := "2347efe1b55be9179bdd9cc54d3b2ef5d2dc35d855b39906ec163aacabd9f1c7", func := "kimberlite/kimberlitelaw02.GradeDual", spec := "gradeDual", unfollowed := true, recurses := true, plainKeys := false, apart := false }
def GradeDualSaid : Prop := gradeDualRow.holds Try.pinned (OpenSpec.ofChange gradeDualSpec)

/-- ITS FALSE NEIGHBOUR: 'it returns false'. Refute it at one input. -/
def gradeDualWrong : ChangeSpec := { name := "gradeDual", fn := fun _ => fun
  | [d1, d2] => { results := [.lit (.bool false)], args := [d1, d2] }
  | _ => none }
def GradeDualWrongFalsely : Prop := gradeDualRow.holds Try.pinned (OpenSpec.ofChange gradeDualWrong)

/-- 'kimberlitelaw02.GradeCounts': WHATEVER THE INPUT: true; the input reads as it did. -/
def gradeCountsSpec : ChangeSpec := { name := "gradeCounts", fn := fun _ => fun
  | [d1, d2] => { results := [.lit (.bool true)], args := [d1, d2] }
  | _ => none }
def gradeCountsRow : OpenClaim := { program := "ytnbdfmdjedakcaa", sum := "2347efe1b55be9179bdd9cc54d3b2ef5d2dc35d855b39906ec163aacabd9f1c7", func := "kimberlite/kimberlitelaw02.GradeCounts", spec := "gradeCounts", unfollowed := true, recurses := true, plainKeys := false, apart := false }
def GradeCountsSaid : Prop := gradeCountsRow.holds Try.pinned (OpenSpec.ofChange gradeCountsSpec)

/-- ITS FALSE NEIGHBOUR: 'it returns false'. Refute it at one input. -/
def gradeCountsWrong : ChangeSpec := { name := "gradeCounts", fn := fun _ => fun
  | [d1, d2] => { results := [.lit (.bool false)], args := [d1, d2] }
  | _ => none }
def GradeCountsWrongFalsely : Prop := gradeCountsRow.holds Try.pinned (OpenSpec.ofChange gradeCountsWrong)

/-- 'kimberlitelaw02.GradeLattice': WHATEVER THE INPUT: true; the input reads as it did. -/
def gradeLatticeSpec : ChangeSpec := { name := "gradeLattice", fn := fun _ => fun
  | [d1, d2, d3, d4, d5, d6] => { results := [.lit (.bool true)], args := [d1, d2, d3, d4, d5, d6] }
  | _ => none }
def gradeLatticeRow : OpenClaim := { program := "ytnbdfmdjedakcaa", sum := "2347efe1b55be9179bdd9cc54d3b2ef5d2dc35d855b39906ec163aacabd9f1c7", func := "kimberlite/kimberlitelaw02.GradeLattice", spec := "gradeLattice", unfollowed := true, recurses := true, plainKeys := false, apart := false }
def GradeLatticeSaid : Prop := gradeLatticeRow.holds Try.pinned (OpenSpec.ofChange gradeLatticeSpec)

/-- ITS FALSE NEIGHBOUR: 'it returns false'. Refute it at one input. -/
def gradeLatticeWrong : ChangeSpec := { name := "gradeLattice", fn := fun _ => fun
  | [d1, d2, d3, d4, d5, d6] => { results := [.lit (.bool false)], args := [d1, d2, d3, d4, d5, d6] }
  | _ => none }
def GradeLatticeWrongFalsely : Prop := gradeLatticeRow.holds Try.pinned (OpenSpec.ofChange gradeLatticeWrong)

/-- 'kimberlitelaw02.GradeMembers': WHATEVER THE INPUT: true; the input reads as it did. -/
def gradeMembersSpec : ChangeSpec := { name := "gradeMembers", fn := fun _ => fun
  | [d1, d2, d3] => { results := [.lit (.bool true)], args := [d1, d2, d3] }
  | _ => none }
def gradeMembersRow : OpenClaim := { program := "ytnbdfmdjedakcaa", sum := "2347efe1b55be9179bdd9cc54d3b2ef5d2dc35d855b39906ec163aacabd9f1c7", func := "kimberlite/kimberlitelaw02.GradeMembers", spec := "gradeMembers", unfollowed := true, recurses := true, plainKeys := false, apart := false }
def GradeMembersSaid : Prop := gradeMembersRow.holds Try.pinned (OpenSpec.ofChange gradeMembersSpec)

/-- ITS FALSE NEIGHBOUR: 'it returns false'. Refute it at one input. -/
def gradeMembersWrong : ChangeSpec := { name := "gradeMembers", fn := fun _ => fun
  | [d1, d2, d3] => { results := [.lit (.bool false)], args := [d1, d2, d3] }
  | _ => none }
def GradeMembersWrongFalsely : Prop := gradeMembersRow.holds Try.pinned (OpenSpec.ofChange gradeMembersWrong)

/-- 'kimberlitelaw02.GradeClasses': WHATEVER THE INPUT: true; the input reads as it did. -/
def gradeClassesSpec : ChangeSpec := { name := "gradeClasses", fn := fun _ => fun
  | [d1, d2, d3] => { results := [.lit (.bool true)], args := [d1, d2, d3] }
  | _ => none }
def gradeClassesRow : OpenClaim := { program := "ytnbdfmdjedakcaa", sum := "2347efe1b55be9179bdd9cc54d3b2ef5d2dc35d855b39906ec163aacabd9f1c7", func := "kimberlite/kimberlitelaw02.GradeClasses", spec := "gradeClasses", unfollowed := true, recurses := true, plainKeys := false, apart := false }
def GradeClassesSaid : Prop := gradeClassesRow.holds Try.pinned (OpenSpec.ofChange gradeClassesSpec)

/-- ITS FALSE NEIGHBOUR: 'it returns false'. Refute it at one input. -/
def gradeClassesWrong : ChangeSpec := { name := "gradeClasses", fn := fun _ => fun
  | [d1, d2, d3] => { results := [.lit (.bool false)], args := [d1, d2, d3] }
  | _ => none }
def GradeClassesWrongFalsely : Prop := gradeClassesRow.holds Try.pinned (OpenSpec.ofChange gradeClassesWrong)

/-- 'kimberlitelaw02.GradeSettles': WHATEVER THE INPUT: true; the input reads as it did. -/
def gradeSettlesSpec : ChangeSpec := { name := "gradeSettles", fn := fun _ => fun
  | [d] => { results := [.lit (.bool true)], args := [d] }
  | _ => none }
def gradeSettlesRow : OpenClaim := { program := "ytnbdfmdjedakcaa", sum := "2347efe1b55be9179bdd9cc54d3b2ef5d2dc35d855b39906ec163aacabd9f1c7", func := "kimberlite/kimberlitelaw02.GradeSettles", spec := "gradeSettles", unfollowed := true, recurses := true, plainKeys := false, apart := false }
def GradeSettlesSaid : Prop := gradeSettlesRow.holds Try.pinned (OpenSpec.ofChange gradeSettlesSpec)

/-- ITS FALSE NEIGHBOUR: 'it returns false'. Refute it at one input. -/
def gradeSettlesWrong : ChangeSpec := { name := "gradeSettles", fn := fun _ => fun
  | [d] => { results := [.lit (.bool false)], args := [d] }
  | _ => none }
def GradeSettlesWrongFalsely : Prop := gradeSettlesRow.holds Try.pinned (OpenSpec.ofChange gradeSettlesWrong)

/-- 'kimberlitelaw02.GradeLoss': WHATEVER THE INPUT: true; the input reads as it did. -/
def gradeLossSpec : ChangeSpec := { name := "gradeLoss", fn := fun _ => fun
  | [d1, d2] => { results := [.lit (.bool true)], args := [d1, d2] }
  | _ => none }
def gradeLossRow : OpenClaim := { program := "ytnbdfmdjedakcaa", sum := "2347efe1b55be9179bdd9cc54d3b2ef5d2dc35d855b39906ec163aacabd9f1c7", func := "kimberlite/kimberlitelaw02.GradeLoss", spec := "gradeLoss", unfollowed := true, recurses := true, plainKeys := false, apart := false }
def GradeLossSaid : Prop := gradeLossRow.holds Try.pinned (OpenSpec.ofChange gradeLossSpec)

/-- ITS FALSE NEIGHBOUR: 'it returns false'. Refute it at one input. -/
def gradeLossWrong : ChangeSpec := { name := "gradeLoss", fn := fun _ => fun
  | [d1, d2] => { results := [.lit (.bool false)], args := [d1, d2] }
  | _ => none }
def GradeLossWrongFalsely : Prop := gradeLossRow.holds Try.pinned (OpenSpec.ofChange gradeLossWrong)

/-- 'kimberlitelaw04.PairEdges': WHATEVER THE INPUT: true; the input reads as it did. -/
def pairEdgesSpec : ChangeSpec := { name := "pairEdges", fn := fun _ => fun
  | [d1, d2, d3] => { results := [.lit (.bool true)], args := [d1, d2, d3] }
  | _ => none }
def pairEdgesRow : OpenClaim := { program := "ytnbdfmdjedakcaa", sum := "2347efe1b55be9179bdd9cc54d3b2ef5d2dc35d855b39906ec163aacabd9f1c7", func := "kimberlite/kimberlitelaw04.PairEdges", spec := "pairEdges", unfollowed := true, recurses := true, plainKeys := false, apart := false }
def PairEdgesSaid : Prop := pairEdgesRow.holds Try.pinned (OpenSpec.ofChange pairEdgesSpec)

/-- ITS FALSE NEIGHBOUR: 'it returns false'. Refute it at one input. -/
def pairEdgesWrong : ChangeSpec := { name := "pairEdges", fn := fun _ => fun
  | [d1, d2, d3] => { results := [.lit (.bool false)], args := [d1, d2, d3] }
  | _ => none }
def PairEdgesWrongFalsely : Prop := pairEdgesRow.holds Try.pinned (OpenSpec.ofChange pairEdgesWrong)

/- THE SECOND FORM. 'bulk': how many values and letters a reading holds, each counted each time it is reached (what is shared counts as often as it is met; a slice's spare places count too). A statement '..UptoSaid' is the law's where the arguments, and the package variables that the reading takes, are together of bulk at most 1048576: NARROWER than '..Said'. Prove '..Said' where nothing that the law and all that it calls make is longer than what came in: it says more and counts as full. Else prove '..UptoSaid'. A law counts once. -/
mutual
def uptoBulk {H : Type} : DataW H → Nat
  | .lit (.string bytes) => bytes.length + 1
  | .lit _ => 1
  | .nil => 1
  | .ptr d => uptoBulk d + 1
  | .slice elems spare => uptoBulkAll elems + uptoBulkAll spare + 1
  | .agg parts => uptoBulkAll parts + 1
  | .iface _ d => uptoBulk d + 1
  | .map entries => uptoBulkEntries entries + 1
  | .held _ => 1
def uptoBulkAll {H : Type} : List (DataW H) → Nat
  | [] => 0
  | d :: r => uptoBulk d + uptoBulkAll r
def uptoBulkEntries {H : Type} : List (Lit × DataW H) → Nat
  | [] => 0
  | x :: r => uptoBulkEntry x + uptoBulkEntries r
def uptoBulkEntry {H : Type} : Lit × DataW H → Nat
  | (.string bytes, d) => bytes.length + uptoBulk d + 1
  | (_, d) => uptoBulk d + 1
 end
def uptoSmall : (H : Type) → List (DataW H) → Bool := fun _ ds => decide (uptoBulkAll ds ≤ 1048576)
def OpenSpec.upto (s : _root_.Go.ChangeSpec) : _root_.Go.OpenSpec := { _root_.Go.OpenSpec.ofChange s with cond := some uptoSmall }

/-- 'kimberlitelaw02.GradeLevels', WHERE WHAT IT READS IS OF BULK AT MOST 1048576: true; the input reads as it did. -/
def gradeLevelsUptoRow : OpenClaim := { program := "ytnbdfmdjedakcaa", sum := "2347efe1b55be9179bdd9cc54d3b2ef5d2dc35d855b39906ec163aacabd9f1c7", func := "kimberlite/kimberlitelaw02.GradeLevels", spec := "gradeLevels", unfollowed := true, recurses := true, plainKeys := false, apart := false, narrowed := true }
def GradeLevelsUptoSaid : Prop := gradeLevelsUptoRow.holds Try.pinned (OpenSpec.upto gradeLevelsSpec)

/-- 'kimberlitelaw02.GradeStrain', WHERE WHAT IT READS IS OF BULK AT MOST 1048576: true; the input reads as it did. -/
def gradeStrainUptoRow : OpenClaim := { program := "ytnbdfmdjedakcaa", sum := "2347efe1b55be9179bdd9cc54d3b2ef5d2dc35d855b39906ec163aacabd9f1c7", func := "kimberlite/kimberlitelaw02.GradeStrain", spec := "gradeStrain", unfollowed := true, recurses := true, plainKeys := false, apart := false, narrowed := true }
def GradeStrainUptoSaid : Prop := gradeStrainUptoRow.holds Try.pinned (OpenSpec.upto gradeStrainSpec)

/-- 'kimberlitelaw02.GradeOrder', WHERE WHAT IT READS IS OF BULK AT MOST 1048576: true; the input reads as it did. -/
def gradeOrderUptoRow : OpenClaim := { program := "ytnbdfmdjedakcaa", sum := "2347efe1b55be9179bdd9cc54d3b2ef5d2dc35d855b39906ec163aacabd9f1c7", func := "kimberlite/kimberlitelaw02.GradeOrder", spec := "gradeOrder", unfollowed := true, recurses := true, plainKeys := false, apart := false, narrowed := true }
def GradeOrderUptoSaid : Prop := gradeOrderUptoRow.holds Try.pinned (OpenSpec.upto gradeOrderSpec)

/-- 'kimberlitelaw02.GradeEnds', WHERE WHAT IT READS IS OF BULK AT MOST 1048576: true; the input reads as it did. -/
def gradeEndsUptoRow : OpenClaim := { program := "ytnbdfmdjedakcaa", sum := "2347efe1b55be9179bdd9cc54d3b2ef5d2dc35d855b39906ec163aacabd9f1c7", func := "kimberlite/kimberlitelaw02.GradeEnds", spec := "gradeEnds", unfollowed := true, recurses := true, plainKeys := false, apart := false, narrowed := true }
def GradeEndsUptoSaid : Prop := gradeEndsUptoRow.holds Try.pinned (OpenSpec.upto gradeEndsSpec)

/-- 'kimberlitelaw02.GradeChains', WHERE WHAT IT READS IS OF BULK AT MOST 1048576: true; the input reads as it did. -/
def gradeChainsUptoRow : OpenClaim := { program := "ytnbdfmdjedakcaa", sum := "2347efe1b55be9179bdd9cc54d3b2ef5d2dc35d855b39906ec163aacabd9f1c7", func := "kimberlite/kimberlitelaw02.GradeChains", spec := "gradeChains", unfollowed := true, recurses := true, plainKeys := false, apart := false, narrowed := true }
def GradeChainsUptoSaid : Prop := gradeChainsUptoRow.holds Try.pinned (OpenSpec.upto gradeChainsSpec)

/-- 'kimberlitelaw02.GradeDilworth', WHERE WHAT IT READS IS OF BULK AT MOST 1048576: true; the input reads as it did. -/
def gradeDilworthUptoRow : OpenClaim := { program := "ytnbdfmdjedakcaa", sum := "2347efe1b55be9179bdd9cc54d3b2ef5d2dc35d855b39906ec163aacabd9f1c7", func := "kimberlite/kimberlitelaw02.GradeDilworth", spec := "gradeDilworth", unfollowed := true, recurses := true, plainKeys := false, apart := false, narrowed := true }
def GradeDilworthUptoSaid : Prop := gradeDilworthUptoRow.holds Try.pinned (OpenSpec.upto gradeDilworthSpec)

/-- 'kimberlitelaw02.GradeDual', WHERE WHAT IT READS IS OF BULK AT MOST 1048576: true; the input reads as it did. -/
def gradeDualUptoRow : OpenClaim := { program := "ytnbdfmdjedakcaa", sum := "2347efe1b55be9179bdd9cc54d3b2ef5d2dc35d855b39906ec163aacabd9f1c7", func := "kimberlite/kimberlitelaw02.GradeDual", spec := "gradeDual", unfollowed := true, recurses := true, plainKeys := false, apart := false, narrowed := true }
def GradeDualUptoSaid : Prop := gradeDualUptoRow.holds Try.pinned (OpenSpec.upto gradeDualSpec)

/-- 'kimberlitelaw02.GradeCounts', WHERE WHAT IT READS IS OF BULK AT MOST 1048576: true; the input reads as it did. -/
def gradeCountsUptoRow : OpenClaim := { program := "ytnbdfmdjedakcaa", sum := "2347efe1b55be9179bdd9cc54d3b2ef5d2dc35d855b39906ec163aacabd9f1c7", func := "kimberlite/kimberlitelaw02.GradeCounts", spec := "gradeCounts", unfollowed := true, recurses := true, plainKeys := false, apart := false, narrowed := true }
def GradeCountsUptoSaid : Prop := gradeCountsUptoRow.holds Try.pinned (OpenSpec.upto gradeCountsSpec)

/-- 'kimberlitelaw02.GradeLattice', WHERE WHAT IT READS IS OF BULK AT MOST 1048576: true; the input reads as it did. -/
def gradeLatticeUptoRow : OpenClaim := { program := "ytnbdfmdjedakcaa", sum := "2347efe1b55be9179bdd9cc54d3b2ef5d2dc35d855b39906ec163aacabd9f1c7", func := "kimberlite/kimberlitelaw02.GradeLattice", spec := "gradeLattice", unfollowed := true, recurses := true, plainKeys := false, apart := false, narrowed := true }
def GradeLatticeUptoSaid : Prop := gradeLatticeUptoRow.holds Try.pinned (OpenSpec.upto gradeLatticeSpec)

/-- 'kimberlitelaw02.GradeMembers', WHERE WHAT IT READS IS OF BULK AT MOST 1048576: true; the input reads as it did. -/
def gradeMembersUptoRow : OpenClaim := { program := "ytnbdfmdjedakcaa", sum := "2347efe1b55be9179bdd9cc54d3b2ef5d2dc35d855b39906ec163aacabd9f1c7", func := "kimberlite/kimberlitelaw02.GradeMembers", spec := "gradeMembers", unfollowed := true, recurses := true, plainKeys := false, apart := false, narrowed := true }
def GradeMembersUptoSaid : Prop := gradeMembersUptoRow.holds Try.pinned (OpenSpec.upto gradeMembersSpec)

/-- 'kimberlitelaw02.GradeClasses', WHERE WHAT IT READS IS OF BULK AT MOST 1048576: true; the input reads as it did. -/
def gradeClassesUptoRow : OpenClaim := { program := "ytnbdfmdjedakcaa", sum := "2347efe1b55be9179bdd9cc54d3b2ef5d2dc35d855b39906ec163aacabd9f1c7", func := "kimberlite/kimberlitelaw02.GradeClasses", spec := "gradeClasses", unfollowed := true, recurses := true, plainKeys := false, apart := false, narrowed := true }
def GradeClassesUptoSaid : Prop := gradeClassesUptoRow.holds Try.pinned (OpenSpec.upto gradeClassesSpec)

/-- 'kimberlitelaw02.GradeSettles', WHERE WHAT IT READS IS OF BULK AT MOST 1048576: true; the input reads as it did. -/
def gradeSettlesUptoRow : OpenClaim := { program := "ytnbdfmdjedakcaa", sum := "2347efe1b55be9179bdd9cc54d3b2ef5d2dc35d855b39906ec163aacabd9f1c7", func := "kimberlite/kimberlitelaw02.GradeSettles", spec := "gradeSettles", unfollowed := true, recurses := true, plainKeys := false, apart := false, narrowed := true }
def GradeSettlesUptoSaid : Prop := gradeSettlesUptoRow.holds Try.pinned (OpenSpec.upto gradeSettlesSpec)

/-- 'kimberlitelaw02.GradeLoss', WHERE WHAT IT READS IS OF BULK AT MOST 1048576: true; the input reads as it did. -/
def gradeLossUptoRow : OpenClaim := { program := "ytnbdfmdjedakcaa", sum := "2347efe1b55be9179bdd9cc54d3b2ef5d2dc35d855b39906ec163aacabd9f1c7", func := "kimberlite/kimberlitelaw02.GradeLoss", spec := "gradeLoss", unfollowed := true, recurses := true, plainKeys := false, apart := false, narrowed := true }
def GradeLossUptoSaid : Prop := gradeLossUptoRow.holds Try.pinned (OpenSpec.upto gradeLossSpec)

/-- 'kimberlitelaw04.PairEdges', WHERE WHAT IT READS IS OF BULK AT MOST 1048576: true; the input reads as it did. -/
def pairEdgesUptoRow : OpenClaim := { program := "ytnbdfmdjedakcaa", sum := "2347efe1b55be9179bdd9cc54d3b2ef5d2dc35d855b39906ec163aacabd9f1c7", func := "kimberlite/kimberlitelaw04.PairEdges", spec := "pairEdges", unfollowed := true, recurses := true, plainKeys := false, apart := false, narrowed := true }
def PairEdgesUptoSaid : Prop := pairEdgesUptoRow.holds Try.pinned (OpenSpec.upto pairEdgesSpec)

end Rows
end Go.Proofs.Ytnbdfmdjedakcaa
