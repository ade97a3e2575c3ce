/-
  No cell of these rows narrows 'for every input' (looked for: loops, veiled, ifaces, maps, wideKeys, modest, calm, conditions, laid).
  DERIVED. THE GIVEN ROWS OF THIS SEAT. 10 by the template 'for every input the law returns true; each argument reads behind the call as it read before'; 0 by the template 'total and deterministic' (their statements: YthhgdndjnflklaaTotals.lean).
  GIVEN WITH THE SEED: the statements are not yours to turn. If you find one false, say at which input.
  Laid BY PROGRAM, IN A SANDBOX (cutbox-rows.mjs): the forced cells as the released guide's own fill.sh prints them over the translation 431d6d0424570f91… (all of the seat's roots in one cut). By AI agents, Wed Nov 11 2026. No macro, syntax, notation, axiom, sorry.
-/
import Derived.Test.YthhgdndjnflklaaChecked
import GoSem.Claim
import GoSem.ClaimJoined
import GoSem.ClaimMapViews
import Derived.JoinedTies
import Derived.KernelRfl
namespace Go.Proofs.Ythhgdndjnflklaa
/- THE CELL 'sum', in the pinned program and in every row, IS THE sha256 OF THE DUMP (.gsa) THAT YthhgdndjnflklaaProg.lean LOADS. Nothing in Lean hashes anything: it is a label: what it is worth is what the hold of that sum in a sandbox is worth. -/
noncomputable def Try.pinned : Pinned := { name := "ythhgdndjnflklaa", sum := "431d6d0424570f912b17c43076ea58d9e153fe765d3fcae638334c22d9a22ce5", checked := Try.checked }
namespace Rows
def none {H : Type} : Left H := { results := [], args := [] }

/-- 'kimberlitelaw04.PairParts': WHATEVER THE INPUT: true; the input reads as it did. -/
def pairPartsSpec : ChangeSpec := { name := "pairParts", fn := fun _ => fun
  | [d1, d2] => { results := [.lit (.bool true)], args := [d1, d2] }
  | _ => none }
def pairPartsRow : OpenClaim := { program := "ythhgdndjnflklaa", sum := "431d6d0424570f912b17c43076ea58d9e153fe765d3fcae638334c22d9a22ce5", func := "kimberlite/kimberlitelaw04.PairParts", spec := "pairParts", apart := false }
def PairPartsSaid : Prop := pairPartsRow.holds Try.pinned (OpenSpec.ofChange pairPartsSpec)

/-- ITS FALSE NEIGHBOUR: 'it returns false'. Refute it at one input. -/
def pairPartsWrong : ChangeSpec := { name := "pairParts", fn := fun _ => fun
  | [d1, d2] => { results := [.lit (.bool false)], args := [d1, d2] }
  | _ => none }
def PairPartsWrongFalsely : Prop := pairPartsRow.holds Try.pinned (OpenSpec.ofChange pairPartsWrong)

/-- 'kimberlitelaw04.PairGallai': WHATEVER THE INPUT: true; the input reads as it did. -/
def pairGallaiSpec : ChangeSpec := { name := "pairGallai", fn := fun _ => fun
  | [d1, d2] => { results := [.lit (.bool true)], args := [d1, d2] }
  | _ => none }
def pairGallaiRow : OpenClaim := { program := "ythhgdndjnflklaa", sum := "431d6d0424570f912b17c43076ea58d9e153fe765d3fcae638334c22d9a22ce5", func := "kimberlite/kimberlitelaw04.PairGallai", spec := "pairGallai", apart := false }
def PairGallaiSaid : Prop := pairGallaiRow.holds Try.pinned (OpenSpec.ofChange pairGallaiSpec)

/-- ITS FALSE NEIGHBOUR: 'it returns false'. Refute it at one input. -/
def pairGallaiWrong : ChangeSpec := { name := "pairGallai", fn := fun _ => fun
  | [d1, d2] => { results := [.lit (.bool false)], args := [d1, d2] }
  | _ => none }
def PairGallaiWrongFalsely : Prop := pairGallaiRow.holds Try.pinned (OpenSpec.ofChange pairGallaiWrong)

/-- 'kimberlitelaw04.PairMore': WHATEVER THE INPUT: true; the input reads as it did. -/
def pairMoreSpec : ChangeSpec := { name := "pairMore", fn := fun _ => fun
  | [d1, d2, d3, d4] => { results := [.lit (.bool true)], args := [d1, d2, d3, d4] }
  | _ => none }
def pairMoreRow : OpenClaim := { program := "ythhgdndjnflklaa", sum := "431d6d0424570f912b17c43076ea58d9e153fe765d3fcae638334c22d9a22ce5", func := "kimberlite/kimberlitelaw04.PairMore", spec := "pairMore", apart := false }
def PairMoreSaid : Prop := pairMoreRow.holds Try.pinned (OpenSpec.ofChange pairMoreSpec)

/-- ITS FALSE NEIGHBOUR: 'it returns false'. Refute it at one input. -/
def pairMoreWrong : ChangeSpec := { name := "pairMore", fn := fun _ => fun
  | [d1, d2, d3, d4] => { results := [.lit (.bool false)], args := [d1, d2, d3, d4] }
  | _ => none }
def PairMoreWrongFalsely : Prop := pairMoreRow.holds Try.pinned (OpenSpec.ofChange pairMoreWrong)

/-- 'kimberlitelaw04.PairNamed': WHATEVER THE INPUT: true; the input reads as it did. -/
def pairNamedSpec : ChangeSpec := { name := "pairNamed", fn := fun _ => fun
  | [d1, d2, d3, d4] => { results := [.lit (.bool true)], args := [d1, d2, d3, d4] }
  | _ => none }
def pairNamedRow : OpenClaim := { program := "ythhgdndjnflklaa", sum := "431d6d0424570f912b17c43076ea58d9e153fe765d3fcae638334c22d9a22ce5", func := "kimberlite/kimberlitelaw04.PairNamed", spec := "pairNamed", apart := false }
def PairNamedSaid : Prop := pairNamedRow.holds Try.pinned (OpenSpec.ofChange pairNamedSpec)

/-- ITS FALSE NEIGHBOUR: 'it returns false'. Refute it at one input. -/
def pairNamedWrong : ChangeSpec := { name := "pairNamed", fn := fun _ => fun
  | [d1, d2, d3, d4] => { results := [.lit (.bool false)], args := [d1, d2, d3, d4] }
  | _ => none }
def PairNamedWrongFalsely : Prop := pairNamedRow.holds Try.pinned (OpenSpec.ofChange pairNamedWrong)

/-- 'kimberlitelaw04.PairMatches': WHATEVER THE INPUT: true; the input reads as it did. -/
def pairMatchesSpec : ChangeSpec := { name := "pairMatches", fn := fun _ => fun
  | [d1, d2] => { results := [.lit (.bool true)], args := [d1, d2] }
  | _ => none }
def pairMatchesRow : OpenClaim := { program := "ythhgdndjnflklaa", sum := "431d6d0424570f912b17c43076ea58d9e153fe765d3fcae638334c22d9a22ce5", func := "kimberlite/kimberlitelaw04.PairMatches", spec := "pairMatches", apart := false }
def PairMatchesSaid : Prop := pairMatchesRow.holds Try.pinned (OpenSpec.ofChange pairMatchesSpec)

/-- ITS FALSE NEIGHBOUR: 'it returns false'. Refute it at one input. -/
def pairMatchesWrong : ChangeSpec := { name := "pairMatches", fn := fun _ => fun
  | [d1, d2] => { results := [.lit (.bool false)], args := [d1, d2] }
  | _ => none }
def PairMatchesWrongFalsely : Prop := pairMatchesRow.holds Try.pinned (OpenSpec.ofChange pairMatchesWrong)

/-- 'kimberlitelaw04.PairPairs': WHATEVER THE INPUT: true; the input reads as it did. -/
def pairPairsSpec : ChangeSpec := { name := "pairPairs", fn := fun _ => fun
  | [d1, d2, d3] => { results := [.lit (.bool true)], args := [d1, d2, d3] }
  | _ => none }
def pairPairsRow : OpenClaim := { program := "ythhgdndjnflklaa", sum := "431d6d0424570f912b17c43076ea58d9e153fe765d3fcae638334c22d9a22ce5", func := "kimberlite/kimberlitelaw04.PairPairs", spec := "pairPairs", apart := false }
def PairPairsSaid : Prop := pairPairsRow.holds Try.pinned (OpenSpec.ofChange pairPairsSpec)

/-- ITS FALSE NEIGHBOUR: 'it returns false'. Refute it at one input. -/
def pairPairsWrong : ChangeSpec := { name := "pairPairs", fn := fun _ => fun
  | [d1, d2, d3] => { results := [.lit (.bool false)], args := [d1, d2, d3] }
  | _ => none }
def PairPairsWrongFalsely : Prop := pairPairsRow.holds Try.pinned (OpenSpec.ofChange pairPairsWrong)

/-- 'kimberlitelaw04.PairGrows': WHATEVER THE INPUT: true; the input reads as it did. -/
def pairGrowsSpec : ChangeSpec := { name := "pairGrows", fn := fun _ => fun
  | [d1, d2, d3] => { results := [.lit (.bool true)], args := [d1, d2, d3] }
  | _ => none }
def pairGrowsRow : OpenClaim := { program := "ythhgdndjnflklaa", sum := "431d6d0424570f912b17c43076ea58d9e153fe765d3fcae638334c22d9a22ce5", func := "kimberlite/kimberlitelaw04.PairGrows", spec := "pairGrows", apart := false }
def PairGrowsSaid : Prop := pairGrowsRow.holds Try.pinned (OpenSpec.ofChange pairGrowsSpec)

/-- ITS FALSE NEIGHBOUR: 'it returns false'. Refute it at one input. -/
def pairGrowsWrong : ChangeSpec := { name := "pairGrows", fn := fun _ => fun
  | [d1, d2, d3] => { results := [.lit (.bool false)], args := [d1, d2, d3] }
  | _ => none }
def PairGrowsWrongFalsely : Prop := pairGrowsRow.holds Try.pinned (OpenSpec.ofChange pairGrowsWrong)

/-- 'kimberlitelaw04.PairAll': WHATEVER THE INPUT: true; the input reads as it did. -/
def pairAllSpec : ChangeSpec := { name := "pairAll", fn := fun _ => fun
  | [d1, d2, d3] => { results := [.lit (.bool true)], args := [d1, d2, d3] }
  | _ => none }
def pairAllRow : OpenClaim := { program := "ythhgdndjnflklaa", sum := "431d6d0424570f912b17c43076ea58d9e153fe765d3fcae638334c22d9a22ce5", func := "kimberlite/kimberlitelaw04.PairAll", spec := "pairAll", apart := false }
def PairAllSaid : Prop := pairAllRow.holds Try.pinned (OpenSpec.ofChange pairAllSpec)

/-- ITS FALSE NEIGHBOUR: 'it returns false'. Refute it at one input. -/
def pairAllWrong : ChangeSpec := { name := "pairAll", fn := fun _ => fun
  | [d1, d2, d3] => { results := [.lit (.bool false)], args := [d1, d2, d3] }
  | _ => none }
def PairAllWrongFalsely : Prop := pairAllRow.holds Try.pinned (OpenSpec.ofChange pairAllWrong)

/-- 'kimberlitelaw04.PairOdd': WHATEVER THE INPUT: true; the input reads as it did. -/
def pairOddSpec : ChangeSpec := { name := "pairOdd", fn := fun _ => fun
  | [d1, d2, d3] => { results := [.lit (.bool true)], args := [d1, d2, d3] }
  | _ => none }
def pairOddRow : OpenClaim := { program := "ythhgdndjnflklaa", sum := "431d6d0424570f912b17c43076ea58d9e153fe765d3fcae638334c22d9a22ce5", func := "kimberlite/kimberlitelaw04.PairOdd", spec := "pairOdd", recurses := true, apart := false }
def PairOddSaid : Prop := pairOddRow.holds Try.pinned (OpenSpec.ofChange pairOddSpec)

/-- ITS FALSE NEIGHBOUR: 'it returns false'. Refute it at one input. -/
def pairOddWrong : ChangeSpec := { name := "pairOdd", fn := fun _ => fun
  | [d1, d2, d3] => { results := [.lit (.bool false)], args := [d1, d2, d3] }
  | _ => none }
def PairOddWrongFalsely : Prop := pairOddRow.holds Try.pinned (OpenSpec.ofChange pairOddWrong)

/-- 'kimberlitelaw04.PairBerge': WHATEVER THE INPUT: true; the input reads as it did. -/
def pairBergeSpec : ChangeSpec := { name := "pairBerge", fn := fun _ => fun
  | [d1, d2, d3] => { results := [.lit (.bool true)], args := [d1, d2, d3] }
  | _ => none }
def pairBergeRow : OpenClaim := { program := "ythhgdndjnflklaa", sum := "431d6d0424570f912b17c43076ea58d9e153fe765d3fcae638334c22d9a22ce5", func := "kimberlite/kimberlitelaw04.PairBerge", spec := "pairBerge", recurses := true, apart := false }
def PairBergeSaid : Prop := pairBergeRow.holds Try.pinned (OpenSpec.ofChange pairBergeSpec)

/-- ITS FALSE NEIGHBOUR: 'it returns false'. Refute it at one input. -/
def pairBergeWrong : ChangeSpec := { name := "pairBerge", fn := fun _ => fun
  | [d1, d2, d3] => { results := [.lit (.bool false)], args := [d1, d2, d3] }
  | _ => none }
def PairBergeWrongFalsely : Prop := pairBergeRow.holds Try.pinned (OpenSpec.ofChange pairBergeWrong)

/- THE SECOND FORM. 'bulk': how many values and letters a reading holds, each counted each time it is reached (what is shared counts as often as it is met; a slice's spare places count too). A statement '..UptoSaid' is the law's where the arguments, and the package variables that the reading takes, are together of bulk at most 1048576: NARROWER than '..Said'. Prove '..Said' where nothing that the law and all that it calls make is longer than what came in: it says more and counts as full. Else prove '..UptoSaid'. A law counts once. -/
mutual
def uptoBulk {H : Type} : DataW H → Nat
  | .lit (.string bytes) => bytes.length + 1
  | .lit _ => 1
  | .nil => 1
  | .ptr d => uptoBulk d + 1
  | .slice elems spare => uptoBulkAll elems + uptoBulkAll spare + 1
  | .agg parts => uptoBulkAll parts + 1
  | .iface _ d => uptoBulk d + 1
  | .map entries => uptoBulkEntries entries + 1
  | .held _ => 1
def uptoBulkAll {H : Type} : List (DataW H) → Nat
  | [] => 0
  | d :: r => uptoBulk d + uptoBulkAll r
def uptoBulkEntries {H : Type} : List (Lit × DataW H) → Nat
  | [] => 0
  | x :: r => uptoBulkEntry x + uptoBulkEntries r
def uptoBulkEntry {H : Type} : Lit × DataW H → Nat
  | (.string bytes, d) => bytes.length + uptoBulk d + 1
  | (_, d) => uptoBulk d + 1
 end
def uptoSmall : (H : Type) → List (DataW H) → Bool := fun _ ds => decide (uptoBulkAll ds ≤ 1048576)
def OpenSpec.upto (s : _root_.Go.ChangeSpec) : _root_.Go.OpenSpec := { _root_.Go.OpenSpec.ofChange s with cond := some uptoSmall }

/-- 'kimberlitelaw04.PairParts', WHERE WHAT IT READS IS OF BULK AT MOST 1048576: true; the input reads as it did. -/
def pairPartsUptoRow : OpenClaim := { program := "ythhgdndjnflklaa", sum := "431d6d0424570f912b17c43076ea58d9e153fe765d3fcae638334c22d9a22ce5", func := "kimberlite/kimberlitelaw04.PairParts", spec := "pairParts", apart := false, narrowed := true }
def PairPartsUptoSaid : Prop := pairPartsUptoRow.holds Try.pinned (OpenSpec.upto pairPartsSpec)

/-- 'kimberlitelaw04.PairGallai', WHERE WHAT IT READS IS OF BULK AT MOST 1048576: true; the input reads as it did. -/
def pairGallaiUptoRow : OpenClaim := { program := "ythhgdndjnflklaa", sum := "431d6d0424570f912b17c43076ea58d9e153fe765d3fcae638334c22d9a22ce5", func := "kimberlite/kimberlitelaw04.PairGallai", spec := "pairGallai", apart := false, narrowed := true }
def PairGallaiUptoSaid : Prop := pairGallaiUptoRow.holds Try.pinned (OpenSpec.upto pairGallaiSpec)

/-- 'kimberlitelaw04.PairMore', WHERE WHAT IT READS IS OF BULK AT MOST 1048576: true; the input reads as it did. -/
def pairMoreUptoRow : OpenClaim := { program := "ythhgdndjnflklaa", sum := "431d6d0424570f912b17c43076ea58d9e153fe765d3fcae638334c22d9a22ce5", func := "kimberlite/kimberlitelaw04.PairMore", spec := "pairMore", apart := false, narrowed := true }
def PairMoreUptoSaid : Prop := pairMoreUptoRow.holds Try.pinned (OpenSpec.upto pairMoreSpec)

/-- 'kimberlitelaw04.PairNamed', WHERE WHAT IT READS IS OF BULK AT MOST 1048576: true; the input reads as it did. -/
def pairNamedUptoRow : OpenClaim := { program := "ythhgdndjnflklaa", sum := "431d6d0424570f912b17c43076ea58d9e153fe765d3fcae638334c22d9a22ce5", func := "kimberlite/kimberlitelaw04.PairNamed", spec := "pairNamed", apart := false, narrowed := true }
def PairNamedUptoSaid : Prop := pairNamedUptoRow.holds Try.pinned (OpenSpec.upto pairNamedSpec)

/-- 'kimberlitelaw04.PairMatches', WHERE WHAT IT READS IS OF BULK AT MOST 1048576: true; the input reads as it did. -/
def pairMatchesUptoRow : OpenClaim := { program := "ythhgdndjnflklaa", sum := "431d6d0424570f912b17c43076ea58d9e153fe765d3fcae638334c22d9a22ce5", func := "kimberlite/kimberlitelaw04.PairMatches", spec := "pairMatches", apart := false, narrowed := true }
def PairMatchesUptoSaid : Prop := pairMatchesUptoRow.holds Try.pinned (OpenSpec.upto pairMatchesSpec)

/-- 'kimberlitelaw04.PairPairs', WHERE WHAT IT READS IS OF BULK AT MOST 1048576: true; the input reads as it did. -/
def pairPairsUptoRow : OpenClaim := { program := "ythhgdndjnflklaa", sum := "431d6d0424570f912b17c43076ea58d9e153fe765d3fcae638334c22d9a22ce5", func := "kimberlite/kimberlitelaw04.PairPairs", spec := "pairPairs", apart := false, narrowed := true }
def PairPairsUptoSaid : Prop := pairPairsUptoRow.holds Try.pinned (OpenSpec.upto pairPairsSpec)

/-- 'kimberlitelaw04.PairGrows', WHERE WHAT IT READS IS OF BULK AT MOST 1048576: true; the input reads as it did. -/
def pairGrowsUptoRow : OpenClaim := { program := "ythhgdndjnflklaa", sum := "431d6d0424570f912b17c43076ea58d9e153fe765d3fcae638334c22d9a22ce5", func := "kimberlite/kimberlitelaw04.PairGrows", spec := "pairGrows", apart := false, narrowed := true }
def PairGrowsUptoSaid : Prop := pairGrowsUptoRow.holds Try.pinned (OpenSpec.upto pairGrowsSpec)

/-- 'kimberlitelaw04.PairAll', WHERE WHAT IT READS IS OF BULK AT MOST 1048576: true; the input reads as it did. -/
def pairAllUptoRow : OpenClaim := { program := "ythhgdndjnflklaa", sum := "431d6d0424570f912b17c43076ea58d9e153fe765d3fcae638334c22d9a22ce5", func := "kimberlite/kimberlitelaw04.PairAll", spec := "pairAll", apart := false, narrowed := true }
def PairAllUptoSaid : Prop := pairAllUptoRow.holds Try.pinned (OpenSpec.upto pairAllSpec)

/-- 'kimberlitelaw04.PairOdd', WHERE WHAT IT READS IS OF BULK AT MOST 1048576: true; the input reads as it did. -/
def pairOddUptoRow : OpenClaim := { program := "ythhgdndjnflklaa", sum := "431d6d0424570f912b17c43076ea58d9e153fe765d3fcae638334c22d9a22ce5", func := "kimberlite/kimberlitelaw04.PairOdd", spec := "pairOdd", recurses := true, apart := false, narrowed := true }
def PairOddUptoSaid : Prop := pairOddUptoRow.holds Try.pinned (OpenSpec.upto pairOddSpec)

/-- 'kimberlitelaw04.PairBerge', WHERE WHAT IT READS IS OF BULK AT MOST 1048576: true; the input reads as it did. -/
def pairBergeUptoRow : OpenClaim := { program := "ythhgdndjnflklaa", sum := "431d6d0424570f912b17c43076ea58d9e153fe765d3fcae638334c22d9a22ce5", func := "kimberlite/kimberlitelaw04.PairBerge", spec := "pairBerge", recurses := true, apart := false, narrowed := true }
def PairBergeUptoSaid : Prop := pairBergeUptoRow.holds Try.pinned (OpenSpec.upto pairBergeSpec)

end Rows
end Go.Proofs.Ythhgdndjnflklaa
