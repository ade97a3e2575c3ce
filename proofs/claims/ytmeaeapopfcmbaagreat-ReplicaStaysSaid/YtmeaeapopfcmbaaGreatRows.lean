/-
  No cell of these rows narrows 'for every input' (looked for: loops, veiled, ifaces, maps, wideKeys, modest, calm, conditions, laid).
  DERIVED. THE GIVEN ROWS OF THIS SEAT. 12 by the template 'for every input the law returns true; each argument reads behind the call as it read before'; 0 by the template 'total and deterministic' (their statements: YtmeaeapopfcmbaaGreatTotals.lean).
  GIVEN WITH THE SEED: the statements are not yours to turn. If you find one false, say at which input.
  Laid BY PROGRAM, IN A SANDBOX (cutbox-rows.mjs): the forced cells as the released guide's own fill.sh prints them over the translation aa7a33e930b8cc83… (all of the seat's roots in one cut). By AI agents, Wed Nov 11 2026. No macro, syntax, notation, axiom, sorry.
-/
import Derived.Test.YtmeaeapopfcmbaaGreatChecked
import GoSem.Claim
import GoSem.ClaimJoined
import GoSem.ClaimMapViews
import Derived.JoinedTies
import Derived.KernelRfl
namespace Go.Proofs.YtmeaeapopfcmbaaGreat
/- THE CELL 'sum', in the pinned program and in every row, IS THE sha256 OF THE DUMP (.gsa) THAT YtmeaeapopfcmbaaGreatProg.lean LOADS. Nothing in Lean hashes anything: it is a label: what it is worth is what the hold of that sum in a sandbox is worth. -/
noncomputable def Tryz.pinned : Pinned := { name := "ytmeaeapopfcmbaagreat", sum := "aa7a33e930b8cc83d44784cf2fc4c9024b451c0cea1b86b09028d21242af22b0", checked := Tryz.checked }
namespace Rows
def none {H : Type} : Left H := { results := [], args := [] }

/-- 'kimberlitelaw08.ReplicaRight': WHATEVER THE INPUT: true; the input reads as it did. -/
def replicaRightSpec : ChangeSpec := { name := "replicaRight", fn := fun _ => fun
  | [d1, d2] => { results := [.lit (.bool true)], args := [d1, d2] }
  | _ => none }
def replicaRightRow : OpenClaim := { program := "ytmeaeapopfcmbaagreat", sum := "aa7a33e930b8cc83d44784cf2fc4c9024b451c0cea1b86b09028d21242af22b0", func := "kimberlite/kimberlitelaw08.ReplicaRight", spec := "replicaRight", inPlace := ["internal/bytealg.abigen_runtime_cmpstring", "maps.clone"], unfollowed := true, recurses := true, plainKeys := false, apart := false }
def ReplicaRightSaid : Prop := replicaRightRow.holds Tryz.pinned (OpenSpec.ofChange replicaRightSpec)

/-- ITS FALSE NEIGHBOUR: 'it returns false'. Refute it at one input. -/
def replicaRightWrong : ChangeSpec := { name := "replicaRight", fn := fun _ => fun
  | [d1, d2] => { results := [.lit (.bool false)], args := [d1, d2] }
  | _ => none }
def ReplicaRightWrongFalsely : Prop := replicaRightRow.holds Tryz.pinned (OpenSpec.ofChange replicaRightWrong)

/-- 'kimberlitelaw08.ReplicaFull': WHATEVER THE INPUT: true; the input reads as it did. -/
def replicaFullSpec : ChangeSpec := { name := "replicaFull", fn := fun _ => fun
  | [d] => { results := [.lit (.bool true)], args := [d] }
  | _ => none }
def replicaFullRow : OpenClaim := { program := "ytmeaeapopfcmbaagreat", sum := "aa7a33e930b8cc83d44784cf2fc4c9024b451c0cea1b86b09028d21242af22b0", func := "kimberlite/kimberlitelaw08.ReplicaFull", spec := "replicaFull", inPlace := ["internal/bytealg.abigen_runtime_cmpstring", "maps.clone"], unfollowed := true, recurses := true, plainKeys := false, apart := false }
def ReplicaFullSaid : Prop := replicaFullRow.holds Tryz.pinned (OpenSpec.ofChange replicaFullSpec)

/-- ITS FALSE NEIGHBOUR: 'it returns false'. Refute it at one input. -/
def replicaFullWrong : ChangeSpec := { name := "replicaFull", fn := fun _ => fun
  | [d] => { results := [.lit (.bool false)], args := [d] }
  | _ => none }
def ReplicaFullWrongFalsely : Prop := replicaFullRow.holds Tryz.pinned (OpenSpec.ofChange replicaFullWrong)

/-- 'kimberlitelaw08.ReplicaSafe': WHATEVER THE INPUT: true; the input reads as it did. -/
def replicaSafeSpec : ChangeSpec := { name := "replicaSafe", fn := fun _ => fun
  | [d1, d2] => { results := [.lit (.bool true)], args := [d1, d2] }
  | _ => none }
def replicaSafeRow : OpenClaim := { program := "ytmeaeapopfcmbaagreat", sum := "aa7a33e930b8cc83d44784cf2fc4c9024b451c0cea1b86b09028d21242af22b0", func := "kimberlite/kimberlitelaw08.ReplicaSafe", spec := "replicaSafe", inPlace := ["internal/bytealg.abigen_runtime_cmpstring", "maps.clone"], unfollowed := true, recurses := true, plainKeys := false, apart := false }
def ReplicaSafeSaid : Prop := replicaSafeRow.holds Tryz.pinned (OpenSpec.ofChange replicaSafeSpec)

/-- ITS FALSE NEIGHBOUR: 'it returns false'. Refute it at one input. -/
def replicaSafeWrong : ChangeSpec := { name := "replicaSafe", fn := fun _ => fun
  | [d1, d2] => { results := [.lit (.bool false)], args := [d1, d2] }
  | _ => none }
def ReplicaSafeWrongFalsely : Prop := replicaSafeRow.holds Tryz.pinned (OpenSpec.ofChange replicaSafeWrong)

/-- 'kimberlitelaw08.ReplicaNever': WHATEVER THE INPUT: true; the input reads as it did. -/
def replicaNeverSpec : ChangeSpec := { name := "replicaNever", fn := fun _ => fun
  | [d1, d2] => { results := [.lit (.bool true)], args := [d1, d2] }
  | _ => none }
def replicaNeverRow : OpenClaim := { program := "ytmeaeapopfcmbaagreat", sum := "aa7a33e930b8cc83d44784cf2fc4c9024b451c0cea1b86b09028d21242af22b0", func := "kimberlite/kimberlitelaw08.ReplicaNever", spec := "replicaNever", inPlace := ["internal/bytealg.abigen_runtime_cmpstring", "maps.clone"], unfollowed := true, recurses := true, plainKeys := false, apart := false }
def ReplicaNeverSaid : Prop := replicaNeverRow.holds Tryz.pinned (OpenSpec.ofChange replicaNeverSpec)

/-- ITS FALSE NEIGHBOUR: 'it returns false'. Refute it at one input. -/
def replicaNeverWrong : ChangeSpec := { name := "replicaNever", fn := fun _ => fun
  | [d1, d2] => { results := [.lit (.bool false)], args := [d1, d2] }
  | _ => none }
def ReplicaNeverWrongFalsely : Prop := replicaNeverRow.holds Tryz.pinned (OpenSpec.ofChange replicaNeverWrong)

/-- 'kimberlitelaw08.ReplicaLast': WHATEVER THE INPUT: true; the input reads as it did. -/
def replicaLastSpec : ChangeSpec := { name := "replicaLast", fn := fun _ => fun
  | [d1, d2, d3] => { results := [.lit (.bool true)], args := [d1, d2, d3] }
  | _ => none }
def replicaLastRow : OpenClaim := { program := "ytmeaeapopfcmbaagreat", sum := "aa7a33e930b8cc83d44784cf2fc4c9024b451c0cea1b86b09028d21242af22b0", func := "kimberlite/kimberlitelaw08.ReplicaLast", spec := "replicaLast", inPlace := ["internal/bytealg.abigen_runtime_cmpstring", "maps.clone"], unfollowed := true, recurses := true, plainKeys := false, apart := false }
def ReplicaLastSaid : Prop := replicaLastRow.holds Tryz.pinned (OpenSpec.ofChange replicaLastSpec)

/-- ITS FALSE NEIGHBOUR: 'it returns false'. Refute it at one input. -/
def replicaLastWrong : ChangeSpec := { name := "replicaLast", fn := fun _ => fun
  | [d1, d2, d3] => { results := [.lit (.bool false)], args := [d1, d2, d3] }
  | _ => none }
def ReplicaLastWrongFalsely : Prop := replicaLastRow.holds Tryz.pinned (OpenSpec.ofChange replicaLastWrong)

/-- 'kimberlitelaw08.ReplicaMerges': WHATEVER THE INPUT: true; the input reads as it did. -/
def replicaMergesSpec : ChangeSpec := { name := "replicaMerges", fn := fun _ => fun
  | [d1, d2] => { results := [.lit (.bool true)], args := [d1, d2] }
  | _ => none }
def replicaMergesRow : OpenClaim := { program := "ytmeaeapopfcmbaagreat", sum := "aa7a33e930b8cc83d44784cf2fc4c9024b451c0cea1b86b09028d21242af22b0", func := "kimberlite/kimberlitelaw08.ReplicaMerges", spec := "replicaMerges", inPlace := ["internal/bytealg.abigen_runtime_cmpstring", "maps.clone"], unfollowed := true, recurses := true, plainKeys := false, apart := false }
def ReplicaMergesSaid : Prop := replicaMergesRow.holds Tryz.pinned (OpenSpec.ofChange replicaMergesSpec)

/-- ITS FALSE NEIGHBOUR: 'it returns false'. Refute it at one input. -/
def replicaMergesWrong : ChangeSpec := { name := "replicaMerges", fn := fun _ => fun
  | [d1, d2] => { results := [.lit (.bool false)], args := [d1, d2] }
  | _ => none }
def ReplicaMergesWrongFalsely : Prop := replicaMergesRow.holds Tryz.pinned (OpenSpec.ofChange replicaMergesWrong)

/-- 'kimberlitelaw08.ReplicaLattice': WHATEVER THE INPUT: true; the input reads as it did. -/
def replicaLatticeSpec : ChangeSpec := { name := "replicaLattice", fn := fun _ => fun
  | [d1, d2, d3] => { results := [.lit (.bool true)], args := [d1, d2, d3] }
  | _ => none }
def replicaLatticeRow : OpenClaim := { program := "ytmeaeapopfcmbaagreat", sum := "aa7a33e930b8cc83d44784cf2fc4c9024b451c0cea1b86b09028d21242af22b0", func := "kimberlite/kimberlitelaw08.ReplicaLattice", spec := "replicaLattice", inPlace := ["internal/bytealg.abigen_runtime_cmpstring", "maps.clone"], unfollowed := true, recurses := true, plainKeys := false, apart := false }
def ReplicaLatticeSaid : Prop := replicaLatticeRow.holds Tryz.pinned (OpenSpec.ofChange replicaLatticeSpec)

/-- ITS FALSE NEIGHBOUR: 'it returns false'. Refute it at one input. -/
def replicaLatticeWrong : ChangeSpec := { name := "replicaLattice", fn := fun _ => fun
  | [d1, d2, d3] => { results := [.lit (.bool false)], args := [d1, d2, d3] }
  | _ => none }
def ReplicaLatticeWrongFalsely : Prop := replicaLatticeRow.holds Tryz.pinned (OpenSpec.ofChange replicaLatticeWrong)

/-- 'kimberlitelaw08.ReplicaPlays': WHATEVER THE INPUT: true; the input reads as it did. -/
def replicaPlaysSpec : ChangeSpec := { name := "replicaPlays", fn := fun _ => fun
  | [d1, d2, d3] => { results := [.lit (.bool true)], args := [d1, d2, d3] }
  | _ => none }
def replicaPlaysRow : OpenClaim := { program := "ytmeaeapopfcmbaagreat", sum := "aa7a33e930b8cc83d44784cf2fc4c9024b451c0cea1b86b09028d21242af22b0", func := "kimberlite/kimberlitelaw08.ReplicaPlays", spec := "replicaPlays", inPlace := ["internal/bytealg.abigen_runtime_cmpstring", "maps.clone"], unfollowed := true, recurses := true, plainKeys := false, apart := false }
def ReplicaPlaysSaid : Prop := replicaPlaysRow.holds Tryz.pinned (OpenSpec.ofChange replicaPlaysSpec)

/-- ITS FALSE NEIGHBOUR: 'it returns false'. Refute it at one input. -/
def replicaPlaysWrong : ChangeSpec := { name := "replicaPlays", fn := fun _ => fun
  | [d1, d2, d3] => { results := [.lit (.bool false)], args := [d1, d2, d3] }
  | _ => none }
def ReplicaPlaysWrongFalsely : Prop := replicaPlaysRow.holds Tryz.pinned (OpenSpec.ofChange replicaPlaysWrong)

/-- 'kimberlitelaw08.ReplicaNobody': WHATEVER THE INPUT: true; the input reads as it did. -/
def replicaNobodySpec : ChangeSpec := { name := "replicaNobody", fn := fun _ => fun
  | [d1, d2] => { results := [.lit (.bool true)], args := [d1, d2] }
  | _ => none }
def replicaNobodyRow : OpenClaim := { program := "ytmeaeapopfcmbaagreat", sum := "aa7a33e930b8cc83d44784cf2fc4c9024b451c0cea1b86b09028d21242af22b0", func := "kimberlite/kimberlitelaw08.ReplicaNobody", spec := "replicaNobody", inPlace := ["internal/bytealg.abigen_runtime_cmpstring", "maps.clone"], unfollowed := true, recurses := true, plainKeys := false, apart := false }
def ReplicaNobodySaid : Prop := replicaNobodyRow.holds Tryz.pinned (OpenSpec.ofChange replicaNobodySpec)

/-- ITS FALSE NEIGHBOUR: 'it returns false'. Refute it at one input. -/
def replicaNobodyWrong : ChangeSpec := { name := "replicaNobody", fn := fun _ => fun
  | [d1, d2] => { results := [.lit (.bool false)], args := [d1, d2] }
  | _ => none }
def ReplicaNobodyWrongFalsely : Prop := replicaNobodyRow.holds Tryz.pinned (OpenSpec.ofChange replicaNobodyWrong)

/-- 'kimberlitelaw08.ReplicaCopies': WHATEVER THE INPUT: true; the input reads as it did. -/
def replicaCopiesSpec : ChangeSpec := { name := "replicaCopies", fn := fun _ => fun
  | [d1, d2, d3] => { results := [.lit (.bool true)], args := [d1, d2, d3] }
  | _ => none }
def replicaCopiesRow : OpenClaim := { program := "ytmeaeapopfcmbaagreat", sum := "aa7a33e930b8cc83d44784cf2fc4c9024b451c0cea1b86b09028d21242af22b0", func := "kimberlite/kimberlitelaw08.ReplicaCopies", spec := "replicaCopies", inPlace := ["internal/bytealg.abigen_runtime_cmpstring", "maps.clone"], unfollowed := true, recurses := true, plainKeys := false, apart := false }
def ReplicaCopiesSaid : Prop := replicaCopiesRow.holds Tryz.pinned (OpenSpec.ofChange replicaCopiesSpec)

/-- ITS FALSE NEIGHBOUR: 'it returns false'. Refute it at one input. -/
def replicaCopiesWrong : ChangeSpec := { name := "replicaCopies", fn := fun _ => fun
  | [d1, d2, d3] => { results := [.lit (.bool false)], args := [d1, d2, d3] }
  | _ => none }
def ReplicaCopiesWrongFalsely : Prop := replicaCopiesRow.holds Tryz.pinned (OpenSpec.ofChange replicaCopiesWrong)

/-- 'kimberlitelaw08.ReplicaSame': WHATEVER THE INPUT: true; the input reads as it did. -/
def replicaSameSpec : ChangeSpec := { name := "replicaSame", fn := fun _ => fun
  | [d1, d2, d3] => { results := [.lit (.bool true)], args := [d1, d2, d3] }
  | _ => none }
def replicaSameRow : OpenClaim := { program := "ytmeaeapopfcmbaagreat", sum := "aa7a33e930b8cc83d44784cf2fc4c9024b451c0cea1b86b09028d21242af22b0", func := "kimberlite/kimberlitelaw08.ReplicaSame", spec := "replicaSame", inPlace := ["internal/bytealg.abigen_runtime_cmpstring", "maps.clone"], unfollowed := true, recurses := true, plainKeys := false, apart := false }
def ReplicaSameSaid : Prop := replicaSameRow.holds Tryz.pinned (OpenSpec.ofChange replicaSameSpec)

/-- ITS FALSE NEIGHBOUR: 'it returns false'. Refute it at one input. -/
def replicaSameWrong : ChangeSpec := { name := "replicaSame", fn := fun _ => fun
  | [d1, d2, d3] => { results := [.lit (.bool false)], args := [d1, d2, d3] }
  | _ => none }
def ReplicaSameWrongFalsely : Prop := replicaSameRow.holds Tryz.pinned (OpenSpec.ofChange replicaSameWrong)

/-- 'kimberlitelaw08.ReplicaStays': WHATEVER THE INPUT: true; the input reads as it did. -/
def replicaStaysSpec : ChangeSpec := { name := "replicaStays", fn := fun _ => fun
  | [d1, d2, d3] => { results := [.lit (.bool true)], args := [d1, d2, d3] }
  | _ => none }
def replicaStaysRow : OpenClaim := { program := "ytmeaeapopfcmbaagreat", sum := "aa7a33e930b8cc83d44784cf2fc4c9024b451c0cea1b86b09028d21242af22b0", func := "kimberlite/kimberlitelaw08.ReplicaStays", spec := "replicaStays", inPlace := ["internal/bytealg.abigen_runtime_cmpstring", "maps.clone"], unfollowed := true, recurses := true, plainKeys := false, apart := false }
def ReplicaStaysSaid : Prop := replicaStaysRow.holds Tryz.pinned (OpenSpec.ofChange replicaStaysSpec)

/-- ITS FALSE NEIGHBOUR: 'it returns false'. Refute it at one input. -/
def replicaStaysWrong : ChangeSpec := { name := "replicaStays", fn := fun _ => fun
  | [d1, d2, d3] => { results := [.lit (.bool false)], args := [d1, d2, d3] }
  | _ => none }
def ReplicaStaysWrongFalsely : Prop := replicaStaysRow.holds Tryz.pinned (OpenSpec.ofChange replicaStaysWrong)

/- THE SECOND FORM. 'bulk': how many values and letters a reading holds, each counted each time it is reached (what is shared counts as often as it is met; a slice's spare places count too). A statement '..UptoSaid' is the law's where the arguments, and the package variables that the reading takes, are together of bulk at most 1048576: NARROWER than '..Said'. Prove '..Said' where nothing that the law and all that it calls make is longer than what came in: it says more and counts as full. Else prove '..UptoSaid'. A law counts once. -/
mutual
def uptoBulk {H : Type} : DataW H → Nat
  | .lit (.string bytes) => bytes.length + 1
  | .lit _ => 1
  | .nil => 1
  | .ptr d => uptoBulk d + 1
  | .slice elems spare => uptoBulkAll elems + uptoBulkAll spare + 1
  | .agg parts => uptoBulkAll parts + 1
  | .iface _ d => uptoBulk d + 1
  | .map entries => uptoBulkEntries entries + 1
  | .held _ => 1
def uptoBulkAll {H : Type} : List (DataW H) → Nat
  | [] => 0
  | d :: r => uptoBulk d + uptoBulkAll r
def uptoBulkEntries {H : Type} : List (Lit × DataW H) → Nat
  | [] => 0
  | x :: r => uptoBulkEntry x + uptoBulkEntries r
def uptoBulkEntry {H : Type} : Lit × DataW H → Nat
  | (.string bytes, d) => bytes.length + uptoBulk d + 1
  | (_, d) => uptoBulk d + 1
 end
def uptoSmall : (H : Type) → List (DataW H) → Bool := fun _ ds => decide (uptoBulkAll ds ≤ 1048576)
def OpenSpec.upto (s : _root_.Go.ChangeSpec) : _root_.Go.OpenSpec := { _root_.Go.OpenSpec.ofChange s with cond := some uptoSmall }

/-- 'kimberlitelaw08.ReplicaRight', WHERE WHAT IT READS IS OF BULK AT MOST 1048576: true; the input reads as it did. -/
def replicaRightUptoRow : OpenClaim := { program := "ytmeaeapopfcmbaagreat", sum := "aa7a33e930b8cc83d44784cf2fc4c9024b451c0cea1b86b09028d21242af22b0", func := "kimberlite/kimberlitelaw08.ReplicaRight", spec := "replicaRight", inPlace := ["internal/bytealg.abigen_runtime_cmpstring", "maps.clone"], unfollowed := true, recurses := true, plainKeys := false, apart := false, narrowed := true }
def ReplicaRightUptoSaid : Prop := replicaRightUptoRow.holds Tryz.pinned (OpenSpec.upto replicaRightSpec)

/-- 'kimberlitelaw08.ReplicaFull', WHERE WHAT IT READS IS OF BULK AT MOST 1048576: true; the input reads as it did. -/
def replicaFullUptoRow : OpenClaim := { program := "ytmeaeapopfcmbaagreat", sum := "aa7a33e930b8cc83d44784cf2fc4c9024b451c0cea1b86b09028d21242af22b0", func := "kimberlite/kimberlitelaw08.ReplicaFull", spec := "replicaFull", inPlace := ["internal/bytealg.abigen_runtime_cmpstring", "maps.clone"], unfollowed := true, recurses := true, plainKeys := false, apart := false, narrowed := true }
def ReplicaFullUptoSaid : Prop := replicaFullUptoRow.holds Tryz.pinned (OpenSpec.upto replicaFullSpec)

/-- 'kimberlitelaw08.ReplicaSafe', WHERE WHAT IT READS IS OF BULK AT MOST 1048576: true; the input reads as it did. -/
def replicaSafeUptoRow : OpenClaim := { program := "ytmeaeapopfcmbaagreat", sum := "aa7a33e930b8cc83d44784cf2fc4c9024b451c0cea1b86b09028d21242af22b0", func := "kimberlite/kimberlitelaw08.ReplicaSafe", spec := "replicaSafe", inPlace := ["internal/bytealg.abigen_runtime_cmpstring", "maps.clone"], unfollowed := true, recurses := true, plainKeys := false, apart := false, narrowed := true }
def ReplicaSafeUptoSaid : Prop := replicaSafeUptoRow.holds Tryz.pinned (OpenSpec.upto replicaSafeSpec)

/-- 'kimberlitelaw08.ReplicaNever', WHERE WHAT IT READS IS OF BULK AT MOST 1048576: true; the input reads as it did. -/
def replicaNeverUptoRow : OpenClaim := { program := "ytmeaeapopfcmbaagreat", sum := "aa7a33e930b8cc83d44784cf2fc4c9024b451c0cea1b86b09028d21242af22b0", func := "kimberlite/kimberlitelaw08.ReplicaNever", spec := "replicaNever", inPlace := ["internal/bytealg.abigen_runtime_cmpstring", "maps.clone"], unfollowed := true, recurses := true, plainKeys := false, apart := false, narrowed := true }
def ReplicaNeverUptoSaid : Prop := replicaNeverUptoRow.holds Tryz.pinned (OpenSpec.upto replicaNeverSpec)

/-- 'kimberlitelaw08.ReplicaLast', WHERE WHAT IT READS IS OF BULK AT MOST 1048576: true; the input reads as it did. -/
def replicaLastUptoRow : OpenClaim := { program := "ytmeaeapopfcmbaagreat", sum := "aa7a33e930b8cc83d44784cf2fc4c9024b451c0cea1b86b09028d21242af22b0", func := "kimberlite/kimberlitelaw08.ReplicaLast", spec := "replicaLast", inPlace := ["internal/bytealg.abigen_runtime_cmpstring", "maps.clone"], unfollowed := true, recurses := true, plainKeys := false, apart := false, narrowed := true }
def ReplicaLastUptoSaid : Prop := replicaLastUptoRow.holds Tryz.pinned (OpenSpec.upto replicaLastSpec)

/-- 'kimberlitelaw08.ReplicaMerges', WHERE WHAT IT READS IS OF BULK AT MOST 1048576: true; the input reads as it did. -/
def replicaMergesUptoRow : OpenClaim := { program := "ytmeaeapopfcmbaagreat", sum := "aa7a33e930b8cc83d44784cf2fc4c9024b451c0cea1b86b09028d21242af22b0", func := "kimberlite/kimberlitelaw08.ReplicaMerges", spec := "replicaMerges", inPlace := ["internal/bytealg.abigen_runtime_cmpstring", "maps.clone"], unfollowed := true, recurses := true, plainKeys := false, apart := false, narrowed := true }
def ReplicaMergesUptoSaid : Prop := replicaMergesUptoRow.holds Tryz.pinned (OpenSpec.upto replicaMergesSpec)

/-- 'kimberlitelaw08.ReplicaLattice', WHERE WHAT IT READS IS OF BULK AT MOST 1048576: true; the input reads as it did. -/
def replicaLatticeUptoRow : OpenClaim := { program := "ytmeaeapopfcmbaagreat", sum := "aa7a33e930b8cc83d44784cf2fc4c9024b451c0cea1b86b09028d21242af22b0", func := "kimberlite/kimberlitelaw08.ReplicaLattice", spec := "replicaLattice", inPlace := ["internal/bytealg.abigen_runtime_cmpstring", "maps.clone"], unfollowed := true, recurses := true, plainKeys := false, apart := false, narrowed := true }
def ReplicaLatticeUptoSaid : Prop := replicaLatticeUptoRow.holds Tryz.pinned (OpenSpec.upto replicaLatticeSpec)

/-- 'kimberlitelaw08.ReplicaPlays', WHERE WHAT IT READS IS OF BULK AT MOST 1048576: true; the input reads as it did. -/
def replicaPlaysUptoRow : OpenClaim := { program := "ytmeaeapopfcmbaagreat", sum := "aa7a33e930b8cc83d44784cf2fc4c9024b451c0cea1b86b09028d21242af22b0", func := "kimberlite/kimberlitelaw08.ReplicaPlays", spec := "replicaPlays", inPlace := ["internal/bytealg.abigen_runtime_cmpstring", "maps.clone"], unfollowed := true, recurses := true, plainKeys := false, apart := false, narrowed := true }
def ReplicaPlaysUptoSaid : Prop := replicaPlaysUptoRow.holds Tryz.pinned (OpenSpec.upto replicaPlaysSpec)

/-- 'kimberlitelaw08.ReplicaNobody', WHERE WHAT IT READS IS OF BULK AT MOST 1048576: true; the input reads as it did. -/
def replicaNobodyUptoRow : OpenClaim := { program := "ytmeaeapopfcmbaagreat", sum := "aa7a33e930b8cc83d44784cf2fc4c9024b451c0cea1b86b09028d21242af22b0", func := "kimberlite/kimberlitelaw08.ReplicaNobody", spec := "replicaNobody", inPlace := ["internal/bytealg.abigen_runtime_cmpstring", "maps.clone"], unfollowed := true, recurses := true, plainKeys := false, apart := false, narrowed := true }
def ReplicaNobodyUptoSaid : Prop := replicaNobodyUptoRow.holds Tryz.pinned (OpenSpec.upto replicaNobodySpec)

/-- 'kimberlitelaw08.ReplicaCopies', WHERE WHAT IT READS IS OF BULK AT MOST 1048576: true; the input reads as it did. -/
def replicaCopiesUptoRow : OpenClaim := { program := "ytmeaeapopfcmbaagreat", sum := "aa7a33e930b8cc83d44784cf2fc4c9024b451c0cea1b86b09028d21242af22b0", func := "kimberlite/kimberlitelaw08.ReplicaCopies", spec := "replicaCopies", inPlace := ["internal/bytealg.abigen_runtime_cmpstring", "maps.clone"], unfollowed := true, recurses := true, plainKeys := false, apart := false, narrowed := true }
def ReplicaCopiesUptoSaid : Prop := replicaCopiesUptoRow.holds Tryz.pinned (OpenSpec.upto replicaCopiesSpec)

/-- 'kimberlitelaw08.ReplicaSame', WHERE WHAT IT READS IS OF BULK AT MOST 1048576: true; the input reads as it did. -/
def replicaSameUptoRow : OpenClaim := { program := "ytmeaeapopfcmbaagreat", sum := "aa7a33e930b8cc83d44784cf2fc4c9024b451c0cea1b86b09028d21242af22b0", func := "kimberlite/kimberlitelaw08.ReplicaSame", spec := "replicaSame", inPlace := ["internal/bytealg.abigen_runtime_cmpstring", "maps.clone"], unfollowed := true, recurses := true, plainKeys := false, apart := false, narrowed := true }
def ReplicaSameUptoSaid : Prop := replicaSameUptoRow.holds Tryz.pinned (OpenSpec.upto replicaSameSpec)

/-- 'kimberlitelaw08.ReplicaStays', WHERE WHAT IT READS IS OF BULK AT MOST 1048576: true; the input reads as it did. -/
def replicaStaysUptoRow : OpenClaim := { program := "ytmeaeapopfcmbaagreat", sum := "aa7a33e930b8cc83d44784cf2fc4c9024b451c0cea1b86b09028d21242af22b0", func := "kimberlite/kimberlitelaw08.ReplicaStays", spec := "replicaStays", inPlace := ["internal/bytealg.abigen_runtime_cmpstring", "maps.clone"], unfollowed := true, recurses := true, plainKeys := false, apart := false, narrowed := true }
def ReplicaStaysUptoSaid : Prop := replicaStaysUptoRow.holds Tryz.pinned (OpenSpec.upto replicaStaysSpec)

end Rows
end Go.Proofs.YtmeaeapopfcmbaaGreat
