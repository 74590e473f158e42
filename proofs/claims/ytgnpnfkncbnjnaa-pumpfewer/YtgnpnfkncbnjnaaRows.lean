/-
  No cell of these rows narrows 'for every input' (looked for: loops, veiled, ifaces, maps, wideKeys, modest, calm, conditions, laid).
  DERIVED. THE GIVEN ROWS OF THIS SEAT. 17 by the template 'for every input the law returns true; each argument reads behind the call as it read before'; 0 by the template 'total and deterministic' (their statements: YtgnpnfkncbnjnaaTotals.lean).
  GIVEN WITH THE SEED: the statements are not yours to turn. If you find one false, say at which input.
  Laid BY PROGRAM, IN A SANDBOX (cutbox-rows.mjs): the forced cells as the released guide's own fill.sh prints them over the translation 86a4c1fede766cc0… (all of the seat's roots in one cut). By AI agents, Wed Nov 11 2026. No macro, syntax, notation, axiom, sorry.
-/
import Derived.Test.YtgnpnfkncbnjnaaChecked
import GoSem.Claim
import GoSem.ClaimJoined
import GoSem.ClaimMapViews
import Derived.JoinedTies
import Derived.KernelRfl
namespace Go.Proofs.Ytgnpnfkncbnjnaa
/- THE CELL 'sum', in the pinned program and in every row, IS THE sha256 OF THE DUMP (.gsa) THAT YtgnpnfkncbnjnaaProg.lean LOADS. Nothing in Lean hashes anything: it is a label: what it is worth is what the hold of that sum in a sandbox is worth. -/
noncomputable def Try.pinned : Pinned := { name := "ytgnpnfkncbnjnaa", sum := "86a4c1fede766cc09c54ef94dc1d017ef6c72250e2012513938bac8eab4bef80", checked := Try.checked }
namespace Rows
def none {H : Type} : Left H := { results := [], args := [] }

/-- 'thermiontop.TopBakes': WHATEVER THE INPUT: true; the input reads as it did. -/
def topBakesSpec : ChangeSpec := { name := "topBakes", fn := fun _ => fun
  | [d] => { results := [.lit (.bool true)], args := [d] }
  | _ => none }
def topBakesRow : OpenClaim := { program := "ytgnpnfkncbnjnaa", sum := "86a4c1fede766cc09c54ef94dc1d017ef6c72250e2012513938bac8eab4bef80", func := "thermion/thermiontop.TopBakes", spec := "topBakes", unfollowed := true, recurses := true, apart := false }
def TopBakesSaid : Prop := topBakesRow.holds Try.pinned (OpenSpec.ofChange topBakesSpec)

/-- ITS FALSE NEIGHBOUR: 'it returns false'. Refute it at one input. -/
def topBakesWrong : ChangeSpec := { name := "topBakes", fn := fun _ => fun
  | [d] => { results := [.lit (.bool false)], args := [d] }
  | _ => none }
def TopBakesWrongFalsely : Prop := topBakesRow.holds Try.pinned (OpenSpec.ofChange topBakesWrong)

/-- 'thermionlaw06.PumpExact': WHATEVER THE INPUT: true; the input reads as it did. -/
def pumpExactSpec : ChangeSpec := { name := "pumpExact", fn := fun _ => fun
  | [d1, d2] => { results := [.lit (.bool true)], args := [d1, d2] }
  | _ => none }
def pumpExactRow : OpenClaim := { program := "ytgnpnfkncbnjnaa", sum := "86a4c1fede766cc09c54ef94dc1d017ef6c72250e2012513938bac8eab4bef80", func := "thermion/thermionlaw06.PumpExact", spec := "pumpExact", unfollowed := true, recurses := true, apart := false }
def PumpExactSaid : Prop := pumpExactRow.holds Try.pinned (OpenSpec.ofChange pumpExactSpec)

/-- ITS FALSE NEIGHBOUR: 'it returns false'. Refute it at one input. -/
def pumpExactWrong : ChangeSpec := { name := "pumpExact", fn := fun _ => fun
  | [d1, d2] => { results := [.lit (.bool false)], args := [d1, d2] }
  | _ => none }
def PumpExactWrongFalsely : Prop := pumpExactRow.holds Try.pinned (OpenSpec.ofChange pumpExactWrong)

/-- 'thermionlaw06.PumpLeast': WHATEVER THE INPUT: true; the input reads as it did. -/
def pumpLeastSpec : ChangeSpec := { name := "pumpLeast", fn := fun _ => fun
  | [d] => { results := [.lit (.bool true)], args := [d] }
  | _ => none }
def pumpLeastRow : OpenClaim := { program := "ytgnpnfkncbnjnaa", sum := "86a4c1fede766cc09c54ef94dc1d017ef6c72250e2012513938bac8eab4bef80", func := "thermion/thermionlaw06.PumpLeast", spec := "pumpLeast", unfollowed := true, recurses := true, apart := false }
def PumpLeastSaid : Prop := pumpLeastRow.holds Try.pinned (OpenSpec.ofChange pumpLeastSpec)

/-- ITS FALSE NEIGHBOUR: 'it returns false'. Refute it at one input. -/
def pumpLeastWrong : ChangeSpec := { name := "pumpLeast", fn := fun _ => fun
  | [d] => { results := [.lit (.bool false)], args := [d] }
  | _ => none }
def PumpLeastWrongFalsely : Prop := pumpLeastRow.holds Try.pinned (OpenSpec.ofChange pumpLeastWrong)

/-- 'thermionlaw06.PumpRows': WHATEVER THE INPUT: true; the input reads as it did. -/
def pumpRowsSpec : ChangeSpec := { name := "pumpRows", fn := fun _ => fun
  | [d] => { results := [.lit (.bool true)], args := [d] }
  | _ => none }
def pumpRowsRow : OpenClaim := { program := "ytgnpnfkncbnjnaa", sum := "86a4c1fede766cc09c54ef94dc1d017ef6c72250e2012513938bac8eab4bef80", func := "thermion/thermionlaw06.PumpRows", spec := "pumpRows", unfollowed := true, recurses := true, apart := false }
def PumpRowsSaid : Prop := pumpRowsRow.holds Try.pinned (OpenSpec.ofChange pumpRowsSpec)

/-- ITS FALSE NEIGHBOUR: 'it returns false'. Refute it at one input. -/
def pumpRowsWrong : ChangeSpec := { name := "pumpRows", fn := fun _ => fun
  | [d] => { results := [.lit (.bool false)], args := [d] }
  | _ => none }
def PumpRowsWrongFalsely : Prop := pumpRowsRow.holds Try.pinned (OpenSpec.ofChange pumpRowsWrong)

/-- 'thermionlaw06.PumpFewer': WHATEVER THE INPUT: true; the input reads as it did. -/
def pumpFewerSpec : ChangeSpec := { name := "pumpFewer", fn := fun _ => fun
  | [d] => { results := [.lit (.bool true)], args := [d] }
  | _ => none }
def pumpFewerRow : OpenClaim := { program := "ytgnpnfkncbnjnaa", sum := "86a4c1fede766cc09c54ef94dc1d017ef6c72250e2012513938bac8eab4bef80", func := "thermion/thermionlaw06.PumpFewer", spec := "pumpFewer", unfollowed := true, recurses := true, apart := false }
def PumpFewerSaid : Prop := pumpFewerRow.holds Try.pinned (OpenSpec.ofChange pumpFewerSpec)

/-- ITS FALSE NEIGHBOUR: 'it returns false'. Refute it at one input. -/
def pumpFewerWrong : ChangeSpec := { name := "pumpFewer", fn := fun _ => fun
  | [d] => { results := [.lit (.bool false)], args := [d] }
  | _ => none }
def PumpFewerWrongFalsely : Prop := pumpFewerRow.holds Try.pinned (OpenSpec.ofChange pumpFewerWrong)

/-- 'thermionlaw06.PumpKept': WHATEVER THE INPUT: true; the input reads as it did. -/
def pumpKeptSpec : ChangeSpec := { name := "pumpKept", fn := fun _ => fun
  | [d] => { results := [.lit (.bool true)], args := [d] }
  | _ => none }
def pumpKeptRow : OpenClaim := { program := "ytgnpnfkncbnjnaa", sum := "86a4c1fede766cc09c54ef94dc1d017ef6c72250e2012513938bac8eab4bef80", func := "thermion/thermionlaw06.PumpKept", spec := "pumpKept", unfollowed := true, recurses := true, apart := false }
def PumpKeptSaid : Prop := pumpKeptRow.holds Try.pinned (OpenSpec.ofChange pumpKeptSpec)

/-- ITS FALSE NEIGHBOUR: 'it returns false'. Refute it at one input. -/
def pumpKeptWrong : ChangeSpec := { name := "pumpKept", fn := fun _ => fun
  | [d] => { results := [.lit (.bool false)], args := [d] }
  | _ => none }
def PumpKeptWrongFalsely : Prop := pumpKeptRow.holds Try.pinned (OpenSpec.ofChange pumpKeptWrong)

/-- 'thermionlaw06.PumpChecks': WHATEVER THE INPUT: true; the input reads as it did. -/
def pumpChecksSpec : ChangeSpec := { name := "pumpChecks", fn := fun _ => fun
  | [d1, d2, d3] => { results := [.lit (.bool true)], args := [d1, d2, d3] }
  | _ => none }
def pumpChecksRow : OpenClaim := { program := "ytgnpnfkncbnjnaa", sum := "86a4c1fede766cc09c54ef94dc1d017ef6c72250e2012513938bac8eab4bef80", func := "thermion/thermionlaw06.PumpChecks", spec := "pumpChecks", unfollowed := true, recurses := true, apart := false }
def PumpChecksSaid : Prop := pumpChecksRow.holds Try.pinned (OpenSpec.ofChange pumpChecksSpec)

/-- ITS FALSE NEIGHBOUR: 'it returns false'. Refute it at one input. -/
def pumpChecksWrong : ChangeSpec := { name := "pumpChecks", fn := fun _ => fun
  | [d1, d2, d3] => { results := [.lit (.bool false)], args := [d1, d2, d3] }
  | _ => none }
def PumpChecksWrongFalsely : Prop := pumpChecksRow.holds Try.pinned (OpenSpec.ofChange pumpChecksWrong)

/-- 'thermionlaw06.PumpHunts': WHATEVER THE INPUT: true; the input reads as it did. -/
def pumpHuntsSpec : ChangeSpec := { name := "pumpHunts", fn := fun _ => fun
  | [d1, d2, d3, d4] => { results := [.lit (.bool true)], args := [d1, d2, d3, d4] }
  | _ => none }
def pumpHuntsRow : OpenClaim := { program := "ytgnpnfkncbnjnaa", sum := "86a4c1fede766cc09c54ef94dc1d017ef6c72250e2012513938bac8eab4bef80", func := "thermion/thermionlaw06.PumpHunts", spec := "pumpHunts", unfollowed := true, recurses := true, apart := false }
def PumpHuntsSaid : Prop := pumpHuntsRow.holds Try.pinned (OpenSpec.ofChange pumpHuntsSpec)

/-- ITS FALSE NEIGHBOUR: 'it returns false'. Refute it at one input. -/
def pumpHuntsWrong : ChangeSpec := { name := "pumpHunts", fn := fun _ => fun
  | [d1, d2, d3, d4] => { results := [.lit (.bool false)], args := [d1, d2, d3, d4] }
  | _ => none }
def PumpHuntsWrongFalsely : Prop := pumpHuntsRow.holds Try.pinned (OpenSpec.ofChange pumpHuntsWrong)

/-- 'thermionlaw06.PumpFound': WHATEVER THE INPUT: true; the input reads as it did. -/
def pumpFoundSpec : ChangeSpec := { name := "pumpFound", fn := fun _ => fun
  | [d] => { results := [.lit (.bool true)], args := [d] }
  | _ => none }
def pumpFoundRow : OpenClaim := { program := "ytgnpnfkncbnjnaa", sum := "86a4c1fede766cc09c54ef94dc1d017ef6c72250e2012513938bac8eab4bef80", func := "thermion/thermionlaw06.PumpFound", spec := "pumpFound", unfollowed := true, recurses := true, apart := false }
def PumpFoundSaid : Prop := pumpFoundRow.holds Try.pinned (OpenSpec.ofChange pumpFoundSpec)

/-- ITS FALSE NEIGHBOUR: 'it returns false'. Refute it at one input. -/
def pumpFoundWrong : ChangeSpec := { name := "pumpFound", fn := fun _ => fun
  | [d] => { results := [.lit (.bool false)], args := [d] }
  | _ => none }
def PumpFoundWrongFalsely : Prop := pumpFoundRow.holds Try.pinned (OpenSpec.ofChange pumpFoundWrong)

/-- 'thermionlaw06.PumpRuns': WHATEVER THE INPUT: true; the input reads as it did. -/
def pumpRunsSpec : ChangeSpec := { name := "pumpRuns", fn := fun _ => fun
  | [d1, d2, d3, d4, d5] => { results := [.lit (.bool true)], args := [d1, d2, d3, d4, d5] }
  | _ => none }
def pumpRunsRow : OpenClaim := { program := "ytgnpnfkncbnjnaa", sum := "86a4c1fede766cc09c54ef94dc1d017ef6c72250e2012513938bac8eab4bef80", func := "thermion/thermionlaw06.PumpRuns", spec := "pumpRuns", unfollowed := true, recurses := true, apart := false }
def PumpRunsSaid : Prop := pumpRunsRow.holds Try.pinned (OpenSpec.ofChange pumpRunsSpec)

/-- ITS FALSE NEIGHBOUR: 'it returns false'. Refute it at one input. -/
def pumpRunsWrong : ChangeSpec := { name := "pumpRuns", fn := fun _ => fun
  | [d1, d2, d3, d4, d5] => { results := [.lit (.bool false)], args := [d1, d2, d3, d4, d5] }
  | _ => none }
def PumpRunsWrongFalsely : Prop := pumpRunsRow.holds Try.pinned (OpenSpec.ofChange pumpRunsWrong)

/-- 'thermionlaw06.PumpTicks': WHATEVER THE INPUT: true; the input reads as it did. -/
def pumpTicksSpec : ChangeSpec := { name := "pumpTicks", fn := fun _ => fun
  | [d1, d2, d3, d4] => { results := [.lit (.bool true)], args := [d1, d2, d3, d4] }
  | _ => none }
def pumpTicksRow : OpenClaim := { program := "ytgnpnfkncbnjnaa", sum := "86a4c1fede766cc09c54ef94dc1d017ef6c72250e2012513938bac8eab4bef80", func := "thermion/thermionlaw06.PumpTicks", spec := "pumpTicks", unfollowed := true, recurses := true, apart := false }
def PumpTicksSaid : Prop := pumpTicksRow.holds Try.pinned (OpenSpec.ofChange pumpTicksSpec)

/-- ITS FALSE NEIGHBOUR: 'it returns false'. Refute it at one input. -/
def pumpTicksWrong : ChangeSpec := { name := "pumpTicks", fn := fun _ => fun
  | [d1, d2, d3, d4] => { results := [.lit (.bool false)], args := [d1, d2, d3, d4] }
  | _ => none }
def PumpTicksWrongFalsely : Prop := pumpTicksRow.holds Try.pinned (OpenSpec.ofChange pumpTicksWrong)

/-- 'thermionlaw06.PumpStays': WHATEVER THE INPUT: true; the input reads as it did. -/
def pumpStaysSpec : ChangeSpec := { name := "pumpStays", fn := fun _ => fun
  | [d] => { results := [.lit (.bool true)], args := [d] }
  | _ => none }
def pumpStaysRow : OpenClaim := { program := "ytgnpnfkncbnjnaa", sum := "86a4c1fede766cc09c54ef94dc1d017ef6c72250e2012513938bac8eab4bef80", func := "thermion/thermionlaw06.PumpStays", spec := "pumpStays", unfollowed := true, recurses := true, apart := false }
def PumpStaysSaid : Prop := pumpStaysRow.holds Try.pinned (OpenSpec.ofChange pumpStaysSpec)

/-- ITS FALSE NEIGHBOUR: 'it returns false'. Refute it at one input. -/
def pumpStaysWrong : ChangeSpec := { name := "pumpStays", fn := fun _ => fun
  | [d] => { results := [.lit (.bool false)], args := [d] }
  | _ => none }
def PumpStaysWrongFalsely : Prop := pumpStaysRow.holds Try.pinned (OpenSpec.ofChange pumpStaysWrong)

/-- 'thermionlaw06.PumpGas': WHATEVER THE INPUT: true; the input reads as it did. -/
def pumpGasSpec : ChangeSpec := { name := "pumpGas", fn := fun _ => fun
  | [d1, d2, d3, d4, d5] => { results := [.lit (.bool true)], args := [d1, d2, d3, d4, d5] }
  | _ => none }
def pumpGasRow : OpenClaim := { program := "ytgnpnfkncbnjnaa", sum := "86a4c1fede766cc09c54ef94dc1d017ef6c72250e2012513938bac8eab4bef80", func := "thermion/thermionlaw06.PumpGas", spec := "pumpGas", unfollowed := true, recurses := true, apart := false }
def PumpGasSaid : Prop := pumpGasRow.holds Try.pinned (OpenSpec.ofChange pumpGasSpec)

/-- ITS FALSE NEIGHBOUR: 'it returns false'. Refute it at one input. -/
def pumpGasWrong : ChangeSpec := { name := "pumpGas", fn := fun _ => fun
  | [d1, d2, d3, d4, d5] => { results := [.lit (.bool false)], args := [d1, d2, d3, d4, d5] }
  | _ => none }
def PumpGasWrongFalsely : Prop := pumpGasRow.holds Try.pinned (OpenSpec.ofChange pumpGasWrong)

/-- 'thermionlaw06.PumpTogether': WHATEVER THE INPUT: true; the input reads as it did. -/
def pumpTogetherSpec : ChangeSpec := { name := "pumpTogether", fn := fun _ => fun
  | [d] => { results := [.lit (.bool true)], args := [d] }
  | _ => none }
def pumpTogetherRow : OpenClaim := { program := "ytgnpnfkncbnjnaa", sum := "86a4c1fede766cc09c54ef94dc1d017ef6c72250e2012513938bac8eab4bef80", func := "thermion/thermionlaw06.PumpTogether", spec := "pumpTogether", unfollowed := true, recurses := true, apart := false }
def PumpTogetherSaid : Prop := pumpTogetherRow.holds Try.pinned (OpenSpec.ofChange pumpTogetherSpec)

/-- ITS FALSE NEIGHBOUR: 'it returns false'. Refute it at one input. -/
def pumpTogetherWrong : ChangeSpec := { name := "pumpTogether", fn := fun _ => fun
  | [d] => { results := [.lit (.bool false)], args := [d] }
  | _ => none }
def PumpTogetherWrongFalsely : Prop := pumpTogetherRow.holds Try.pinned (OpenSpec.ofChange pumpTogetherWrong)

/-- 'thermionlaw06.PumpWithin': WHATEVER THE INPUT: true; the input reads as it did. -/
def pumpWithinSpec : ChangeSpec := { name := "pumpWithin", fn := fun _ => fun
  | [d1, d2] => { results := [.lit (.bool true)], args := [d1, d2] }
  | _ => none }
def pumpWithinRow : OpenClaim := { program := "ytgnpnfkncbnjnaa", sum := "86a4c1fede766cc09c54ef94dc1d017ef6c72250e2012513938bac8eab4bef80", func := "thermion/thermionlaw06.PumpWithin", spec := "pumpWithin", unfollowed := true, recurses := true, apart := false }
def PumpWithinSaid : Prop := pumpWithinRow.holds Try.pinned (OpenSpec.ofChange pumpWithinSpec)

/-- ITS FALSE NEIGHBOUR: 'it returns false'. Refute it at one input. -/
def pumpWithinWrong : ChangeSpec := { name := "pumpWithin", fn := fun _ => fun
  | [d1, d2] => { results := [.lit (.bool false)], args := [d1, d2] }
  | _ => none }
def PumpWithinWrongFalsely : Prop := pumpWithinRow.holds Try.pinned (OpenSpec.ofChange pumpWithinWrong)

/-- 'thermionlaw06.PumpSeals': WHATEVER THE INPUT: true; the input reads as it did. -/
def pumpSealsSpec : ChangeSpec := { name := "pumpSeals", fn := fun _ => fun
  | [d1, d2, d3] => { results := [.lit (.bool true)], args := [d1, d2, d3] }
  | _ => none }
def pumpSealsRow : OpenClaim := { program := "ytgnpnfkncbnjnaa", sum := "86a4c1fede766cc09c54ef94dc1d017ef6c72250e2012513938bac8eab4bef80", func := "thermion/thermionlaw06.PumpSeals", spec := "pumpSeals", unfollowed := true, recurses := true, apart := false }
def PumpSealsSaid : Prop := pumpSealsRow.holds Try.pinned (OpenSpec.ofChange pumpSealsSpec)

/-- ITS FALSE NEIGHBOUR: 'it returns false'. Refute it at one input. -/
def pumpSealsWrong : ChangeSpec := { name := "pumpSeals", fn := fun _ => fun
  | [d1, d2, d3] => { results := [.lit (.bool false)], args := [d1, d2, d3] }
  | _ => none }
def PumpSealsWrongFalsely : Prop := pumpSealsRow.holds Try.pinned (OpenSpec.ofChange pumpSealsWrong)

/-- 'thermionlaw06.PumpKnown': WHATEVER THE INPUT: true; the input reads as it did. -/
def pumpKnownSpec : ChangeSpec := { name := "pumpKnown", fn := fun _ => fun
  | [] => { results := [.lit (.bool true)], args := [] }
  | _ => none }
def pumpKnownRow : OpenClaim := { program := "ytgnpnfkncbnjnaa", sum := "86a4c1fede766cc09c54ef94dc1d017ef6c72250e2012513938bac8eab4bef80", func := "thermion/thermionlaw06.PumpKnown", spec := "pumpKnown", unfollowed := true, recurses := true, apart := false }
def PumpKnownSaid : Prop := pumpKnownRow.holds Try.pinned (OpenSpec.ofChange pumpKnownSpec)

/-- ITS FALSE NEIGHBOUR: 'it returns false'. Refute it at one input. -/
def pumpKnownWrong : ChangeSpec := { name := "pumpKnown", fn := fun _ => fun
  | [] => { results := [.lit (.bool false)], args := [] }
  | _ => none }
def PumpKnownWrongFalsely : Prop := pumpKnownRow.holds Try.pinned (OpenSpec.ofChange pumpKnownWrong)

/- THE SECOND FORM. 'bulk': how many values and letters a reading holds, each counted each time it is reached (what is shared counts as often as it is met; a slice's spare places count too). A statement '..UptoSaid' is the law's where the arguments, and the package variables that the reading takes, are together of bulk at most 1048576: NARROWER than '..Said'. Prove '..Said' where nothing that the law and all that it calls make is longer than what came in: it says more and counts as full. Else prove '..UptoSaid'. A law counts once. -/
mutual
def uptoBulk {H : Type} : DataW H → Nat
  | .lit (.string bytes) => bytes.length + 1
  | .lit _ => 1
  | .nil => 1
  | .ptr d => uptoBulk d + 1
  | .slice elems spare => uptoBulkAll elems + uptoBulkAll spare + 1
  | .agg parts => uptoBulkAll parts + 1
  | .iface _ d => uptoBulk d + 1
  | .map entries => uptoBulkEntries entries + 1
  | .held _ => 1
def uptoBulkAll {H : Type} : List (DataW H) → Nat
  | [] => 0
  | d :: r => uptoBulk d + uptoBulkAll r
def uptoBulkEntries {H : Type} : List (Lit × DataW H) → Nat
  | [] => 0
  | x :: r => uptoBulkEntry x + uptoBulkEntries r
def uptoBulkEntry {H : Type} : Lit × DataW H → Nat
  | (.string bytes, d) => bytes.length + uptoBulk d + 1
  | (_, d) => uptoBulk d + 1
 end
def uptoSmall : (H : Type) → List (DataW H) → Bool := fun _ ds => decide (uptoBulkAll ds ≤ 1048576)
def OpenSpec.upto (s : _root_.Go.ChangeSpec) : _root_.Go.OpenSpec := { _root_.Go.OpenSpec.ofChange s with cond := some uptoSmall }

/-- 'thermiontop.TopBakes', WHERE WHAT IT READS IS OF BULK AT MOST 1048576: true; the input reads as it did. -/
def topBakesUptoRow : OpenClaim := { program := "ytgnpnfkncbnjnaa", sum := "86a4c1fede766cc09c54ef94dc1d017ef6c72250e2012513938bac8eab4bef80", func := "thermion/thermiontop.TopBakes", spec := "topBakes", unfollowed := true, recurses := true, apart := false, narrowed := true }
def TopBakesUptoSaid : Prop := topBakesUptoRow.holds Try.pinned (OpenSpec.upto topBakesSpec)

/-- 'thermionlaw06.PumpExact', WHERE WHAT IT READS IS OF BULK AT MOST 1048576: true; the input reads as it did. -/
def pumpExactUptoRow : OpenClaim := { program := "ytgnpnfkncbnjnaa", sum := "86a4c1fede766cc09c54ef94dc1d017ef6c72250e2012513938bac8eab4bef80", func := "thermion/thermionlaw06.PumpExact", spec := "pumpExact", unfollowed := true, recurses := true, apart := false, narrowed := true }
def PumpExactUptoSaid : Prop := pumpExactUptoRow.holds Try.pinned (OpenSpec.upto pumpExactSpec)

/-- 'thermionlaw06.PumpLeast', WHERE WHAT IT READS IS OF BULK AT MOST 1048576: true; the input reads as it did. -/
def pumpLeastUptoRow : OpenClaim := { program := "ytgnpnfkncbnjnaa", sum := "86a4c1fede766cc09c54ef94dc1d017ef6c72250e2012513938bac8eab4bef80", func := "thermion/thermionlaw06.PumpLeast", spec := "pumpLeast", unfollowed := true, recurses := true, apart := false, narrowed := true }
def PumpLeastUptoSaid : Prop := pumpLeastUptoRow.holds Try.pinned (OpenSpec.upto pumpLeastSpec)

/-- 'thermionlaw06.PumpRows', WHERE WHAT IT READS IS OF BULK AT MOST 1048576: true; the input reads as it did. -/
def pumpRowsUptoRow : OpenClaim := { program := "ytgnpnfkncbnjnaa", sum := "86a4c1fede766cc09c54ef94dc1d017ef6c72250e2012513938bac8eab4bef80", func := "thermion/thermionlaw06.PumpRows", spec := "pumpRows", unfollowed := true, recurses := true, apart := false, narrowed := true }
def PumpRowsUptoSaid : Prop := pumpRowsUptoRow.holds Try.pinned (OpenSpec.upto pumpRowsSpec)

/-- 'thermionlaw06.PumpFewer', WHERE WHAT IT READS IS OF BULK AT MOST 1048576: true; the input reads as it did. -/
def pumpFewerUptoRow : OpenClaim := { program := "ytgnpnfkncbnjnaa", sum := "86a4c1fede766cc09c54ef94dc1d017ef6c72250e2012513938bac8eab4bef80", func := "thermion/thermionlaw06.PumpFewer", spec := "pumpFewer", unfollowed := true, recurses := true, apart := false, narrowed := true }
def PumpFewerUptoSaid : Prop := pumpFewerUptoRow.holds Try.pinned (OpenSpec.upto pumpFewerSpec)

/-- 'thermionlaw06.PumpKept', WHERE WHAT IT READS IS OF BULK AT MOST 1048576: true; the input reads as it did. -/
def pumpKeptUptoRow : OpenClaim := { program := "ytgnpnfkncbnjnaa", sum := "86a4c1fede766cc09c54ef94dc1d017ef6c72250e2012513938bac8eab4bef80", func := "thermion/thermionlaw06.PumpKept", spec := "pumpKept", unfollowed := true, recurses := true, apart := false, narrowed := true }
def PumpKeptUptoSaid : Prop := pumpKeptUptoRow.holds Try.pinned (OpenSpec.upto pumpKeptSpec)

/-- 'thermionlaw06.PumpChecks', WHERE WHAT IT READS IS OF BULK AT MOST 1048576: true; the input reads as it did. -/
def pumpChecksUptoRow : OpenClaim := { program := "ytgnpnfkncbnjnaa", sum := "86a4c1fede766cc09c54ef94dc1d017ef6c72250e2012513938bac8eab4bef80", func := "thermion/thermionlaw06.PumpChecks", spec := "pumpChecks", unfollowed := true, recurses := true, apart := false, narrowed := true }
def PumpChecksUptoSaid : Prop := pumpChecksUptoRow.holds Try.pinned (OpenSpec.upto pumpChecksSpec)

/-- 'thermionlaw06.PumpHunts', WHERE WHAT IT READS IS OF BULK AT MOST 1048576: true; the input reads as it did. -/
def pumpHuntsUptoRow : OpenClaim := { program := "ytgnpnfkncbnjnaa", sum := "86a4c1fede766cc09c54ef94dc1d017ef6c72250e2012513938bac8eab4bef80", func := "thermion/thermionlaw06.PumpHunts", spec := "pumpHunts", unfollowed := true, recurses := true, apart := false, narrowed := true }
def PumpHuntsUptoSaid : Prop := pumpHuntsUptoRow.holds Try.pinned (OpenSpec.upto pumpHuntsSpec)

/-- 'thermionlaw06.PumpFound', WHERE WHAT IT READS IS OF BULK AT MOST 1048576: true; the input reads as it did. -/
def pumpFoundUptoRow : OpenClaim := { program := "ytgnpnfkncbnjnaa", sum := "86a4c1fede766cc09c54ef94dc1d017ef6c72250e2012513938bac8eab4bef80", func := "thermion/thermionlaw06.PumpFound", spec := "pumpFound", unfollowed := true, recurses := true, apart := false, narrowed := true }
def PumpFoundUptoSaid : Prop := pumpFoundUptoRow.holds Try.pinned (OpenSpec.upto pumpFoundSpec)

/-- 'thermionlaw06.PumpRuns', WHERE WHAT IT READS IS OF BULK AT MOST 1048576: true; the input reads as it did. -/
def pumpRunsUptoRow : OpenClaim := { program := "ytgnpnfkncbnjnaa", sum := "86a4c1fede766cc09c54ef94dc1d017ef6c72250e2012513938bac8eab4bef80", func := "thermion/thermionlaw06.PumpRuns", spec := "pumpRuns", unfollowed := true, recurses := true, apart := false, narrowed := true }
def PumpRunsUptoSaid : Prop := pumpRunsUptoRow.holds Try.pinned (OpenSpec.upto pumpRunsSpec)

/-- 'thermionlaw06.PumpTicks', WHERE WHAT IT READS IS OF BULK AT MOST 1048576: true; the input reads as it did. -/
def pumpTicksUptoRow : OpenClaim := { program := "ytgnpnfkncbnjnaa", sum := "86a4c1fede766cc09c54ef94dc1d017ef6c72250e2012513938bac8eab4bef80", func := "thermion/thermionlaw06.PumpTicks", spec := "pumpTicks", unfollowed := true, recurses := true, apart := false, narrowed := true }
def PumpTicksUptoSaid : Prop := pumpTicksUptoRow.holds Try.pinned (OpenSpec.upto pumpTicksSpec)

/-- 'thermionlaw06.PumpStays', WHERE WHAT IT READS IS OF BULK AT MOST 1048576: true; the input reads as it did. -/
def pumpStaysUptoRow : OpenClaim := { program := "ytgnpnfkncbnjnaa", sum := "86a4c1fede766cc09c54ef94dc1d017ef6c72250e2012513938bac8eab4bef80", func := "thermion/thermionlaw06.PumpStays", spec := "pumpStays", unfollowed := true, recurses := true, apart := false, narrowed := true }
def PumpStaysUptoSaid : Prop := pumpStaysUptoRow.holds Try.pinned (OpenSpec.upto pumpStaysSpec)

/-- 'thermionlaw06.PumpGas', WHERE WHAT IT READS IS OF BULK AT MOST 1048576: true; the input reads as it did. -/
def pumpGasUptoRow : OpenClaim := { program := "ytgnpnfkncbnjnaa", sum := "86a4c1fede766cc09c54ef94dc1d017ef6c72250e2012513938bac8eab4bef80", func := "thermion/thermionlaw06.PumpGas", spec := "pumpGas", unfollowed := true, recurses := true, apart := false, narrowed := true }
def PumpGasUptoSaid : Prop := pumpGasUptoRow.holds Try.pinned (OpenSpec.upto pumpGasSpec)

/-- 'thermionlaw06.PumpTogether', WHERE WHAT IT READS IS OF BULK AT MOST 1048576: true; the input reads as it did. -/
def pumpTogetherUptoRow : OpenClaim := { program := "ytgnpnfkncbnjnaa", sum := "86a4c1fede766cc09c54ef94dc1d017ef6c72250e2012513938bac8eab4bef80", func := "thermion/thermionlaw06.PumpTogether", spec := "pumpTogether", unfollowed := true, recurses := true, apart := false, narrowed := true }
def PumpTogetherUptoSaid : Prop := pumpTogetherUptoRow.holds Try.pinned (OpenSpec.upto pumpTogetherSpec)

/-- 'thermionlaw06.PumpWithin', WHERE WHAT IT READS IS OF BULK AT MOST 1048576: true; the input reads as it did. -/
def pumpWithinUptoRow : OpenClaim := { program := "ytgnpnfkncbnjnaa", sum := "86a4c1fede766cc09c54ef94dc1d017ef6c72250e2012513938bac8eab4bef80", func := "thermion/thermionlaw06.PumpWithin", spec := "pumpWithin", unfollowed := true, recurses := true, apart := false, narrowed := true }
def PumpWithinUptoSaid : Prop := pumpWithinUptoRow.holds Try.pinned (OpenSpec.upto pumpWithinSpec)

/-- 'thermionlaw06.PumpSeals', WHERE WHAT IT READS IS OF BULK AT MOST 1048576: true; the input reads as it did. -/
def pumpSealsUptoRow : OpenClaim := { program := "ytgnpnfkncbnjnaa", sum := "86a4c1fede766cc09c54ef94dc1d017ef6c72250e2012513938bac8eab4bef80", func := "thermion/thermionlaw06.PumpSeals", spec := "pumpSeals", unfollowed := true, recurses := true, apart := false, narrowed := true }
def PumpSealsUptoSaid : Prop := pumpSealsUptoRow.holds Try.pinned (OpenSpec.upto pumpSealsSpec)

/-- 'thermionlaw06.PumpKnown', WHERE WHAT IT READS IS OF BULK AT MOST 1048576: true; the input reads as it did. -/
def pumpKnownUptoRow : OpenClaim := { program := "ytgnpnfkncbnjnaa", sum := "86a4c1fede766cc09c54ef94dc1d017ef6c72250e2012513938bac8eab4bef80", func := "thermion/thermionlaw06.PumpKnown", spec := "pumpKnown", unfollowed := true, recurses := true, apart := false, narrowed := true }
def PumpKnownUptoSaid : Prop := pumpKnownUptoRow.holds Try.pinned (OpenSpec.upto pumpKnownSpec)

end Rows
end Go.Proofs.Ytgnpnfkncbnjnaa
