/-
  No cell of these rows narrows 'for every input' (looked for: loops, veiled, ifaces, maps, wideKeys, modest, calm, conditions, laid).
  DERIVED. THE GIVEN ROWS OF THIS SEAT. 12 by the template 'for every input the law returns true; each argument reads behind the call as it read before'; 0 by the template 'total and deterministic' (their statements: YtfaglhhkcgjbnaaTotals.lean).
  GIVEN WITH THE SEED: the statements are not yours to turn. If you find one false, say at which input.
  Laid BY PROGRAM, IN A SANDBOX (cutbox-rows.mjs): the forced cells as the released guide's own fill.sh prints them over the translation eaaac477d8089068… (all of the seat's roots in one cut). By AI agents, Wed Nov 11 2026. No macro, syntax, notation, axiom, sorry.
-/
import Derived.Test.YtfaglhhkcgjbnaaChecked
import GoSem.Claim
import GoSem.ClaimJoined
import GoSem.ClaimMapViews
import Derived.JoinedTies
import Derived.KernelRfl
namespace Go.Proofs.Ytfaglhhkcgjbnaa
/- THE CELL 'sum', in the pinned program and in every row, IS THE sha256 OF THE DUMP (.gsa) THAT YtfaglhhkcgjbnaaProg.lean LOADS. Nothing in Lean hashes anything: it is a label: what it is worth is what the hold of that sum in a sandbox is worth. -/
noncomputable def Try.pinned : Pinned := { name := "ytfaglhhkcgjbnaa", sum := "eaaac477d8089068e93495ab70b623f64e0c5e524680bc0010a16b637e71da92", checked := Try.checked }
namespace Rows
def none {H : Type} : Left H := { results := [], args := [] }

/-- 'laws.FnExactPrimesUpTo': WHATEVER THE INPUT: true; the input reads as it did. -/
def fnExactPrimesUpToSpec : ChangeSpec := { name := "fnExactPrimesUpTo", fn := fun _ => fun
  | [d] => { results := [.lit (.bool true)], args := [d] }
  | _ => none }
def fnExactPrimesUpToRow : OpenClaim := { program := "ytfaglhhkcgjbnaa", sum := "eaaac477d8089068e93495ab70b623f64e0c5e524680bc0010a16b637e71da92", func := "loop.example/g01004/laws.FnExactPrimesUpTo", spec := "fnExactPrimesUpTo", apart := false }
def FnExactPrimesUpToSaid : Prop := fnExactPrimesUpToRow.holds Try.pinned (OpenSpec.ofChange fnExactPrimesUpToSpec)

/-- ITS FALSE NEIGHBOUR: 'it returns false'. Refute it at one input. -/
def fnExactPrimesUpToWrong : ChangeSpec := { name := "fnExactPrimesUpTo", fn := fun _ => fun
  | [d] => { results := [.lit (.bool false)], args := [d] }
  | _ => none }
def FnExactPrimesUpToWrongFalsely : Prop := fnExactPrimesUpToRow.holds Try.pinned (OpenSpec.ofChange fnExactPrimesUpToWrong)

/-- 'laws.FnExactOrderTwoAt': WHATEVER THE INPUT: true; the input reads as it did. -/
def fnExactOrderTwoAtSpec : ChangeSpec := { name := "fnExactOrderTwoAt", fn := fun _ => fun
  | [d] => { results := [.lit (.bool true)], args := [d] }
  | _ => none }
def fnExactOrderTwoAtRow : OpenClaim := { program := "ytfaglhhkcgjbnaa", sum := "eaaac477d8089068e93495ab70b623f64e0c5e524680bc0010a16b637e71da92", func := "loop.example/g01004/laws.FnExactOrderTwoAt", spec := "fnExactOrderTwoAt", apart := false }
def FnExactOrderTwoAtSaid : Prop := fnExactOrderTwoAtRow.holds Try.pinned (OpenSpec.ofChange fnExactOrderTwoAtSpec)

/-- ITS FALSE NEIGHBOUR: 'it returns false'. Refute it at one input. -/
def fnExactOrderTwoAtWrong : ChangeSpec := { name := "fnExactOrderTwoAt", fn := fun _ => fun
  | [d] => { results := [.lit (.bool false)], args := [d] }
  | _ => none }
def FnExactOrderTwoAtWrongFalsely : Prop := fnExactOrderTwoAtRow.holds Try.pinned (OpenSpec.ofChange fnExactOrderTwoAtWrong)

/-- 'laws.FnExactRootCells': WHATEVER THE INPUT: true; the input reads as it did. -/
def fnExactRootCellsSpec : ChangeSpec := { name := "fnExactRootCells", fn := fun _ => fun
  | [d] => { results := [.lit (.bool true)], args := [d] }
  | _ => none }
def fnExactRootCellsRow : OpenClaim := { program := "ytfaglhhkcgjbnaa", sum := "eaaac477d8089068e93495ab70b623f64e0c5e524680bc0010a16b637e71da92", func := "loop.example/g01004/laws.FnExactRootCells", spec := "fnExactRootCells", apart := false }
def FnExactRootCellsSaid : Prop := fnExactRootCellsRow.holds Try.pinned (OpenSpec.ofChange fnExactRootCellsSpec)

/-- ITS FALSE NEIGHBOUR: 'it returns false'. Refute it at one input. -/
def fnExactRootCellsWrong : ChangeSpec := { name := "fnExactRootCells", fn := fun _ => fun
  | [d] => { results := [.lit (.bool false)], args := [d] }
  | _ => none }
def FnExactRootCellsWrongFalsely : Prop := fnExactRootCellsRow.holds Try.pinned (OpenSpec.ofChange fnExactRootCellsWrong)

/-- 'laws.FnExactFactorsOf': WHATEVER THE INPUT: true; the input reads as it did. -/
def fnExactFactorsOfSpec : ChangeSpec := { name := "fnExactFactorsOf", fn := fun _ => fun
  | [d] => { results := [.lit (.bool true)], args := [d] }
  | _ => none }
def fnExactFactorsOfRow : OpenClaim := { program := "ytfaglhhkcgjbnaa", sum := "eaaac477d8089068e93495ab70b623f64e0c5e524680bc0010a16b637e71da92", func := "loop.example/g01004/laws.FnExactFactorsOf", spec := "fnExactFactorsOf", apart := false }
def FnExactFactorsOfSaid : Prop := fnExactFactorsOfRow.holds Try.pinned (OpenSpec.ofChange fnExactFactorsOfSpec)

/-- ITS FALSE NEIGHBOUR: 'it returns false'. Refute it at one input. -/
def fnExactFactorsOfWrong : ChangeSpec := { name := "fnExactFactorsOf", fn := fun _ => fun
  | [d] => { results := [.lit (.bool false)], args := [d] }
  | _ => none }
def FnExactFactorsOfWrongFalsely : Prop := fnExactFactorsOfRow.holds Try.pinned (OpenSpec.ofChange fnExactFactorsOfWrong)

/-- 'laws.FnExactIsWhole': WHATEVER THE INPUT: true; the input reads as it did. -/
def fnExactIsWholeSpec : ChangeSpec := { name := "fnExactIsWhole", fn := fun _ => fun
  | [d] => { results := [.lit (.bool true)], args := [d] }
  | _ => none }
def fnExactIsWholeRow : OpenClaim := { program := "ytfaglhhkcgjbnaa", sum := "eaaac477d8089068e93495ab70b623f64e0c5e524680bc0010a16b637e71da92", func := "loop.example/g01004/laws.FnExactIsWhole", spec := "fnExactIsWhole", apart := false }
def FnExactIsWholeSaid : Prop := fnExactIsWholeRow.holds Try.pinned (OpenSpec.ofChange fnExactIsWholeSpec)

/-- ITS FALSE NEIGHBOUR: 'it returns false'. Refute it at one input. -/
def fnExactIsWholeWrong : ChangeSpec := { name := "fnExactIsWhole", fn := fun _ => fun
  | [d] => { results := [.lit (.bool false)], args := [d] }
  | _ => none }
def FnExactIsWholeWrongFalsely : Prop := fnExactIsWholeRow.holds Try.pinned (OpenSpec.ofChange fnExactIsWholeWrong)

/-- 'laws.FnExactWholeOf': WHATEVER THE INPUT: true; the input reads as it did. -/
def fnExactWholeOfSpec : ChangeSpec := { name := "fnExactWholeOf", fn := fun _ => fun
  | [d] => { results := [.lit (.bool true)], args := [d] }
  | _ => none }
def fnExactWholeOfRow : OpenClaim := { program := "ytfaglhhkcgjbnaa", sum := "eaaac477d8089068e93495ab70b623f64e0c5e524680bc0010a16b637e71da92", func := "loop.example/g01004/laws.FnExactWholeOf", spec := "fnExactWholeOf", apart := false }
def FnExactWholeOfSaid : Prop := fnExactWholeOfRow.holds Try.pinned (OpenSpec.ofChange fnExactWholeOfSpec)

/-- ITS FALSE NEIGHBOUR: 'it returns false'. Refute it at one input. -/
def fnExactWholeOfWrong : ChangeSpec := { name := "fnExactWholeOf", fn := fun _ => fun
  | [d] => { results := [.lit (.bool false)], args := [d] }
  | _ => none }
def FnExactWholeOfWrongFalsely : Prop := fnExactWholeOfRow.holds Try.pinned (OpenSpec.ofChange fnExactWholeOfWrong)

/-- 'laws.FnExactCompareWholes': WHATEVER THE INPUT: true; the input reads as it did. -/
def fnExactCompareWholesSpec : ChangeSpec := { name := "fnExactCompareWholes", fn := fun _ => fun
  | [d1, d2] => { results := [.lit (.bool true)], args := [d1, d2] }
  | _ => none }
def fnExactCompareWholesRow : OpenClaim := { program := "ytfaglhhkcgjbnaa", sum := "eaaac477d8089068e93495ab70b623f64e0c5e524680bc0010a16b637e71da92", func := "loop.example/g01004/laws.FnExactCompareWholes", spec := "fnExactCompareWholes", apart := false }
def FnExactCompareWholesSaid : Prop := fnExactCompareWholesRow.holds Try.pinned (OpenSpec.ofChange fnExactCompareWholesSpec)

/-- ITS FALSE NEIGHBOUR: 'it returns false'. Refute it at one input. -/
def fnExactCompareWholesWrong : ChangeSpec := { name := "fnExactCompareWholes", fn := fun _ => fun
  | [d1, d2] => { results := [.lit (.bool false)], args := [d1, d2] }
  | _ => none }
def FnExactCompareWholesWrongFalsely : Prop := fnExactCompareWholesRow.holds Try.pinned (OpenSpec.ofChange fnExactCompareWholesWrong)

/-- 'laws.FnExactMultiplyWholes': WHATEVER THE INPUT: true; the input reads as it did. -/
def fnExactMultiplyWholesSpec : ChangeSpec := { name := "fnExactMultiplyWholes", fn := fun _ => fun
  | [d1, d2] => { results := [.lit (.bool true)], args := [d1, d2] }
  | _ => none }
def fnExactMultiplyWholesRow : OpenClaim := { program := "ytfaglhhkcgjbnaa", sum := "eaaac477d8089068e93495ab70b623f64e0c5e524680bc0010a16b637e71da92", func := "loop.example/g01004/laws.FnExactMultiplyWholes", spec := "fnExactMultiplyWholes", apart := false }
def FnExactMultiplyWholesSaid : Prop := fnExactMultiplyWholesRow.holds Try.pinned (OpenSpec.ofChange fnExactMultiplyWholesSpec)

/-- ITS FALSE NEIGHBOUR: 'it returns false'. Refute it at one input. -/
def fnExactMultiplyWholesWrong : ChangeSpec := { name := "fnExactMultiplyWholes", fn := fun _ => fun
  | [d1, d2] => { results := [.lit (.bool false)], args := [d1, d2] }
  | _ => none }
def FnExactMultiplyWholesWrongFalsely : Prop := fnExactMultiplyWholesRow.holds Try.pinned (OpenSpec.ofChange fnExactMultiplyWholesWrong)

/-- 'laws.FnExactPowerOfWhole': WHATEVER THE INPUT: true; the input reads as it did. -/
def fnExactPowerOfWholeSpec : ChangeSpec := { name := "fnExactPowerOfWhole", fn := fun _ => fun
  | [d1, d2] => { results := [.lit (.bool true)], args := [d1, d2] }
  | _ => none }
def fnExactPowerOfWholeRow : OpenClaim := { program := "ytfaglhhkcgjbnaa", sum := "eaaac477d8089068e93495ab70b623f64e0c5e524680bc0010a16b637e71da92", func := "loop.example/g01004/laws.FnExactPowerOfWhole", spec := "fnExactPowerOfWhole", apart := false }
def FnExactPowerOfWholeSaid : Prop := fnExactPowerOfWholeRow.holds Try.pinned (OpenSpec.ofChange fnExactPowerOfWholeSpec)

/-- ITS FALSE NEIGHBOUR: 'it returns false'. Refute it at one input. -/
def fnExactPowerOfWholeWrong : ChangeSpec := { name := "fnExactPowerOfWhole", fn := fun _ => fun
  | [d1, d2] => { results := [.lit (.bool false)], args := [d1, d2] }
  | _ => none }
def FnExactPowerOfWholeWrongFalsely : Prop := fnExactPowerOfWholeRow.holds Try.pinned (OpenSpec.ofChange fnExactPowerOfWholeWrong)

/-- 'laws.FnExactAddWholes': WHATEVER THE INPUT: true; the input reads as it did. -/
def fnExactAddWholesSpec : ChangeSpec := { name := "fnExactAddWholes", fn := fun _ => fun
  | [d1, d2] => { results := [.lit (.bool true)], args := [d1, d2] }
  | _ => none }
def fnExactAddWholesRow : OpenClaim := { program := "ytfaglhhkcgjbnaa", sum := "eaaac477d8089068e93495ab70b623f64e0c5e524680bc0010a16b637e71da92", func := "loop.example/g01004/laws.FnExactAddWholes", spec := "fnExactAddWholes", apart := false }
def FnExactAddWholesSaid : Prop := fnExactAddWholesRow.holds Try.pinned (OpenSpec.ofChange fnExactAddWholesSpec)

/-- ITS FALSE NEIGHBOUR: 'it returns false'. Refute it at one input. -/
def fnExactAddWholesWrong : ChangeSpec := { name := "fnExactAddWholes", fn := fun _ => fun
  | [d1, d2] => { results := [.lit (.bool false)], args := [d1, d2] }
  | _ => none }
def FnExactAddWholesWrongFalsely : Prop := fnExactAddWholesRow.holds Try.pinned (OpenSpec.ofChange fnExactAddWholesWrong)

/-- 'laws.FnExactSubtractWholes': WHATEVER THE INPUT: true; the input reads as it did. -/
def fnExactSubtractWholesSpec : ChangeSpec := { name := "fnExactSubtractWholes", fn := fun _ => fun
  | [d1, d2] => { results := [.lit (.bool true)], args := [d1, d2] }
  | _ => none }
def fnExactSubtractWholesRow : OpenClaim := { program := "ytfaglhhkcgjbnaa", sum := "eaaac477d8089068e93495ab70b623f64e0c5e524680bc0010a16b637e71da92", func := "loop.example/g01004/laws.FnExactSubtractWholes", spec := "fnExactSubtractWholes", apart := false }
def FnExactSubtractWholesSaid : Prop := fnExactSubtractWholesRow.holds Try.pinned (OpenSpec.ofChange fnExactSubtractWholesSpec)

/-- ITS FALSE NEIGHBOUR: 'it returns false'. Refute it at one input. -/
def fnExactSubtractWholesWrong : ChangeSpec := { name := "fnExactSubtractWholes", fn := fun _ => fun
  | [d1, d2] => { results := [.lit (.bool false)], args := [d1, d2] }
  | _ => none }
def FnExactSubtractWholesWrongFalsely : Prop := fnExactSubtractWholesRow.holds Try.pinned (OpenSpec.ofChange fnExactSubtractWholesWrong)

/-- 'laws.FnExactDivideWhole': WHATEVER THE INPUT: true; the input reads as it did. -/
def fnExactDivideWholeSpec : ChangeSpec := { name := "fnExactDivideWhole", fn := fun _ => fun
  | [d1, d2] => { results := [.lit (.bool true)], args := [d1, d2] }
  | _ => none }
def fnExactDivideWholeRow : OpenClaim := { program := "ytfaglhhkcgjbnaa", sum := "eaaac477d8089068e93495ab70b623f64e0c5e524680bc0010a16b637e71da92", func := "loop.example/g01004/laws.FnExactDivideWhole", spec := "fnExactDivideWhole", apart := false }
def FnExactDivideWholeSaid : Prop := fnExactDivideWholeRow.holds Try.pinned (OpenSpec.ofChange fnExactDivideWholeSpec)

/-- ITS FALSE NEIGHBOUR: 'it returns false'. Refute it at one input. -/
def fnExactDivideWholeWrong : ChangeSpec := { name := "fnExactDivideWhole", fn := fun _ => fun
  | [d1, d2] => { results := [.lit (.bool false)], args := [d1, d2] }
  | _ => none }
def FnExactDivideWholeWrongFalsely : Prop := fnExactDivideWholeRow.holds Try.pinned (OpenSpec.ofChange fnExactDivideWholeWrong)

/- THE SECOND FORM. 'bulk': how many values and letters a reading holds, each counted each time it is reached (what is shared counts as often as it is met; a slice's spare places count too). A statement '..UptoSaid' is the law's where the arguments, and the package variables that the reading takes, are together of bulk at most 1048576: NARROWER than '..Said'. Prove '..Said' where nothing that the law and all that it calls make is longer than what came in: it says more and counts as full. Else prove '..UptoSaid'. A law counts once. -/
mutual
def uptoBulk {H : Type} : DataW H → Nat
  | .lit (.string bytes) => bytes.length + 1
  | .lit _ => 1
  | .nil => 1
  | .ptr d => uptoBulk d + 1
  | .slice elems spare => uptoBulkAll elems + uptoBulkAll spare + 1
  | .agg parts => uptoBulkAll parts + 1
  | .iface _ d => uptoBulk d + 1
  | .map entries => uptoBulkEntries entries + 1
  | .held _ => 1
def uptoBulkAll {H : Type} : List (DataW H) → Nat
  | [] => 0
  | d :: r => uptoBulk d + uptoBulkAll r
def uptoBulkEntries {H : Type} : List (Lit × DataW H) → Nat
  | [] => 0
  | x :: r => uptoBulkEntry x + uptoBulkEntries r
def uptoBulkEntry {H : Type} : Lit × DataW H → Nat
  | (.string bytes, d) => bytes.length + uptoBulk d + 1
  | (_, d) => uptoBulk d + 1
 end
def uptoSmall : (H : Type) → List (DataW H) → Bool := fun _ ds => decide (uptoBulkAll ds ≤ 1048576)
def OpenSpec.upto (s : _root_.Go.ChangeSpec) : _root_.Go.OpenSpec := { _root_.Go.OpenSpec.ofChange s with cond := some uptoSmall }

/-- 'laws.FnExactPrimesUpTo', WHERE WHAT IT READS IS OF BULK AT MOST 1048576: true; the input reads as it did. -/
def fnExactPrimesUpToUptoRow : OpenClaim := { program := "ytfaglhhkcgjbnaa", sum := "eaaac477d8089068e93495ab70b623f64e0c5e524680bc0010a16b637e71da92", func := "loop.example/g01004/laws.FnExactPrimesUpTo", spec := "fnExactPrimesUpTo", apart := false, narrowed := true }
def FnExactPrimesUpToUptoSaid : Prop := fnExactPrimesUpToUptoRow.holds Try.pinned (OpenSpec.upto fnExactPrimesUpToSpec)

/-- 'laws.FnExactOrderTwoAt', WHERE WHAT IT READS IS OF BULK AT MOST 1048576: true; the input reads as it did. -/
def fnExactOrderTwoAtUptoRow : OpenClaim := { program := "ytfaglhhkcgjbnaa", sum := "eaaac477d8089068e93495ab70b623f64e0c5e524680bc0010a16b637e71da92", func := "loop.example/g01004/laws.FnExactOrderTwoAt", spec := "fnExactOrderTwoAt", apart := false, narrowed := true }
def FnExactOrderTwoAtUptoSaid : Prop := fnExactOrderTwoAtUptoRow.holds Try.pinned (OpenSpec.upto fnExactOrderTwoAtSpec)

/-- 'laws.FnExactRootCells', WHERE WHAT IT READS IS OF BULK AT MOST 1048576: true; the input reads as it did. -/
def fnExactRootCellsUptoRow : OpenClaim := { program := "ytfaglhhkcgjbnaa", sum := "eaaac477d8089068e93495ab70b623f64e0c5e524680bc0010a16b637e71da92", func := "loop.example/g01004/laws.FnExactRootCells", spec := "fnExactRootCells", apart := false, narrowed := true }
def FnExactRootCellsUptoSaid : Prop := fnExactRootCellsUptoRow.holds Try.pinned (OpenSpec.upto fnExactRootCellsSpec)

/-- 'laws.FnExactFactorsOf', WHERE WHAT IT READS IS OF BULK AT MOST 1048576: true; the input reads as it did. -/
def fnExactFactorsOfUptoRow : OpenClaim := { program := "ytfaglhhkcgjbnaa", sum := "eaaac477d8089068e93495ab70b623f64e0c5e524680bc0010a16b637e71da92", func := "loop.example/g01004/laws.FnExactFactorsOf", spec := "fnExactFactorsOf", apart := false, narrowed := true }
def FnExactFactorsOfUptoSaid : Prop := fnExactFactorsOfUptoRow.holds Try.pinned (OpenSpec.upto fnExactFactorsOfSpec)

/-- 'laws.FnExactIsWhole', WHERE WHAT IT READS IS OF BULK AT MOST 1048576: true; the input reads as it did. -/
def fnExactIsWholeUptoRow : OpenClaim := { program := "ytfaglhhkcgjbnaa", sum := "eaaac477d8089068e93495ab70b623f64e0c5e524680bc0010a16b637e71da92", func := "loop.example/g01004/laws.FnExactIsWhole", spec := "fnExactIsWhole", apart := false, narrowed := true }
def FnExactIsWholeUptoSaid : Prop := fnExactIsWholeUptoRow.holds Try.pinned (OpenSpec.upto fnExactIsWholeSpec)

/-- 'laws.FnExactWholeOf', WHERE WHAT IT READS IS OF BULK AT MOST 1048576: true; the input reads as it did. -/
def fnExactWholeOfUptoRow : OpenClaim := { program := "ytfaglhhkcgjbnaa", sum := "eaaac477d8089068e93495ab70b623f64e0c5e524680bc0010a16b637e71da92", func := "loop.example/g01004/laws.FnExactWholeOf", spec := "fnExactWholeOf", apart := false, narrowed := true }
def FnExactWholeOfUptoSaid : Prop := fnExactWholeOfUptoRow.holds Try.pinned (OpenSpec.upto fnExactWholeOfSpec)

/-- 'laws.FnExactCompareWholes', WHERE WHAT IT READS IS OF BULK AT MOST 1048576: true; the input reads as it did. -/
def fnExactCompareWholesUptoRow : OpenClaim := { program := "ytfaglhhkcgjbnaa", sum := "eaaac477d8089068e93495ab70b623f64e0c5e524680bc0010a16b637e71da92", func := "loop.example/g01004/laws.FnExactCompareWholes", spec := "fnExactCompareWholes", apart := false, narrowed := true }
def FnExactCompareWholesUptoSaid : Prop := fnExactCompareWholesUptoRow.holds Try.pinned (OpenSpec.upto fnExactCompareWholesSpec)

/-- 'laws.FnExactMultiplyWholes', WHERE WHAT IT READS IS OF BULK AT MOST 1048576: true; the input reads as it did. -/
def fnExactMultiplyWholesUptoRow : OpenClaim := { program := "ytfaglhhkcgjbnaa", sum := "eaaac477d8089068e93495ab70b623f64e0c5e524680bc0010a16b637e71da92", func := "loop.example/g01004/laws.FnExactMultiplyWholes", spec := "fnExactMultiplyWholes", apart := false, narrowed := true }
def FnExactMultiplyWholesUptoSaid : Prop := fnExactMultiplyWholesUptoRow.holds Try.pinned (OpenSpec.upto fnExactMultiplyWholesSpec)

/-- 'laws.FnExactPowerOfWhole', WHERE WHAT IT READS IS OF BULK AT MOST 1048576: true; the input reads as it did. -/
def fnExactPowerOfWholeUptoRow : OpenClaim := { program := "ytfaglhhkcgjbnaa", sum := "eaaac477d8089068e93495ab70b623f64e0c5e524680bc0010a16b637e71da92", func := "loop.example/g01004/laws.FnExactPowerOfWhole", spec := "fnExactPowerOfWhole", apart := false, narrowed := true }
def FnExactPowerOfWholeUptoSaid : Prop := fnExactPowerOfWholeUptoRow.holds Try.pinned (OpenSpec.upto fnExactPowerOfWholeSpec)

/-- 'laws.FnExactAddWholes', WHERE WHAT IT READS IS OF BULK AT MOST 1048576: true; the input reads as it did. -/
def fnExactAddWholesUptoRow : OpenClaim := { program := "ytfaglhhkcgjbnaa", sum := "eaaac477d8089068e93495ab70b623f64e0c5e524680bc0010a16b637e71da92", func := "loop.example/g01004/laws.FnExactAddWholes", spec := "fnExactAddWholes", apart := false, narrowed := true }
def FnExactAddWholesUptoSaid : Prop := fnExactAddWholesUptoRow.holds Try.pinned (OpenSpec.upto fnExactAddWholesSpec)

/-- 'laws.FnExactSubtractWholes', WHERE WHAT IT READS IS OF BULK AT MOST 1048576: true; the input reads as it did. -/
def fnExactSubtractWholesUptoRow : OpenClaim := { program := "ytfaglhhkcgjbnaa", sum := "eaaac477d8089068e93495ab70b623f64e0c5e524680bc0010a16b637e71da92", func := "loop.example/g01004/laws.FnExactSubtractWholes", spec := "fnExactSubtractWholes", apart := false, narrowed := true }
def FnExactSubtractWholesUptoSaid : Prop := fnExactSubtractWholesUptoRow.holds Try.pinned (OpenSpec.upto fnExactSubtractWholesSpec)

/-- 'laws.FnExactDivideWhole', WHERE WHAT IT READS IS OF BULK AT MOST 1048576: true; the input reads as it did. -/
def fnExactDivideWholeUptoRow : OpenClaim := { program := "ytfaglhhkcgjbnaa", sum := "eaaac477d8089068e93495ab70b623f64e0c5e524680bc0010a16b637e71da92", func := "loop.example/g01004/laws.FnExactDivideWhole", spec := "fnExactDivideWhole", apart := false, narrowed := true }
def FnExactDivideWholeUptoSaid : Prop := fnExactDivideWholeUptoRow.holds Try.pinned (OpenSpec.upto fnExactDivideWholeSpec)

end Rows
end Go.Proofs.Ytfaglhhkcgjbnaa
