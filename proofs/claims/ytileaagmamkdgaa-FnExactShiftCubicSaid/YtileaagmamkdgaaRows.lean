/-
  No cell of these rows narrows 'for every input' (looked for: loops, veiled, ifaces, maps, wideKeys, modest, calm, conditions, laid).
  DERIVED. THE GIVEN ROWS OF THIS SEAT. 12 by the template 'for every input the law returns true; each argument reads behind the call as it read before'; 0 by the template 'total and deterministic' (their statements: YtileaagmamkdgaaTotals.lean).
  GIVEN WITH THE SEED: the statements are not yours to turn. If you find one false, say at which input.
  Laid BY PROGRAM, IN A SANDBOX (cutbox-rows.mjs): the forced cells as the released guide's own fill.sh prints them over the translation 5bdc1b2a7acb8877… (all of the seat's roots in one cut). By AI agents, Wed Nov 11 2026. No macro, syntax, notation, axiom, sorry.
-/
import Derived.Test.YtileaagmamkdgaaChecked
import GoSem.Claim
import GoSem.ClaimJoined
import GoSem.ClaimMapViews
import Derived.JoinedTies
import Derived.KernelRfl
namespace Go.Proofs.Ytileaagmamkdgaa
/- THE CELL 'sum', in the pinned program and in every row, IS THE sha256 OF THE DUMP (.gsa) THAT YtileaagmamkdgaaProg.lean LOADS. Nothing in Lean hashes anything: it is a label: what it is worth is what the hold of that sum in a sandbox is worth. -/
noncomputable def Try.pinned : Pinned := { name := "ytileaagmamkdgaa", sum := "5bdc1b2a7acb8877763ce7bbc4d0db36750408e96fa1ec8966737dade50ce094", checked := Try.checked }
namespace Rows
def none {H : Type} : Left H := { results := [], args := [] }

/-- 'laws.FnExactPrimitiveRoot': WHATEVER THE INPUT: true; the input reads as it did. -/
def fnExactPrimitiveRootSpec : ChangeSpec := { name := "fnExactPrimitiveRoot", fn := fun _ => fun
  | [d] => { results := [.lit (.bool true)], args := [d] }
  | _ => none }
def fnExactPrimitiveRootRow : OpenClaim := { program := "ytileaagmamkdgaa", sum := "5bdc1b2a7acb8877763ce7bbc4d0db36750408e96fa1ec8966737dade50ce094", func := "loop.example/g01004/laws.FnExactPrimitiveRoot", spec := "fnExactPrimitiveRoot", apart := false }
def FnExactPrimitiveRootSaid : Prop := fnExactPrimitiveRootRow.holds Try.pinned (OpenSpec.ofChange fnExactPrimitiveRootSpec)

/-- ITS FALSE NEIGHBOUR: 'it returns false'. Refute it at one input. -/
def fnExactPrimitiveRootWrong : ChangeSpec := { name := "fnExactPrimitiveRoot", fn := fun _ => fun
  | [d] => { results := [.lit (.bool false)], args := [d] }
  | _ => none }
def FnExactPrimitiveRootWrongFalsely : Prop := fnExactPrimitiveRootRow.holds Try.pinned (OpenSpec.ofChange fnExactPrimitiveRootWrong)

/-- 'laws.FnExactShiftCubic': WHATEVER THE INPUT: true; the input reads as it did. -/
def fnExactShiftCubicSpec : ChangeSpec := { name := "fnExactShiftCubic", fn := fun _ => fun
  | [d1, d2] => { results := [.lit (.bool true)], args := [d1, d2] }
  | _ => none }
def fnExactShiftCubicRow : OpenClaim := { program := "ytileaagmamkdgaa", sum := "5bdc1b2a7acb8877763ce7bbc4d0db36750408e96fa1ec8966737dade50ce094", func := "loop.example/g01004/laws.FnExactShiftCubic", spec := "fnExactShiftCubic", apart := false }
def FnExactShiftCubicSaid : Prop := fnExactShiftCubicRow.holds Try.pinned (OpenSpec.ofChange fnExactShiftCubicSpec)

/-- ITS FALSE NEIGHBOUR: 'it returns false'. Refute it at one input. -/
def fnExactShiftCubicWrong : ChangeSpec := { name := "fnExactShiftCubic", fn := fun _ => fun
  | [d1, d2] => { results := [.lit (.bool false)], args := [d1, d2] }
  | _ => none }
def FnExactShiftCubicWrongFalsely : Prop := fnExactShiftCubicRow.holds Try.pinned (OpenSpec.ofChange fnExactShiftCubicWrong)

/-- 'laws.FnExactInvariantOf': WHATEVER THE INPUT: true; the input reads as it did. -/
def fnExactInvariantOfSpec : ChangeSpec := { name := "fnExactInvariantOf", fn := fun _ => fun
  | [d] => { results := [.lit (.bool true)], args := [d] }
  | _ => none }
def fnExactInvariantOfRow : OpenClaim := { program := "ytileaagmamkdgaa", sum := "5bdc1b2a7acb8877763ce7bbc4d0db36750408e96fa1ec8966737dade50ce094", func := "loop.example/g01004/laws.FnExactInvariantOf", spec := "fnExactInvariantOf", apart := false }
def FnExactInvariantOfSaid : Prop := fnExactInvariantOfRow.holds Try.pinned (OpenSpec.ofChange fnExactInvariantOfSpec)

/-- ITS FALSE NEIGHBOUR: 'it returns false'. Refute it at one input. -/
def fnExactInvariantOfWrong : ChangeSpec := { name := "fnExactInvariantOf", fn := fun _ => fun
  | [d] => { results := [.lit (.bool false)], args := [d] }
  | _ => none }
def FnExactInvariantOfWrongFalsely : Prop := fnExactInvariantOfRow.holds Try.pinned (OpenSpec.ofChange fnExactInvariantOfWrong)

/-- 'laws.FnExactContentOf': WHATEVER THE INPUT: true; the input reads as it did. -/
def fnExactContentOfSpec : ChangeSpec := { name := "fnExactContentOf", fn := fun _ => fun
  | [d] => { results := [.lit (.bool true)], args := [d] }
  | _ => none }
def fnExactContentOfRow : OpenClaim := { program := "ytileaagmamkdgaa", sum := "5bdc1b2a7acb8877763ce7bbc4d0db36750408e96fa1ec8966737dade50ce094", func := "loop.example/g01004/laws.FnExactContentOf", spec := "fnExactContentOf", apart := false }
def FnExactContentOfSaid : Prop := fnExactContentOfRow.holds Try.pinned (OpenSpec.ofChange fnExactContentOfSpec)

/-- ITS FALSE NEIGHBOUR: 'it returns false'. Refute it at one input. -/
def fnExactContentOfWrong : ChangeSpec := { name := "fnExactContentOf", fn := fun _ => fun
  | [d] => { results := [.lit (.bool false)], args := [d] }
  | _ => none }
def FnExactContentOfWrongFalsely : Prop := fnExactContentOfRow.holds Try.pinned (OpenSpec.ofChange fnExactContentOfWrong)

/-- 'laws.FnExactSquareSymbol': WHATEVER THE INPUT: true; the input reads as it did. -/
def fnExactSquareSymbolSpec : ChangeSpec := { name := "fnExactSquareSymbol", fn := fun _ => fun
  | [d1, d2] => { results := [.lit (.bool true)], args := [d1, d2] }
  | _ => none }
def fnExactSquareSymbolRow : OpenClaim := { program := "ytileaagmamkdgaa", sum := "5bdc1b2a7acb8877763ce7bbc4d0db36750408e96fa1ec8966737dade50ce094", func := "loop.example/g01004/laws.FnExactSquareSymbol", spec := "fnExactSquareSymbol", apart := false }
def FnExactSquareSymbolSaid : Prop := fnExactSquareSymbolRow.holds Try.pinned (OpenSpec.ofChange fnExactSquareSymbolSpec)

/-- ITS FALSE NEIGHBOUR: 'it returns false'. Refute it at one input. -/
def fnExactSquareSymbolWrong : ChangeSpec := { name := "fnExactSquareSymbol", fn := fun _ => fun
  | [d1, d2] => { results := [.lit (.bool false)], args := [d1, d2] }
  | _ => none }
def FnExactSquareSymbolWrongFalsely : Prop := fnExactSquareSymbolRow.holds Try.pinned (OpenSpec.ofChange fnExactSquareSymbolWrong)

/-- 'laws.FnExactFractionOf': WHATEVER THE INPUT: true; the input reads as it did. -/
def fnExactFractionOfSpec : ChangeSpec := { name := "fnExactFractionOf", fn := fun _ => fun
  | [d1, d2] => { results := [.lit (.bool true)], args := [d1, d2] }
  | _ => none }
def fnExactFractionOfRow : OpenClaim := { program := "ytileaagmamkdgaa", sum := "5bdc1b2a7acb8877763ce7bbc4d0db36750408e96fa1ec8966737dade50ce094", func := "loop.example/g01004/laws.FnExactFractionOf", spec := "fnExactFractionOf", apart := false }
def FnExactFractionOfSaid : Prop := fnExactFractionOfRow.holds Try.pinned (OpenSpec.ofChange fnExactFractionOfSpec)

/-- ITS FALSE NEIGHBOUR: 'it returns false'. Refute it at one input. -/
def fnExactFractionOfWrong : ChangeSpec := { name := "fnExactFractionOf", fn := fun _ => fun
  | [d1, d2] => { results := [.lit (.bool false)], args := [d1, d2] }
  | _ => none }
def FnExactFractionOfWrongFalsely : Prop := fnExactFractionOfRow.holds Try.pinned (OpenSpec.ofChange fnExactFractionOfWrong)

/-- 'laws.FnExactProductOf': WHATEVER THE INPUT: true; the input reads as it did. -/
def fnExactProductOfSpec : ChangeSpec := { name := "fnExactProductOf", fn := fun _ => fun
  | [d1, d2] => { results := [.lit (.bool true)], args := [d1, d2] }
  | _ => none }
def fnExactProductOfRow : OpenClaim := { program := "ytileaagmamkdgaa", sum := "5bdc1b2a7acb8877763ce7bbc4d0db36750408e96fa1ec8966737dade50ce094", func := "loop.example/g01004/laws.FnExactProductOf", spec := "fnExactProductOf", apart := false }
def FnExactProductOfSaid : Prop := fnExactProductOfRow.holds Try.pinned (OpenSpec.ofChange fnExactProductOfSpec)

/-- ITS FALSE NEIGHBOUR: 'it returns false'. Refute it at one input. -/
def fnExactProductOfWrong : ChangeSpec := { name := "fnExactProductOf", fn := fun _ => fun
  | [d1, d2] => { results := [.lit (.bool false)], args := [d1, d2] }
  | _ => none }
def FnExactProductOfWrongFalsely : Prop := fnExactProductOfRow.holds Try.pinned (OpenSpec.ofChange fnExactProductOfWrong)

/-- 'laws.FnExactDifferenceOf': WHATEVER THE INPUT: true; the input reads as it did. -/
def fnExactDifferenceOfSpec : ChangeSpec := { name := "fnExactDifferenceOf", fn := fun _ => fun
  | [d1, d2] => { results := [.lit (.bool true)], args := [d1, d2] }
  | _ => none }
def fnExactDifferenceOfRow : OpenClaim := { program := "ytileaagmamkdgaa", sum := "5bdc1b2a7acb8877763ce7bbc4d0db36750408e96fa1ec8966737dade50ce094", func := "loop.example/g01004/laws.FnExactDifferenceOf", spec := "fnExactDifferenceOf", apart := false }
def FnExactDifferenceOfSaid : Prop := fnExactDifferenceOfRow.holds Try.pinned (OpenSpec.ofChange fnExactDifferenceOfSpec)

/-- ITS FALSE NEIGHBOUR: 'it returns false'. Refute it at one input. -/
def fnExactDifferenceOfWrong : ChangeSpec := { name := "fnExactDifferenceOf", fn := fun _ => fun
  | [d1, d2] => { results := [.lit (.bool false)], args := [d1, d2] }
  | _ => none }
def FnExactDifferenceOfWrongFalsely : Prop := fnExactDifferenceOfRow.holds Try.pinned (OpenSpec.ofChange fnExactDifferenceOfWrong)

/-- 'laws.FnExactSumOf': WHATEVER THE INPUT: true; the input reads as it did. -/
def fnExactSumOfSpec : ChangeSpec := { name := "fnExactSumOf", fn := fun _ => fun
  | [d1, d2] => { results := [.lit (.bool true)], args := [d1, d2] }
  | _ => none }
def fnExactSumOfRow : OpenClaim := { program := "ytileaagmamkdgaa", sum := "5bdc1b2a7acb8877763ce7bbc4d0db36750408e96fa1ec8966737dade50ce094", func := "loop.example/g01004/laws.FnExactSumOf", spec := "fnExactSumOf", apart := false }
def FnExactSumOfSaid : Prop := fnExactSumOfRow.holds Try.pinned (OpenSpec.ofChange fnExactSumOfSpec)

/-- ITS FALSE NEIGHBOUR: 'it returns false'. Refute it at one input. -/
def fnExactSumOfWrong : ChangeSpec := { name := "fnExactSumOf", fn := fun _ => fun
  | [d1, d2] => { results := [.lit (.bool false)], args := [d1, d2] }
  | _ => none }
def FnExactSumOfWrongFalsely : Prop := fnExactSumOfRow.holds Try.pinned (OpenSpec.ofChange fnExactSumOfWrong)

/-- 'laws.FnExactFloorAndRest': WHATEVER THE INPUT: true; the input reads as it did. -/
def fnExactFloorAndRestSpec : ChangeSpec := { name := "fnExactFloorAndRest", fn := fun _ => fun
  | [d] => { results := [.lit (.bool true)], args := [d] }
  | _ => none }
def fnExactFloorAndRestRow : OpenClaim := { program := "ytileaagmamkdgaa", sum := "5bdc1b2a7acb8877763ce7bbc4d0db36750408e96fa1ec8966737dade50ce094", func := "loop.example/g01004/laws.FnExactFloorAndRest", spec := "fnExactFloorAndRest", apart := false }
def FnExactFloorAndRestSaid : Prop := fnExactFloorAndRestRow.holds Try.pinned (OpenSpec.ofChange fnExactFloorAndRestSpec)

/-- ITS FALSE NEIGHBOUR: 'it returns false'. Refute it at one input. -/
def fnExactFloorAndRestWrong : ChangeSpec := { name := "fnExactFloorAndRest", fn := fun _ => fun
  | [d] => { results := [.lit (.bool false)], args := [d] }
  | _ => none }
def FnExactFloorAndRestWrongFalsely : Prop := fnExactFloorAndRestRow.holds Try.pinned (OpenSpec.ofChange fnExactFloorAndRestWrong)

/-- 'laws.FnExactQuotientOf': WHATEVER THE INPUT: true; the input reads as it did. -/
def fnExactQuotientOfSpec : ChangeSpec := { name := "fnExactQuotientOf", fn := fun _ => fun
  | [d1, d2] => { results := [.lit (.bool true)], args := [d1, d2] }
  | _ => none }
def fnExactQuotientOfRow : OpenClaim := { program := "ytileaagmamkdgaa", sum := "5bdc1b2a7acb8877763ce7bbc4d0db36750408e96fa1ec8966737dade50ce094", func := "loop.example/g01004/laws.FnExactQuotientOf", spec := "fnExactQuotientOf", apart := false }
def FnExactQuotientOfSaid : Prop := fnExactQuotientOfRow.holds Try.pinned (OpenSpec.ofChange fnExactQuotientOfSpec)

/-- ITS FALSE NEIGHBOUR: 'it returns false'. Refute it at one input. -/
def fnExactQuotientOfWrong : ChangeSpec := { name := "fnExactQuotientOf", fn := fun _ => fun
  | [d1, d2] => { results := [.lit (.bool false)], args := [d1, d2] }
  | _ => none }
def FnExactQuotientOfWrongFalsely : Prop := fnExactQuotientOfRow.holds Try.pinned (OpenSpec.ofChange fnExactQuotientOfWrong)

/-- 'laws.FnExactSimplestIn': WHATEVER THE INPUT: true; the input reads as it did. -/
def fnExactSimplestInSpec : ChangeSpec := { name := "fnExactSimplestIn", fn := fun _ => fun
  | [d1, d2] => { results := [.lit (.bool true)], args := [d1, d2] }
  | _ => none }
def fnExactSimplestInRow : OpenClaim := { program := "ytileaagmamkdgaa", sum := "5bdc1b2a7acb8877763ce7bbc4d0db36750408e96fa1ec8966737dade50ce094", func := "loop.example/g01004/laws.FnExactSimplestIn", spec := "fnExactSimplestIn", apart := false }
def FnExactSimplestInSaid : Prop := fnExactSimplestInRow.holds Try.pinned (OpenSpec.ofChange fnExactSimplestInSpec)

/-- ITS FALSE NEIGHBOUR: 'it returns false'. Refute it at one input. -/
def fnExactSimplestInWrong : ChangeSpec := { name := "fnExactSimplestIn", fn := fun _ => fun
  | [d1, d2] => { results := [.lit (.bool false)], args := [d1, d2] }
  | _ => none }
def FnExactSimplestInWrongFalsely : Prop := fnExactSimplestInRow.holds Try.pinned (OpenSpec.ofChange fnExactSimplestInWrong)

/- THE SECOND FORM. 'bulk': how many values and letters a reading holds, each counted each time it is reached (what is shared counts as often as it is met; a slice's spare places count too). A statement '..UptoSaid' is the law's where the arguments, and the package variables that the reading takes, are together of bulk at most 1048576: NARROWER than '..Said'. Prove '..Said' where nothing that the law and all that it calls make is longer than what came in: it says more and counts as full. Else prove '..UptoSaid'. A law counts once. -/
mutual
def uptoBulk {H : Type} : DataW H → Nat
  | .lit (.string bytes) => bytes.length + 1
  | .lit _ => 1
  | .nil => 1
  | .ptr d => uptoBulk d + 1
  | .slice elems spare => uptoBulkAll elems + uptoBulkAll spare + 1
  | .agg parts => uptoBulkAll parts + 1
  | .iface _ d => uptoBulk d + 1
  | .map entries => uptoBulkEntries entries + 1
  | .held _ => 1
def uptoBulkAll {H : Type} : List (DataW H) → Nat
  | [] => 0
  | d :: r => uptoBulk d + uptoBulkAll r
def uptoBulkEntries {H : Type} : List (Lit × DataW H) → Nat
  | [] => 0
  | x :: r => uptoBulkEntry x + uptoBulkEntries r
def uptoBulkEntry {H : Type} : Lit × DataW H → Nat
  | (.string bytes, d) => bytes.length + uptoBulk d + 1
  | (_, d) => uptoBulk d + 1
 end
def uptoSmall : (H : Type) → List (DataW H) → Bool := fun _ ds => decide (uptoBulkAll ds ≤ 1048576)
def OpenSpec.upto (s : _root_.Go.ChangeSpec) : _root_.Go.OpenSpec := { _root_.Go.OpenSpec.ofChange s with cond := some uptoSmall }

/-- 'laws.FnExactPrimitiveRoot', WHERE WHAT IT READS IS OF BULK AT MOST 1048576: true; the input reads as it did. -/
def fnExactPrimitiveRootUptoRow : OpenClaim := { program := "ytileaagmamkdgaa", sum := "5bdc1b2a7acb8877763ce7bbc4d0db36750408e96fa1ec8966737dade50ce094", func := "loop.example/g01004/laws.FnExactPrimitiveRoot", spec := "fnExactPrimitiveRoot", apart := false, narrowed := true }
def FnExactPrimitiveRootUptoSaid : Prop := fnExactPrimitiveRootUptoRow.holds Try.pinned (OpenSpec.upto fnExactPrimitiveRootSpec)

/-- 'laws.FnExactShiftCubic', WHERE WHAT IT READS IS OF BULK AT MOST 1048576: true; the input reads as it did. -/
def fnExactShiftCubicUptoRow : OpenClaim := { program := "ytileaagmamkdgaa", sum := "5bdc1b2a7acb8877763ce7bbc4d0db36750408e96fa1ec8966737dade50ce094", func := "loop.example/g01004/laws.FnExactShiftCubic", spec := "fnExactShiftCubic", apart := false, narrowed := true }
def FnExactShiftCubicUptoSaid : Prop := fnExactShiftCubicUptoRow.holds Try.pinned (OpenSpec.upto fnExactShiftCubicSpec)

/-- 'laws.FnExactInvariantOf', WHERE WHAT IT READS IS OF BULK AT MOST 1048576: true; the input reads as it did. -/
def fnExactInvariantOfUptoRow : OpenClaim := { program := "ytileaagmamkdgaa", sum := "5bdc1b2a7acb8877763ce7bbc4d0db36750408e96fa1ec8966737dade50ce094", func := "loop.example/g01004/laws.FnExactInvariantOf", spec := "fnExactInvariantOf", apart := false, narrowed := true }
def FnExactInvariantOfUptoSaid : Prop := fnExactInvariantOfUptoRow.holds Try.pinned (OpenSpec.upto fnExactInvariantOfSpec)

/-- 'laws.FnExactContentOf', WHERE WHAT IT READS IS OF BULK AT MOST 1048576: true; the input reads as it did. -/
def fnExactContentOfUptoRow : OpenClaim := { program := "ytileaagmamkdgaa", sum := "5bdc1b2a7acb8877763ce7bbc4d0db36750408e96fa1ec8966737dade50ce094", func := "loop.example/g01004/laws.FnExactContentOf", spec := "fnExactContentOf", apart := false, narrowed := true }
def FnExactContentOfUptoSaid : Prop := fnExactContentOfUptoRow.holds Try.pinned (OpenSpec.upto fnExactContentOfSpec)

/-- 'laws.FnExactSquareSymbol', WHERE WHAT IT READS IS OF BULK AT MOST 1048576: true; the input reads as it did. -/
def fnExactSquareSymbolUptoRow : OpenClaim := { program := "ytileaagmamkdgaa", sum := "5bdc1b2a7acb8877763ce7bbc4d0db36750408e96fa1ec8966737dade50ce094", func := "loop.example/g01004/laws.FnExactSquareSymbol", spec := "fnExactSquareSymbol", apart := false, narrowed := true }
def FnExactSquareSymbolUptoSaid : Prop := fnExactSquareSymbolUptoRow.holds Try.pinned (OpenSpec.upto fnExactSquareSymbolSpec)

/-- 'laws.FnExactFractionOf', WHERE WHAT IT READS IS OF BULK AT MOST 1048576: true; the input reads as it did. -/
def fnExactFractionOfUptoRow : OpenClaim := { program := "ytileaagmamkdgaa", sum := "5bdc1b2a7acb8877763ce7bbc4d0db36750408e96fa1ec8966737dade50ce094", func := "loop.example/g01004/laws.FnExactFractionOf", spec := "fnExactFractionOf", apart := false, narrowed := true }
def FnExactFractionOfUptoSaid : Prop := fnExactFractionOfUptoRow.holds Try.pinned (OpenSpec.upto fnExactFractionOfSpec)

/-- 'laws.FnExactProductOf', WHERE WHAT IT READS IS OF BULK AT MOST 1048576: true; the input reads as it did. -/
def fnExactProductOfUptoRow : OpenClaim := { program := "ytileaagmamkdgaa", sum := "5bdc1b2a7acb8877763ce7bbc4d0db36750408e96fa1ec8966737dade50ce094", func := "loop.example/g01004/laws.FnExactProductOf", spec := "fnExactProductOf", apart := false, narrowed := true }
def FnExactProductOfUptoSaid : Prop := fnExactProductOfUptoRow.holds Try.pinned (OpenSpec.upto fnExactProductOfSpec)

/-- 'laws.FnExactDifferenceOf', WHERE WHAT IT READS IS OF BULK AT MOST 1048576: true; the input reads as it did. -/
def fnExactDifferenceOfUptoRow : OpenClaim := { program := "ytileaagmamkdgaa", sum := "5bdc1b2a7acb8877763ce7bbc4d0db36750408e96fa1ec8966737dade50ce094", func := "loop.example/g01004/laws.FnExactDifferenceOf", spec := "fnExactDifferenceOf", apart := false, narrowed := true }
def FnExactDifferenceOfUptoSaid : Prop := fnExactDifferenceOfUptoRow.holds Try.pinned (OpenSpec.upto fnExactDifferenceOfSpec)

/-- 'laws.FnExactSumOf', WHERE WHAT IT READS IS OF BULK AT MOST 1048576: true; the input reads as it did. -/
def fnExactSumOfUptoRow : OpenClaim := { program := "ytileaagmamkdgaa", sum := "5bdc1b2a7acb8877763ce7bbc4d0db36750408e96fa1ec8966737dade50ce094", func := "loop.example/g01004/laws.FnExactSumOf", spec := "fnExactSumOf", apart := false, narrowed := true }
def FnExactSumOfUptoSaid : Prop := fnExactSumOfUptoRow.holds Try.pinned (OpenSpec.upto fnExactSumOfSpec)

/-- 'laws.FnExactFloorAndRest', WHERE WHAT IT READS IS OF BULK AT MOST 1048576: true; the input reads as it did. -/
def fnExactFloorAndRestUptoRow : OpenClaim := { program := "ytileaagmamkdgaa", sum := "5bdc1b2a7acb8877763ce7bbc4d0db36750408e96fa1ec8966737dade50ce094", func := "loop.example/g01004/laws.FnExactFloorAndRest", spec := "fnExactFloorAndRest", apart := false, narrowed := true }
def FnExactFloorAndRestUptoSaid : Prop := fnExactFloorAndRestUptoRow.holds Try.pinned (OpenSpec.upto fnExactFloorAndRestSpec)

/-- 'laws.FnExactQuotientOf', WHERE WHAT IT READS IS OF BULK AT MOST 1048576: true; the input reads as it did. -/
def fnExactQuotientOfUptoRow : OpenClaim := { program := "ytileaagmamkdgaa", sum := "5bdc1b2a7acb8877763ce7bbc4d0db36750408e96fa1ec8966737dade50ce094", func := "loop.example/g01004/laws.FnExactQuotientOf", spec := "fnExactQuotientOf", apart := false, narrowed := true }
def FnExactQuotientOfUptoSaid : Prop := fnExactQuotientOfUptoRow.holds Try.pinned (OpenSpec.upto fnExactQuotientOfSpec)

/-- 'laws.FnExactSimplestIn', WHERE WHAT IT READS IS OF BULK AT MOST 1048576: true; the input reads as it did. -/
def fnExactSimplestInUptoRow : OpenClaim := { program := "ytileaagmamkdgaa", sum := "5bdc1b2a7acb8877763ce7bbc4d0db36750408e96fa1ec8966737dade50ce094", func := "loop.example/g01004/laws.FnExactSimplestIn", spec := "fnExactSimplestIn", apart := false, narrowed := true }
def FnExactSimplestInUptoSaid : Prop := fnExactSimplestInUptoRow.holds Try.pinned (OpenSpec.upto fnExactSimplestInSpec)

end Rows
end Go.Proofs.Ytileaagmamkdgaa
