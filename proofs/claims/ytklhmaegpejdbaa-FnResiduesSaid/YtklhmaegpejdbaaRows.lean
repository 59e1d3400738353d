/-
  No cell of these rows narrows 'for every input' (looked for: loops, veiled, ifaces, maps, wideKeys, modest, calm, conditions, laid).
  DERIVED. THE GIVEN ROWS OF THIS SEAT. 5 by the template 'for every input the law returns true; each argument reads behind the call as it read before'; 0 by the template 'total and deterministic' (their statements: YtklhmaegpejdbaaTotals.lean).
  GIVEN WITH THE SEED: the statements are not yours to turn. If you find one false, say at which input.
  Laid BY PROGRAM, IN A SANDBOX (cutbox-rows.mjs): the forced cells as the released guide's own fill.sh prints them over the translation e4c03e7a87c6a860… (all of the seat's roots in one cut). By AI agents, Wed Nov 11 2026. No macro, syntax, notation, axiom, sorry.
-/
import Derived.Test.YtklhmaegpejdbaaChecked
import GoSem.Claim
import GoSem.ClaimJoined
import GoSem.ClaimMapViews
import Derived.JoinedTies
import Derived.KernelRfl
namespace Go.Proofs.Ytklhmaegpejdbaa
/- THE CELL 'sum', in the pinned program and in every row, IS THE sha256 OF THE DUMP (.gsa) THAT YtklhmaegpejdbaaProg.lean LOADS. Nothing in Lean hashes anything: it is a label: what it is worth is what the hold of that sum in a sandbox is worth. -/
noncomputable def Try.pinned : Pinned := { name := "ytklhmaegpejdbaa", sum := "e4c03e7a87c6a8606eb96c517739c189684e875ff6c205b145dcc9fceacfa467", checked := Try.checked }
namespace Rows
def none {H : Type} : Left H := { results := [], args := [] }

/-- 'laws.FnExactSimplestIn': WHATEVER THE INPUT: true; the input reads as it did. -/
def fnExactSimplestInSpec : ChangeSpec := { name := "fnExactSimplestIn", fn := fun _ => fun
  | [d1, d2] => { results := [.lit (.bool true)], args := [d1, d2] }
  | _ => none }
def fnExactSimplestInRow : OpenClaim := { program := "ytklhmaegpejdbaa", sum := "e4c03e7a87c6a8606eb96c517739c189684e875ff6c205b145dcc9fceacfa467", func := "loop.example/g01004/laws.FnExactSimplestIn", spec := "fnExactSimplestIn", apart := false }
def FnExactSimplestInSaid : Prop := fnExactSimplestInRow.holds Try.pinned (OpenSpec.ofChange fnExactSimplestInSpec)

/-- ITS FALSE NEIGHBOUR: 'it returns false'. Refute it at one input. -/
def fnExactSimplestInWrong : ChangeSpec := { name := "fnExactSimplestIn", fn := fun _ => fun
  | [d1, d2] => { results := [.lit (.bool false)], args := [d1, d2] }
  | _ => none }
def FnExactSimplestInWrongFalsely : Prop := fnExactSimplestInRow.holds Try.pinned (OpenSpec.ofChange fnExactSimplestInWrong)

/-- 'laws.FnExactSquareRootOf': WHATEVER THE INPUT: true; the input reads as it did. -/
def fnExactSquareRootOfSpec : ChangeSpec := { name := "fnExactSquareRootOf", fn := fun _ => fun
  | [d] => { results := [.lit (.bool true)], args := [d] }
  | _ => none }
def fnExactSquareRootOfRow : OpenClaim := { program := "ytklhmaegpejdbaa", sum := "e4c03e7a87c6a8606eb96c517739c189684e875ff6c205b145dcc9fceacfa467", func := "loop.example/g01004/laws.FnExactSquareRootOf", spec := "fnExactSquareRootOf", inPlace := ["math.sqrt"], apart := false }
def FnExactSquareRootOfSaid : Prop := fnExactSquareRootOfRow.holds Try.pinned (OpenSpec.ofChange fnExactSquareRootOfSpec)

/-- ITS FALSE NEIGHBOUR: 'it returns false'. Refute it at one input. -/
def fnExactSquareRootOfWrong : ChangeSpec := { name := "fnExactSquareRootOf", fn := fun _ => fun
  | [d] => { results := [.lit (.bool false)], args := [d] }
  | _ => none }
def FnExactSquareRootOfWrongFalsely : Prop := fnExactSquareRootOfRow.holds Try.pinned (OpenSpec.ofChange fnExactSquareRootOfWrong)

/-- 'laws.FnResidues': WHATEVER THE INPUT: true; the input reads as it did. -/
def fnResiduesSpec : ChangeSpec := { name := "fnResidues", fn := fun _ => fun
  | [d1, d2] => { results := [.lit (.bool true)], args := [d1, d2] }
  | _ => none }
def fnResiduesRow : OpenClaim := { program := "ytklhmaegpejdbaa", sum := "e4c03e7a87c6a8606eb96c517739c189684e875ff6c205b145dcc9fceacfa467", func := "loop.example/g01004/laws.FnResidues", spec := "fnResidues", apart := false }
def FnResiduesSaid : Prop := fnResiduesRow.holds Try.pinned (OpenSpec.ofChange fnResiduesSpec)

/-- ITS FALSE NEIGHBOUR: 'it returns false'. Refute it at one input. -/
def fnResiduesWrong : ChangeSpec := { name := "fnResidues", fn := fun _ => fun
  | [d1, d2] => { results := [.lit (.bool false)], args := [d1, d2] }
  | _ => none }
def FnResiduesWrongFalsely : Prop := fnResiduesRow.holds Try.pinned (OpenSpec.ofChange fnResiduesWrong)

/-- 'laws.FnFractions': WHATEVER THE INPUT: true; the input reads as it did. -/
def fnFractionsSpec : ChangeSpec := { name := "fnFractions", fn := fun _ => fun
  | [d1, d2] => { results := [.lit (.bool true)], args := [d1, d2] }
  | _ => none }
def fnFractionsRow : OpenClaim := { program := "ytklhmaegpejdbaa", sum := "e4c03e7a87c6a8606eb96c517739c189684e875ff6c205b145dcc9fceacfa467", func := "loop.example/g01004/laws.FnFractions", spec := "fnFractions", apart := false }
def FnFractionsSaid : Prop := fnFractionsRow.holds Try.pinned (OpenSpec.ofChange fnFractionsSpec)

/-- ITS FALSE NEIGHBOUR: 'it returns false'. Refute it at one input. -/
def fnFractionsWrong : ChangeSpec := { name := "fnFractions", fn := fun _ => fun
  | [d1, d2] => { results := [.lit (.bool false)], args := [d1, d2] }
  | _ => none }
def FnFractionsWrongFalsely : Prop := fnFractionsRow.holds Try.pinned (OpenSpec.ofChange fnFractionsWrong)

/-- 'laws.FnPrimes': WHATEVER THE INPUT: true; the input reads as it did. -/
def fnPrimesSpec : ChangeSpec := { name := "fnPrimes", fn := fun _ => fun
  | [d1, d2] => { results := [.lit (.bool true)], args := [d1, d2] }
  | _ => none }
def fnPrimesRow : OpenClaim := { program := "ytklhmaegpejdbaa", sum := "e4c03e7a87c6a8606eb96c517739c189684e875ff6c205b145dcc9fceacfa467", func := "loop.example/g01004/laws.FnPrimes", spec := "fnPrimes", apart := false }
def FnPrimesSaid : Prop := fnPrimesRow.holds Try.pinned (OpenSpec.ofChange fnPrimesSpec)

/-- ITS FALSE NEIGHBOUR: 'it returns false'. Refute it at one input. -/
def fnPrimesWrong : ChangeSpec := { name := "fnPrimes", fn := fun _ => fun
  | [d1, d2] => { results := [.lit (.bool false)], args := [d1, d2] }
  | _ => none }
def FnPrimesWrongFalsely : Prop := fnPrimesRow.holds Try.pinned (OpenSpec.ofChange fnPrimesWrong)

/- THE SECOND FORM. 'bulk': how many values and letters a reading holds, each counted each time it is reached (what is shared counts as often as it is met; a slice's spare places count too). A statement '..UptoSaid' is the law's where the arguments, and the package variables that the reading takes, are together of bulk at most 1048576: NARROWER than '..Said'. Prove '..Said' where nothing that the law and all that it calls make is longer than what came in: it says more and counts as full. Else prove '..UptoSaid'. A law counts once. -/
mutual
def uptoBulk {H : Type} : DataW H → Nat
  | .lit (.string bytes) => bytes.length + 1
  | .lit _ => 1
  | .nil => 1
  | .ptr d => uptoBulk d + 1
  | .slice elems spare => uptoBulkAll elems + uptoBulkAll spare + 1
  | .agg parts => uptoBulkAll parts + 1
  | .iface _ d => uptoBulk d + 1
  | .map entries => uptoBulkEntries entries + 1
  | .held _ => 1
def uptoBulkAll {H : Type} : List (DataW H) → Nat
  | [] => 0
  | d :: r => uptoBulk d + uptoBulkAll r
def uptoBulkEntries {H : Type} : List (Lit × DataW H) → Nat
  | [] => 0
  | x :: r => uptoBulkEntry x + uptoBulkEntries r
def uptoBulkEntry {H : Type} : Lit × DataW H → Nat
  | (.string bytes, d) => bytes.length + uptoBulk d + 1
  | (_, d) => uptoBulk d + 1
 end
def uptoSmall : (H : Type) → List (DataW H) → Bool := fun _ ds => decide (uptoBulkAll ds ≤ 1048576)
def OpenSpec.upto (s : _root_.Go.ChangeSpec) : _root_.Go.OpenSpec := { _root_.Go.OpenSpec.ofChange s with cond := some uptoSmall }

/-- 'laws.FnExactSimplestIn', WHERE WHAT IT READS IS OF BULK AT MOST 1048576: true; the input reads as it did. -/
def fnExactSimplestInUptoRow : OpenClaim := { program := "ytklhmaegpejdbaa", sum := "e4c03e7a87c6a8606eb96c517739c189684e875ff6c205b145dcc9fceacfa467", func := "loop.example/g01004/laws.FnExactSimplestIn", spec := "fnExactSimplestIn", apart := false, narrowed := true }
def FnExactSimplestInUptoSaid : Prop := fnExactSimplestInUptoRow.holds Try.pinned (OpenSpec.upto fnExactSimplestInSpec)

/-- 'laws.FnExactSquareRootOf', WHERE WHAT IT READS IS OF BULK AT MOST 1048576: true; the input reads as it did. -/
def fnExactSquareRootOfUptoRow : OpenClaim := { program := "ytklhmaegpejdbaa", sum := "e4c03e7a87c6a8606eb96c517739c189684e875ff6c205b145dcc9fceacfa467", func := "loop.example/g01004/laws.FnExactSquareRootOf", spec := "fnExactSquareRootOf", inPlace := ["math.sqrt"], apart := false, narrowed := true }
def FnExactSquareRootOfUptoSaid : Prop := fnExactSquareRootOfUptoRow.holds Try.pinned (OpenSpec.upto fnExactSquareRootOfSpec)

/-- 'laws.FnResidues', WHERE WHAT IT READS IS OF BULK AT MOST 1048576: true; the input reads as it did. -/
def fnResiduesUptoRow : OpenClaim := { program := "ytklhmaegpejdbaa", sum := "e4c03e7a87c6a8606eb96c517739c189684e875ff6c205b145dcc9fceacfa467", func := "loop.example/g01004/laws.FnResidues", spec := "fnResidues", apart := false, narrowed := true }
def FnResiduesUptoSaid : Prop := fnResiduesUptoRow.holds Try.pinned (OpenSpec.upto fnResiduesSpec)

/-- 'laws.FnFractions', WHERE WHAT IT READS IS OF BULK AT MOST 1048576: true; the input reads as it did. -/
def fnFractionsUptoRow : OpenClaim := { program := "ytklhmaegpejdbaa", sum := "e4c03e7a87c6a8606eb96c517739c189684e875ff6c205b145dcc9fceacfa467", func := "loop.example/g01004/laws.FnFractions", spec := "fnFractions", apart := false, narrowed := true }
def FnFractionsUptoSaid : Prop := fnFractionsUptoRow.holds Try.pinned (OpenSpec.upto fnFractionsSpec)

/-- 'laws.FnPrimes', WHERE WHAT IT READS IS OF BULK AT MOST 1048576: true; the input reads as it did. -/
def fnPrimesUptoRow : OpenClaim := { program := "ytklhmaegpejdbaa", sum := "e4c03e7a87c6a8606eb96c517739c189684e875ff6c205b145dcc9fceacfa467", func := "loop.example/g01004/laws.FnPrimes", spec := "fnPrimes", apart := false, narrowed := true }
def FnPrimesUptoSaid : Prop := fnPrimesUptoRow.holds Try.pinned (OpenSpec.upto fnPrimesSpec)

end Rows
end Go.Proofs.Ytklhmaegpejdbaa
