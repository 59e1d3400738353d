/-
  No cell of these rows narrows 'for every input' (looked for: loops, veiled, ifaces, maps, wideKeys, modest, calm, conditions, laid).
  DERIVED. THE GIVEN ROWS OF THIS SEAT. 12 by the template 'for every input the law returns true; each argument reads behind the call as it read before'; 0 by the template 'total and deterministic' (their statements: YtcefphdobllakaaTotals.lean).
  GIVEN WITH THE SEED: the statements are not yours to turn. If you find one false, say at which input.
  Laid BY PROGRAM, IN A SANDBOX (cutbox-rows.mjs): the forced cells as the released guide's own fill.sh prints them over the translation a9ca76166cc97404… (all of the seat's roots in one cut). By AI agents, Wed Nov 11 2026. No macro, syntax, notation, axiom, sorry.
-/
import Derived.Test.YtcefphdobllakaaChecked
import GoSem.Claim
import GoSem.ClaimJoined
import GoSem.ClaimMapViews
import Derived.JoinedTies
import Derived.KernelRfl
namespace Go.Proofs.Ytcefphdobllakaa
/- THE CELL 'sum', in the pinned program and in every row, IS THE sha256 OF THE DUMP (.gsa) THAT YtcefphdobllakaaProg.lean LOADS. Nothing in Lean hashes anything: it is a label: what it is worth is what the hold of that sum in a sandbox is worth. -/
noncomputable def Try.pinned : Pinned := { name := "ytcefphdobllakaa", sum := "a9ca76166cc974041a8db042d379f5792749a28003dc682f872e0aee416681d3", checked := Try.checked }
namespace Rows
def none {H : Type} : Left H := { results := [], args := [] }

/-- 'laws.FnExactScaleCurve': WHATEVER THE INPUT: true; the input reads as it did. -/
def fnExactScaleCurveSpec : ChangeSpec := { name := "fnExactScaleCurve", fn := fun _ => fun
  | [d1, d2] => { results := [.lit (.bool true)], args := [d1, d2] }
  | _ => none }
def fnExactScaleCurveRow : OpenClaim := { program := "ytcefphdobllakaa", sum := "a9ca76166cc974041a8db042d379f5792749a28003dc682f872e0aee416681d3", func := "loop.example/g01004/laws.FnExactScaleCurve", spec := "fnExactScaleCurve", apart := false }
def FnExactScaleCurveSaid : Prop := fnExactScaleCurveRow.holds Try.pinned (OpenSpec.ofChange fnExactScaleCurveSpec)

/-- ITS FALSE NEIGHBOUR: 'it returns false'. Refute it at one input. -/
def fnExactScaleCurveWrong : ChangeSpec := { name := "fnExactScaleCurve", fn := fun _ => fun
  | [d1, d2] => { results := [.lit (.bool false)], args := [d1, d2] }
  | _ => none }
def FnExactScaleCurveWrongFalsely : Prop := fnExactScaleCurveRow.holds Try.pinned (OpenSpec.ofChange fnExactScaleCurveWrong)

/-- 'laws.FnExactIsLess': WHATEVER THE INPUT: true; the input reads as it did. -/
def fnExactIsLessSpec : ChangeSpec := { name := "fnExactIsLess", fn := fun _ => fun
  | [d1, d2] => { results := [.lit (.bool true)], args := [d1, d2] }
  | _ => none }
def fnExactIsLessRow : OpenClaim := { program := "ytcefphdobllakaa", sum := "a9ca76166cc974041a8db042d379f5792749a28003dc682f872e0aee416681d3", func := "loop.example/g01004/laws.FnExactIsLess", spec := "fnExactIsLess", apart := false }
def FnExactIsLessSaid : Prop := fnExactIsLessRow.holds Try.pinned (OpenSpec.ofChange fnExactIsLessSpec)

/-- ITS FALSE NEIGHBOUR: 'it returns false'. Refute it at one input. -/
def fnExactIsLessWrong : ChangeSpec := { name := "fnExactIsLess", fn := fun _ => fun
  | [d1, d2] => { results := [.lit (.bool false)], args := [d1, d2] }
  | _ => none }
def FnExactIsLessWrongFalsely : Prop := fnExactIsLessRow.holds Try.pinned (OpenSpec.ofChange fnExactIsLessWrong)

/-- 'laws.FnExactReverseCubic': WHATEVER THE INPUT: true; the input reads as it did. -/
def fnExactReverseCubicSpec : ChangeSpec := { name := "fnExactReverseCubic", fn := fun _ => fun
  | [d] => { results := [.lit (.bool true)], args := [d] }
  | _ => none }
def fnExactReverseCubicRow : OpenClaim := { program := "ytcefphdobllakaa", sum := "a9ca76166cc974041a8db042d379f5792749a28003dc682f872e0aee416681d3", func := "loop.example/g01004/laws.FnExactReverseCubic", spec := "fnExactReverseCubic", apart := false }
def FnExactReverseCubicSaid : Prop := fnExactReverseCubicRow.holds Try.pinned (OpenSpec.ofChange fnExactReverseCubicSpec)

/-- ITS FALSE NEIGHBOUR: 'it returns false'. Refute it at one input. -/
def fnExactReverseCubicWrong : ChangeSpec := { name := "fnExactReverseCubic", fn := fun _ => fun
  | [d] => { results := [.lit (.bool false)], args := [d] }
  | _ => none }
def FnExactReverseCubicWrongFalsely : Prop := fnExactReverseCubicRow.holds Try.pinned (OpenSpec.ofChange fnExactReverseCubicWrong)

/-- 'laws.FnExactSquareRoot': WHATEVER THE INPUT: true; the input reads as it did. -/
def fnExactSquareRootSpec : ChangeSpec := { name := "fnExactSquareRoot", fn := fun _ => fun
  | [d1, d2] => { results := [.lit (.bool true)], args := [d1, d2] }
  | _ => none }
def fnExactSquareRootRow : OpenClaim := { program := "ytcefphdobllakaa", sum := "a9ca76166cc974041a8db042d379f5792749a28003dc682f872e0aee416681d3", func := "loop.example/g01004/laws.FnExactSquareRoot", spec := "fnExactSquareRoot", apart := false }
def FnExactSquareRootSaid : Prop := fnExactSquareRootRow.holds Try.pinned (OpenSpec.ofChange fnExactSquareRootSpec)

/-- ITS FALSE NEIGHBOUR: 'it returns false'. Refute it at one input. -/
def fnExactSquareRootWrong : ChangeSpec := { name := "fnExactSquareRoot", fn := fun _ => fun
  | [d1, d2] => { results := [.lit (.bool false)], args := [d1, d2] }
  | _ => none }
def FnExactSquareRootWrongFalsely : Prop := fnExactSquareRootRow.holds Try.pinned (OpenSpec.ofChange fnExactSquareRootWrong)

/-- 'laws.FnExactLogarithmOf': WHATEVER THE INPUT: true; the input reads as it did. -/
def fnExactLogarithmOfSpec : ChangeSpec := { name := "fnExactLogarithmOf", fn := fun _ => fun
  | [d1, d2, d3] => { results := [.lit (.bool true)], args := [d1, d2, d3] }
  | _ => none }
def fnExactLogarithmOfRow : OpenClaim := { program := "ytcefphdobllakaa", sum := "a9ca76166cc974041a8db042d379f5792749a28003dc682f872e0aee416681d3", func := "loop.example/g01004/laws.FnExactLogarithmOf", spec := "fnExactLogarithmOf", apart := false }
def FnExactLogarithmOfSaid : Prop := fnExactLogarithmOfRow.holds Try.pinned (OpenSpec.ofChange fnExactLogarithmOfSpec)

/-- ITS FALSE NEIGHBOUR: 'it returns false'. Refute it at one input. -/
def fnExactLogarithmOfWrong : ChangeSpec := { name := "fnExactLogarithmOf", fn := fun _ => fun
  | [d1, d2, d3] => { results := [.lit (.bool false)], args := [d1, d2, d3] }
  | _ => none }
def FnExactLogarithmOfWrongFalsely : Prop := fnExactLogarithmOfRow.holds Try.pinned (OpenSpec.ofChange fnExactLogarithmOfWrong)

/-- 'laws.FnExactValuationOf': WHATEVER THE INPUT: true; the input reads as it did. -/
def fnExactValuationOfSpec : ChangeSpec := { name := "fnExactValuationOf", fn := fun _ => fun
  | [d1, d2] => { results := [.lit (.bool true)], args := [d1, d2] }
  | _ => none }
def fnExactValuationOfRow : OpenClaim := { program := "ytcefphdobllakaa", sum := "a9ca76166cc974041a8db042d379f5792749a28003dc682f872e0aee416681d3", func := "loop.example/g01004/laws.FnExactValuationOf", spec := "fnExactValuationOf", apart := false }
def FnExactValuationOfSaid : Prop := fnExactValuationOfRow.holds Try.pinned (OpenSpec.ofChange fnExactValuationOfSpec)

/-- ITS FALSE NEIGHBOUR: 'it returns false'. Refute it at one input. -/
def fnExactValuationOfWrong : ChangeSpec := { name := "fnExactValuationOf", fn := fun _ => fun
  | [d1, d2] => { results := [.lit (.bool false)], args := [d1, d2] }
  | _ => none }
def FnExactValuationOfWrongFalsely : Prop := fnExactValuationOfRow.holds Try.pinned (OpenSpec.ofChange fnExactValuationOfWrong)

/-- 'laws.FnExactAreIsomorphic': WHATEVER THE INPUT: true; the input reads as it did. -/
def fnExactAreIsomorphicSpec : ChangeSpec := { name := "fnExactAreIsomorphic", fn := fun _ => fun
  | [d1, d2] => { results := [.lit (.bool true)], args := [d1, d2] }
  | _ => none }
def fnExactAreIsomorphicRow : OpenClaim := { program := "ytcefphdobllakaa", sum := "a9ca76166cc974041a8db042d379f5792749a28003dc682f872e0aee416681d3", func := "loop.example/g01004/laws.FnExactAreIsomorphic", spec := "fnExactAreIsomorphic", apart := false }
def FnExactAreIsomorphicSaid : Prop := fnExactAreIsomorphicRow.holds Try.pinned (OpenSpec.ofChange fnExactAreIsomorphicSpec)

/-- ITS FALSE NEIGHBOUR: 'it returns false'. Refute it at one input. -/
def fnExactAreIsomorphicWrong : ChangeSpec := { name := "fnExactAreIsomorphic", fn := fun _ => fun
  | [d1, d2] => { results := [.lit (.bool false)], args := [d1, d2] }
  | _ => none }
def FnExactAreIsomorphicWrongFalsely : Prop := fnExactAreIsomorphicRow.holds Try.pinned (OpenSpec.ofChange fnExactAreIsomorphicWrong)

/-- 'laws.FnExactOrderOf': WHATEVER THE INPUT: true; the input reads as it did. -/
def fnExactOrderOfSpec : ChangeSpec := { name := "fnExactOrderOf", fn := fun _ => fun
  | [d1, d2] => { results := [.lit (.bool true)], args := [d1, d2] }
  | _ => none }
def fnExactOrderOfRow : OpenClaim := { program := "ytcefphdobllakaa", sum := "a9ca76166cc974041a8db042d379f5792749a28003dc682f872e0aee416681d3", func := "loop.example/g01004/laws.FnExactOrderOf", spec := "fnExactOrderOf", apart := false }
def FnExactOrderOfSaid : Prop := fnExactOrderOfRow.holds Try.pinned (OpenSpec.ofChange fnExactOrderOfSpec)

/-- ITS FALSE NEIGHBOUR: 'it returns false'. Refute it at one input. -/
def fnExactOrderOfWrong : ChangeSpec := { name := "fnExactOrderOf", fn := fun _ => fun
  | [d1, d2] => { results := [.lit (.bool false)], args := [d1, d2] }
  | _ => none }
def FnExactOrderOfWrongFalsely : Prop := fnExactOrderOfRow.holds Try.pinned (OpenSpec.ofChange fnExactOrderOfWrong)

/-- 'laws.FnExactSmallestModel': WHATEVER THE INPUT: true; the input reads as it did. -/
def fnExactSmallestModelSpec : ChangeSpec := { name := "fnExactSmallestModel", fn := fun _ => fun
  | [d] => { results := [.lit (.bool true)], args := [d] }
  | _ => none }
def fnExactSmallestModelRow : OpenClaim := { program := "ytcefphdobllakaa", sum := "a9ca76166cc974041a8db042d379f5792749a28003dc682f872e0aee416681d3", func := "loop.example/g01004/laws.FnExactSmallestModel", spec := "fnExactSmallestModel", apart := false }
def FnExactSmallestModelSaid : Prop := fnExactSmallestModelRow.holds Try.pinned (OpenSpec.ofChange fnExactSmallestModelSpec)

/-- ITS FALSE NEIGHBOUR: 'it returns false'. Refute it at one input. -/
def fnExactSmallestModelWrong : ChangeSpec := { name := "fnExactSmallestModel", fn := fun _ => fun
  | [d] => { results := [.lit (.bool false)], args := [d] }
  | _ => none }
def FnExactSmallestModelWrongFalsely : Prop := fnExactSmallestModelRow.holds Try.pinned (OpenSpec.ofChange fnExactSmallestModelWrong)

/-- 'laws.FnExactRealRootCount': WHATEVER THE INPUT: true; the input reads as it did. -/
def fnExactRealRootCountSpec : ChangeSpec := { name := "fnExactRealRootCount", fn := fun _ => fun
  | [d] => { results := [.lit (.bool true)], args := [d] }
  | _ => none }
def fnExactRealRootCountRow : OpenClaim := { program := "ytcefphdobllakaa", sum := "a9ca76166cc974041a8db042d379f5792749a28003dc682f872e0aee416681d3", func := "loop.example/g01004/laws.FnExactRealRootCount", spec := "fnExactRealRootCount", apart := false }
def FnExactRealRootCountSaid : Prop := fnExactRealRootCountRow.holds Try.pinned (OpenSpec.ofChange fnExactRealRootCountSpec)

/-- ITS FALSE NEIGHBOUR: 'it returns false'. Refute it at one input. -/
def fnExactRealRootCountWrong : ChangeSpec := { name := "fnExactRealRootCount", fn := fun _ => fun
  | [d] => { results := [.lit (.bool false)], args := [d] }
  | _ => none }
def FnExactRealRootCountWrongFalsely : Prop := fnExactRealRootCountRow.holds Try.pinned (OpenSpec.ofChange fnExactRealRootCountWrong)

/-- 'laws.FnExactPowerOf': WHATEVER THE INPUT: true; the input reads as it did. -/
def fnExactPowerOfSpec : ChangeSpec := { name := "fnExactPowerOf", fn := fun _ => fun
  | [d1, d2, d3] => { results := [.lit (.bool true)], args := [d1, d2, d3] }
  | _ => none }
def fnExactPowerOfRow : OpenClaim := { program := "ytcefphdobllakaa", sum := "a9ca76166cc974041a8db042d379f5792749a28003dc682f872e0aee416681d3", func := "loop.example/g01004/laws.FnExactPowerOf", spec := "fnExactPowerOf", apart := false }
def FnExactPowerOfSaid : Prop := fnExactPowerOfRow.holds Try.pinned (OpenSpec.ofChange fnExactPowerOfSpec)

/-- ITS FALSE NEIGHBOUR: 'it returns false'. Refute it at one input. -/
def fnExactPowerOfWrong : ChangeSpec := { name := "fnExactPowerOf", fn := fun _ => fun
  | [d1, d2, d3] => { results := [.lit (.bool false)], args := [d1, d2, d3] }
  | _ => none }
def FnExactPowerOfWrongFalsely : Prop := fnExactPowerOfRow.holds Try.pinned (OpenSpec.ofChange fnExactPowerOfWrong)

/-- 'laws.FnExactInverseOf': WHATEVER THE INPUT: true; the input reads as it did. -/
def fnExactInverseOfSpec : ChangeSpec := { name := "fnExactInverseOf", fn := fun _ => fun
  | [d1, d2] => { results := [.lit (.bool true)], args := [d1, d2] }
  | _ => none }
def fnExactInverseOfRow : OpenClaim := { program := "ytcefphdobllakaa", sum := "a9ca76166cc974041a8db042d379f5792749a28003dc682f872e0aee416681d3", func := "loop.example/g01004/laws.FnExactInverseOf", spec := "fnExactInverseOf", apart := false }
def FnExactInverseOfSaid : Prop := fnExactInverseOfRow.holds Try.pinned (OpenSpec.ofChange fnExactInverseOfSpec)

/-- ITS FALSE NEIGHBOUR: 'it returns false'. Refute it at one input. -/
def fnExactInverseOfWrong : ChangeSpec := { name := "fnExactInverseOf", fn := fun _ => fun
  | [d1, d2] => { results := [.lit (.bool false)], args := [d1, d2] }
  | _ => none }
def FnExactInverseOfWrongFalsely : Prop := fnExactInverseOfRow.holds Try.pinned (OpenSpec.ofChange fnExactInverseOfWrong)

/- THE SECOND FORM. 'bulk': how many values and letters a reading holds, each counted each time it is reached (what is shared counts as often as it is met; a slice's spare places count too). A statement '..UptoSaid' is the law's where the arguments, and the package variables that the reading takes, are together of bulk at most 1048576: NARROWER than '..Said'. Prove '..Said' where nothing that the law and all that it calls make is longer than what came in: it says more and counts as full. Else prove '..UptoSaid'. A law counts once. -/
mutual
def uptoBulk {H : Type} : DataW H → Nat
  | .lit (.string bytes) => bytes.length + 1
  | .lit _ => 1
  | .nil => 1
  | .ptr d => uptoBulk d + 1
  | .slice elems spare => uptoBulkAll elems + uptoBulkAll spare + 1
  | .agg parts => uptoBulkAll parts + 1
  | .iface _ d => uptoBulk d + 1
  | .map entries => uptoBulkEntries entries + 1
  | .held _ => 1
def uptoBulkAll {H : Type} : List (DataW H) → Nat
  | [] => 0
  | d :: r => uptoBulk d + uptoBulkAll r
def uptoBulkEntries {H : Type} : List (Lit × DataW H) → Nat
  | [] => 0
  | x :: r => uptoBulkEntry x + uptoBulkEntries r
def uptoBulkEntry {H : Type} : Lit × DataW H → Nat
  | (.string bytes, d) => bytes.length + uptoBulk d + 1
  | (_, d) => uptoBulk d + 1
 end
def uptoSmall : (H : Type) → List (DataW H) → Bool := fun _ ds => decide (uptoBulkAll ds ≤ 1048576)
def OpenSpec.upto (s : _root_.Go.ChangeSpec) : _root_.Go.OpenSpec := { _root_.Go.OpenSpec.ofChange s with cond := some uptoSmall }

/-- 'laws.FnExactScaleCurve', WHERE WHAT IT READS IS OF BULK AT MOST 1048576: true; the input reads as it did. -/
def fnExactScaleCurveUptoRow : OpenClaim := { program := "ytcefphdobllakaa", sum := "a9ca76166cc974041a8db042d379f5792749a28003dc682f872e0aee416681d3", func := "loop.example/g01004/laws.FnExactScaleCurve", spec := "fnExactScaleCurve", apart := false, narrowed := true }
def FnExactScaleCurveUptoSaid : Prop := fnExactScaleCurveUptoRow.holds Try.pinned (OpenSpec.upto fnExactScaleCurveSpec)

/-- 'laws.FnExactIsLess', WHERE WHAT IT READS IS OF BULK AT MOST 1048576: true; the input reads as it did. -/
def fnExactIsLessUptoRow : OpenClaim := { program := "ytcefphdobllakaa", sum := "a9ca76166cc974041a8db042d379f5792749a28003dc682f872e0aee416681d3", func := "loop.example/g01004/laws.FnExactIsLess", spec := "fnExactIsLess", apart := false, narrowed := true }
def FnExactIsLessUptoSaid : Prop := fnExactIsLessUptoRow.holds Try.pinned (OpenSpec.upto fnExactIsLessSpec)

/-- 'laws.FnExactReverseCubic', WHERE WHAT IT READS IS OF BULK AT MOST 1048576: true; the input reads as it did. -/
def fnExactReverseCubicUptoRow : OpenClaim := { program := "ytcefphdobllakaa", sum := "a9ca76166cc974041a8db042d379f5792749a28003dc682f872e0aee416681d3", func := "loop.example/g01004/laws.FnExactReverseCubic", spec := "fnExactReverseCubic", apart := false, narrowed := true }
def FnExactReverseCubicUptoSaid : Prop := fnExactReverseCubicUptoRow.holds Try.pinned (OpenSpec.upto fnExactReverseCubicSpec)

/-- 'laws.FnExactSquareRoot', WHERE WHAT IT READS IS OF BULK AT MOST 1048576: true; the input reads as it did. -/
def fnExactSquareRootUptoRow : OpenClaim := { program := "ytcefphdobllakaa", sum := "a9ca76166cc974041a8db042d379f5792749a28003dc682f872e0aee416681d3", func := "loop.example/g01004/laws.FnExactSquareRoot", spec := "fnExactSquareRoot", apart := false, narrowed := true }
def FnExactSquareRootUptoSaid : Prop := fnExactSquareRootUptoRow.holds Try.pinned (OpenSpec.upto fnExactSquareRootSpec)

/-- 'laws.FnExactLogarithmOf', WHERE WHAT IT READS IS OF BULK AT MOST 1048576: true; the input reads as it did. -/
def fnExactLogarithmOfUptoRow : OpenClaim := { program := "ytcefphdobllakaa", sum := "a9ca76166cc974041a8db042d379f5792749a28003dc682f872e0aee416681d3", func := "loop.example/g01004/laws.FnExactLogarithmOf", spec := "fnExactLogarithmOf", apart := false, narrowed := true }
def FnExactLogarithmOfUptoSaid : Prop := fnExactLogarithmOfUptoRow.holds Try.pinned (OpenSpec.upto fnExactLogarithmOfSpec)

/-- 'laws.FnExactValuationOf', WHERE WHAT IT READS IS OF BULK AT MOST 1048576: true; the input reads as it did. -/
def fnExactValuationOfUptoRow : OpenClaim := { program := "ytcefphdobllakaa", sum := "a9ca76166cc974041a8db042d379f5792749a28003dc682f872e0aee416681d3", func := "loop.example/g01004/laws.FnExactValuationOf", spec := "fnExactValuationOf", apart := false, narrowed := true }
def FnExactValuationOfUptoSaid : Prop := fnExactValuationOfUptoRow.holds Try.pinned (OpenSpec.upto fnExactValuationOfSpec)

/-- 'laws.FnExactAreIsomorphic', WHERE WHAT IT READS IS OF BULK AT MOST 1048576: true; the input reads as it did. -/
def fnExactAreIsomorphicUptoRow : OpenClaim := { program := "ytcefphdobllakaa", sum := "a9ca76166cc974041a8db042d379f5792749a28003dc682f872e0aee416681d3", func := "loop.example/g01004/laws.FnExactAreIsomorphic", spec := "fnExactAreIsomorphic", apart := false, narrowed := true }
def FnExactAreIsomorphicUptoSaid : Prop := fnExactAreIsomorphicUptoRow.holds Try.pinned (OpenSpec.upto fnExactAreIsomorphicSpec)

/-- 'laws.FnExactOrderOf', WHERE WHAT IT READS IS OF BULK AT MOST 1048576: true; the input reads as it did. -/
def fnExactOrderOfUptoRow : OpenClaim := { program := "ytcefphdobllakaa", sum := "a9ca76166cc974041a8db042d379f5792749a28003dc682f872e0aee416681d3", func := "loop.example/g01004/laws.FnExactOrderOf", spec := "fnExactOrderOf", apart := false, narrowed := true }
def FnExactOrderOfUptoSaid : Prop := fnExactOrderOfUptoRow.holds Try.pinned (OpenSpec.upto fnExactOrderOfSpec)

/-- 'laws.FnExactSmallestModel', WHERE WHAT IT READS IS OF BULK AT MOST 1048576: true; the input reads as it did. -/
def fnExactSmallestModelUptoRow : OpenClaim := { program := "ytcefphdobllakaa", sum := "a9ca76166cc974041a8db042d379f5792749a28003dc682f872e0aee416681d3", func := "loop.example/g01004/laws.FnExactSmallestModel", spec := "fnExactSmallestModel", apart := false, narrowed := true }
def FnExactSmallestModelUptoSaid : Prop := fnExactSmallestModelUptoRow.holds Try.pinned (OpenSpec.upto fnExactSmallestModelSpec)

/-- 'laws.FnExactRealRootCount', WHERE WHAT IT READS IS OF BULK AT MOST 1048576: true; the input reads as it did. -/
def fnExactRealRootCountUptoRow : OpenClaim := { program := "ytcefphdobllakaa", sum := "a9ca76166cc974041a8db042d379f5792749a28003dc682f872e0aee416681d3", func := "loop.example/g01004/laws.FnExactRealRootCount", spec := "fnExactRealRootCount", apart := false, narrowed := true }
def FnExactRealRootCountUptoSaid : Prop := fnExactRealRootCountUptoRow.holds Try.pinned (OpenSpec.upto fnExactRealRootCountSpec)

/-- 'laws.FnExactPowerOf', WHERE WHAT IT READS IS OF BULK AT MOST 1048576: true; the input reads as it did. -/
def fnExactPowerOfUptoRow : OpenClaim := { program := "ytcefphdobllakaa", sum := "a9ca76166cc974041a8db042d379f5792749a28003dc682f872e0aee416681d3", func := "loop.example/g01004/laws.FnExactPowerOf", spec := "fnExactPowerOf", apart := false, narrowed := true }
def FnExactPowerOfUptoSaid : Prop := fnExactPowerOfUptoRow.holds Try.pinned (OpenSpec.upto fnExactPowerOfSpec)

/-- 'laws.FnExactInverseOf', WHERE WHAT IT READS IS OF BULK AT MOST 1048576: true; the input reads as it did. -/
def fnExactInverseOfUptoRow : OpenClaim := { program := "ytcefphdobllakaa", sum := "a9ca76166cc974041a8db042d379f5792749a28003dc682f872e0aee416681d3", func := "loop.example/g01004/laws.FnExactInverseOf", spec := "fnExactInverseOf", apart := false, narrowed := true }
def FnExactInverseOfUptoSaid : Prop := fnExactInverseOfUptoRow.holds Try.pinned (OpenSpec.upto fnExactInverseOfSpec)

end Rows
end Go.Proofs.Ytcefphdobllakaa
