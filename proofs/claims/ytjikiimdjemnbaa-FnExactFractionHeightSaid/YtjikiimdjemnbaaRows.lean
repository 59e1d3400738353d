/-
  No cell of these rows narrows 'for every input' (looked for: loops, veiled, ifaces, maps, wideKeys, modest, calm, conditions, laid).
  DERIVED. THE GIVEN ROWS OF THIS SEAT. 12 by the template 'for every input the law returns true; each argument reads behind the call as it read before'; 0 by the template 'total and deterministic' (their statements: YtjikiimdjemnbaaTotals.lean).
  GIVEN WITH THE SEED: the statements are not yours to turn. If you find one false, say at which input.
  Laid BY PROGRAM, IN A SANDBOX (cutbox-rows.mjs): the forced cells as the released guide's own fill.sh prints them over the translation 0d012618be921f0f… (all of the seat's roots in one cut). By AI agents, Wed Nov 11 2026. No macro, syntax, notation, axiom, sorry.
-/
import Derived.Test.YtjikiimdjemnbaaChecked
import GoSem.Claim
import GoSem.ClaimJoined
import GoSem.ClaimMapViews
import Derived.JoinedTies
import Derived.KernelRfl
namespace Go.Proofs.Ytjikiimdjemnbaa
/- THE CELL 'sum', in the pinned program and in every row, IS THE sha256 OF THE DUMP (.gsa) THAT YtjikiimdjemnbaaProg.lean LOADS. Nothing in Lean hashes anything: it is a label: what it is worth is what the hold of that sum in a sandbox is worth. -/
noncomputable def Try.pinned : Pinned := { name := "ytjikiimdjemnbaa", sum := "0d012618be921f0fa081562fc33357cab3a205a11f4876bb7c38e16e488cafb5", checked := Try.checked }
namespace Rows
def none {H : Type} : Left H := { results := [], args := [] }

/-- 'laws.FnExactConstants': WHATEVER THE INPUT: true; the input reads as it did. -/
def fnExactConstantsSpec : ChangeSpec := { name := "fnExactConstants", fn := fun _ => fun
  | [] => { results := [.lit (.bool true)], args := [] }
  | _ => none }
def fnExactConstantsRow : OpenClaim := { program := "ytjikiimdjemnbaa", sum := "0d012618be921f0fa081562fc33357cab3a205a11f4876bb7c38e16e488cafb5", func := "loop.example/g01004/laws.FnExactConstants", spec := "fnExactConstants", apart := false }
def FnExactConstantsSaid : Prop := fnExactConstantsRow.holds Try.pinned (OpenSpec.ofChange fnExactConstantsSpec)

/-- ITS FALSE NEIGHBOUR: 'it returns false'. Refute it at one input. -/
def fnExactConstantsWrong : ChangeSpec := { name := "fnExactConstants", fn := fun _ => fun
  | [] => { results := [.lit (.bool false)], args := [] }
  | _ => none }
def FnExactConstantsWrongFalsely : Prop := fnExactConstantsRow.holds Try.pinned (OpenSpec.ofChange fnExactConstantsWrong)

/-- 'laws.FnExactIsCurve': WHATEVER THE INPUT: true; the input reads as it did. -/
def fnExactIsCurveSpec : ChangeSpec := { name := "fnExactIsCurve", fn := fun _ => fun
  | [d] => { results := [.lit (.bool true)], args := [d] }
  | _ => none }
def fnExactIsCurveRow : OpenClaim := { program := "ytjikiimdjemnbaa", sum := "0d012618be921f0fa081562fc33357cab3a205a11f4876bb7c38e16e488cafb5", func := "loop.example/g01004/laws.FnExactIsCurve", spec := "fnExactIsCurve", apart := false }
def FnExactIsCurveSaid : Prop := fnExactIsCurveRow.holds Try.pinned (OpenSpec.ofChange fnExactIsCurveSpec)

/-- ITS FALSE NEIGHBOUR: 'it returns false'. Refute it at one input. -/
def fnExactIsCurveWrong : ChangeSpec := { name := "fnExactIsCurve", fn := fun _ => fun
  | [d] => { results := [.lit (.bool false)], args := [d] }
  | _ => none }
def FnExactIsCurveWrongFalsely : Prop := fnExactIsCurveRow.holds Try.pinned (OpenSpec.ofChange fnExactIsCurveWrong)

/-- 'laws.FnExactIsPrimeNumber': WHATEVER THE INPUT: true; the input reads as it did. -/
def fnExactIsPrimeNumberSpec : ChangeSpec := { name := "fnExactIsPrimeNumber", fn := fun _ => fun
  | [d] => { results := [.lit (.bool true)], args := [d] }
  | _ => none }
def fnExactIsPrimeNumberRow : OpenClaim := { program := "ytjikiimdjemnbaa", sum := "0d012618be921f0fa081562fc33357cab3a205a11f4876bb7c38e16e488cafb5", func := "loop.example/g01004/laws.FnExactIsPrimeNumber", spec := "fnExactIsPrimeNumber", apart := false }
def FnExactIsPrimeNumberSaid : Prop := fnExactIsPrimeNumberRow.holds Try.pinned (OpenSpec.ofChange fnExactIsPrimeNumberSpec)

/-- ITS FALSE NEIGHBOUR: 'it returns false'. Refute it at one input. -/
def fnExactIsPrimeNumberWrong : ChangeSpec := { name := "fnExactIsPrimeNumber", fn := fun _ => fun
  | [d] => { results := [.lit (.bool false)], args := [d] }
  | _ => none }
def FnExactIsPrimeNumberWrongFalsely : Prop := fnExactIsPrimeNumberRow.holds Try.pinned (OpenSpec.ofChange fnExactIsPrimeNumberWrong)

/-- 'laws.FnExactIsCubic': WHATEVER THE INPUT: true; the input reads as it did. -/
def fnExactIsCubicSpec : ChangeSpec := { name := "fnExactIsCubic", fn := fun _ => fun
  | [d] => { results := [.lit (.bool true)], args := [d] }
  | _ => none }
def fnExactIsCubicRow : OpenClaim := { program := "ytjikiimdjemnbaa", sum := "0d012618be921f0fa081562fc33357cab3a205a11f4876bb7c38e16e488cafb5", func := "loop.example/g01004/laws.FnExactIsCubic", spec := "fnExactIsCubic", apart := false }
def FnExactIsCubicSaid : Prop := fnExactIsCubicRow.holds Try.pinned (OpenSpec.ofChange fnExactIsCubicSpec)

/-- ITS FALSE NEIGHBOUR: 'it returns false'. Refute it at one input. -/
def fnExactIsCubicWrong : ChangeSpec := { name := "fnExactIsCubic", fn := fun _ => fun
  | [d] => { results := [.lit (.bool false)], args := [d] }
  | _ => none }
def FnExactIsCubicWrongFalsely : Prop := fnExactIsCubicRow.holds Try.pinned (OpenSpec.ofChange fnExactIsCubicWrong)

/-- 'laws.FnExactDiscriminantOf': WHATEVER THE INPUT: true; the input reads as it did. -/
def fnExactDiscriminantOfSpec : ChangeSpec := { name := "fnExactDiscriminantOf", fn := fun _ => fun
  | [d] => { results := [.lit (.bool true)], args := [d] }
  | _ => none }
def fnExactDiscriminantOfRow : OpenClaim := { program := "ytjikiimdjemnbaa", sum := "0d012618be921f0fa081562fc33357cab3a205a11f4876bb7c38e16e488cafb5", func := "loop.example/g01004/laws.FnExactDiscriminantOf", spec := "fnExactDiscriminantOf", apart := false }
def FnExactDiscriminantOfSaid : Prop := fnExactDiscriminantOfRow.holds Try.pinned (OpenSpec.ofChange fnExactDiscriminantOfSpec)

/-- ITS FALSE NEIGHBOUR: 'it returns false'. Refute it at one input. -/
def fnExactDiscriminantOfWrong : ChangeSpec := { name := "fnExactDiscriminantOf", fn := fun _ => fun
  | [d] => { results := [.lit (.bool false)], args := [d] }
  | _ => none }
def FnExactDiscriminantOfWrongFalsely : Prop := fnExactDiscriminantOfRow.holds Try.pinned (OpenSpec.ofChange fnExactDiscriminantOfWrong)

/-- 'laws.FnExactIsIntegerPoint': WHATEVER THE INPUT: true; the input reads as it did. -/
def fnExactIsIntegerPointSpec : ChangeSpec := { name := "fnExactIsIntegerPoint", fn := fun _ => fun
  | [d1, d2, d3] => { results := [.lit (.bool true)], args := [d1, d2, d3] }
  | _ => none }
def fnExactIsIntegerPointRow : OpenClaim := { program := "ytjikiimdjemnbaa", sum := "0d012618be921f0fa081562fc33357cab3a205a11f4876bb7c38e16e488cafb5", func := "loop.example/g01004/laws.FnExactIsIntegerPoint", spec := "fnExactIsIntegerPoint", apart := false }
def FnExactIsIntegerPointSaid : Prop := fnExactIsIntegerPointRow.holds Try.pinned (OpenSpec.ofChange fnExactIsIntegerPointSpec)

/-- ITS FALSE NEIGHBOUR: 'it returns false'. Refute it at one input. -/
def fnExactIsIntegerPointWrong : ChangeSpec := { name := "fnExactIsIntegerPoint", fn := fun _ => fun
  | [d1, d2, d3] => { results := [.lit (.bool false)], args := [d1, d2, d3] }
  | _ => none }
def FnExactIsIntegerPointWrongFalsely : Prop := fnExactIsIntegerPointRow.holds Try.pinned (OpenSpec.ofChange fnExactIsIntegerPointWrong)

/-- 'laws.FnExactRealParts': WHATEVER THE INPUT: true; the input reads as it did. -/
def fnExactRealPartsSpec : ChangeSpec := { name := "fnExactRealParts", fn := fun _ => fun
  | [d] => { results := [.lit (.bool true)], args := [d] }
  | _ => none }
def fnExactRealPartsRow : OpenClaim := { program := "ytjikiimdjemnbaa", sum := "0d012618be921f0fa081562fc33357cab3a205a11f4876bb7c38e16e488cafb5", func := "loop.example/g01004/laws.FnExactRealParts", spec := "fnExactRealParts", apart := false }
def FnExactRealPartsSaid : Prop := fnExactRealPartsRow.holds Try.pinned (OpenSpec.ofChange fnExactRealPartsSpec)

/-- ITS FALSE NEIGHBOUR: 'it returns false'. Refute it at one input. -/
def fnExactRealPartsWrong : ChangeSpec := { name := "fnExactRealParts", fn := fun _ => fun
  | [d] => { results := [.lit (.bool false)], args := [d] }
  | _ => none }
def FnExactRealPartsWrongFalsely : Prop := fnExactRealPartsRow.holds Try.pinned (OpenSpec.ofChange fnExactRealPartsWrong)

/-- 'laws.FnExactResidueOf': WHATEVER THE INPUT: true; the input reads as it did. -/
def fnExactResidueOfSpec : ChangeSpec := { name := "fnExactResidueOf", fn := fun _ => fun
  | [d1, d2] => { results := [.lit (.bool true)], args := [d1, d2] }
  | _ => none }
def fnExactResidueOfRow : OpenClaim := { program := "ytjikiimdjemnbaa", sum := "0d012618be921f0fa081562fc33357cab3a205a11f4876bb7c38e16e488cafb5", func := "loop.example/g01004/laws.FnExactResidueOf", spec := "fnExactResidueOf", apart := false }
def FnExactResidueOfSaid : Prop := fnExactResidueOfRow.holds Try.pinned (OpenSpec.ofChange fnExactResidueOfSpec)

/-- ITS FALSE NEIGHBOUR: 'it returns false'. Refute it at one input. -/
def fnExactResidueOfWrong : ChangeSpec := { name := "fnExactResidueOf", fn := fun _ => fun
  | [d1, d2] => { results := [.lit (.bool false)], args := [d1, d2] }
  | _ => none }
def FnExactResidueOfWrongFalsely : Prop := fnExactResidueOfRow.holds Try.pinned (OpenSpec.ofChange fnExactResidueOfWrong)

/-- 'laws.FnExactIsFraction': WHATEVER THE INPUT: true; the input reads as it did. -/
def fnExactIsFractionSpec : ChangeSpec := { name := "fnExactIsFraction", fn := fun _ => fun
  | [d] => { results := [.lit (.bool true)], args := [d] }
  | _ => none }
def fnExactIsFractionRow : OpenClaim := { program := "ytjikiimdjemnbaa", sum := "0d012618be921f0fa081562fc33357cab3a205a11f4876bb7c38e16e488cafb5", func := "loop.example/g01004/laws.FnExactIsFraction", spec := "fnExactIsFraction", apart := false }
def FnExactIsFractionSaid : Prop := fnExactIsFractionRow.holds Try.pinned (OpenSpec.ofChange fnExactIsFractionSpec)

/-- ITS FALSE NEIGHBOUR: 'it returns false'. Refute it at one input. -/
def fnExactIsFractionWrong : ChangeSpec := { name := "fnExactIsFraction", fn := fun _ => fun
  | [d] => { results := [.lit (.bool false)], args := [d] }
  | _ => none }
def FnExactIsFractionWrongFalsely : Prop := fnExactIsFractionRow.holds Try.pinned (OpenSpec.ofChange fnExactIsFractionWrong)

/-- 'laws.FnExactCubicAt': WHATEVER THE INPUT: true; the input reads as it did. -/
def fnExactCubicAtSpec : ChangeSpec := { name := "fnExactCubicAt", fn := fun _ => fun
  | [d1, d2] => { results := [.lit (.bool true)], args := [d1, d2] }
  | _ => none }
def fnExactCubicAtRow : OpenClaim := { program := "ytjikiimdjemnbaa", sum := "0d012618be921f0fa081562fc33357cab3a205a11f4876bb7c38e16e488cafb5", func := "loop.example/g01004/laws.FnExactCubicAt", spec := "fnExactCubicAt", apart := false }
def FnExactCubicAtSaid : Prop := fnExactCubicAtRow.holds Try.pinned (OpenSpec.ofChange fnExactCubicAtSpec)

/-- ITS FALSE NEIGHBOUR: 'it returns false'. Refute it at one input. -/
def fnExactCubicAtWrong : ChangeSpec := { name := "fnExactCubicAt", fn := fun _ => fun
  | [d1, d2] => { results := [.lit (.bool false)], args := [d1, d2] }
  | _ => none }
def FnExactCubicAtWrongFalsely : Prop := fnExactCubicAtRow.holds Try.pinned (OpenSpec.ofChange fnExactCubicAtWrong)

/-- 'laws.FnExactCubicDiscriminant': WHATEVER THE INPUT: true; the input reads as it did. -/
def fnExactCubicDiscriminantSpec : ChangeSpec := { name := "fnExactCubicDiscriminant", fn := fun _ => fun
  | [d] => { results := [.lit (.bool true)], args := [d] }
  | _ => none }
def fnExactCubicDiscriminantRow : OpenClaim := { program := "ytjikiimdjemnbaa", sum := "0d012618be921f0fa081562fc33357cab3a205a11f4876bb7c38e16e488cafb5", func := "loop.example/g01004/laws.FnExactCubicDiscriminant", spec := "fnExactCubicDiscriminant", apart := false }
def FnExactCubicDiscriminantSaid : Prop := fnExactCubicDiscriminantRow.holds Try.pinned (OpenSpec.ofChange fnExactCubicDiscriminantSpec)

/-- ITS FALSE NEIGHBOUR: 'it returns false'. Refute it at one input. -/
def fnExactCubicDiscriminantWrong : ChangeSpec := { name := "fnExactCubicDiscriminant", fn := fun _ => fun
  | [d] => { results := [.lit (.bool false)], args := [d] }
  | _ => none }
def FnExactCubicDiscriminantWrongFalsely : Prop := fnExactCubicDiscriminantRow.holds Try.pinned (OpenSpec.ofChange fnExactCubicDiscriminantWrong)

/-- 'laws.FnExactFractionHeight': WHATEVER THE INPUT: true; the input reads as it did. -/
def fnExactFractionHeightSpec : ChangeSpec := { name := "fnExactFractionHeight", fn := fun _ => fun
  | [d] => { results := [.lit (.bool true)], args := [d] }
  | _ => none }
def fnExactFractionHeightRow : OpenClaim := { program := "ytjikiimdjemnbaa", sum := "0d012618be921f0fa081562fc33357cab3a205a11f4876bb7c38e16e488cafb5", func := "loop.example/g01004/laws.FnExactFractionHeight", spec := "fnExactFractionHeight", apart := false }
def FnExactFractionHeightSaid : Prop := fnExactFractionHeightRow.holds Try.pinned (OpenSpec.ofChange fnExactFractionHeightSpec)

/-- ITS FALSE NEIGHBOUR: 'it returns false'. Refute it at one input. -/
def fnExactFractionHeightWrong : ChangeSpec := { name := "fnExactFractionHeight", fn := fun _ => fun
  | [d] => { results := [.lit (.bool false)], args := [d] }
  | _ => none }
def FnExactFractionHeightWrongFalsely : Prop := fnExactFractionHeightRow.holds Try.pinned (OpenSpec.ofChange fnExactFractionHeightWrong)

/- THE SECOND FORM. 'bulk': how many values and letters a reading holds, each counted each time it is reached (what is shared counts as often as it is met; a slice's spare places count too). A statement '..UptoSaid' is the law's where the arguments, and the package variables that the reading takes, are together of bulk at most 1048576: NARROWER than '..Said'. Prove '..Said' where nothing that the law and all that it calls make is longer than what came in: it says more and counts as full. Else prove '..UptoSaid'. A law counts once. -/
mutual
def uptoBulk {H : Type} : DataW H → Nat
  | .lit (.string bytes) => bytes.length + 1
  | .lit _ => 1
  | .nil => 1
  | .ptr d => uptoBulk d + 1
  | .slice elems spare => uptoBulkAll elems + uptoBulkAll spare + 1
  | .agg parts => uptoBulkAll parts + 1
  | .iface _ d => uptoBulk d + 1
  | .map entries => uptoBulkEntries entries + 1
  | .held _ => 1
def uptoBulkAll {H : Type} : List (DataW H) → Nat
  | [] => 0
  | d :: r => uptoBulk d + uptoBulkAll r
def uptoBulkEntries {H : Type} : List (Lit × DataW H) → Nat
  | [] => 0
  | x :: r => uptoBulkEntry x + uptoBulkEntries r
def uptoBulkEntry {H : Type} : Lit × DataW H → Nat
  | (.string bytes, d) => bytes.length + uptoBulk d + 1
  | (_, d) => uptoBulk d + 1
 end
def uptoSmall : (H : Type) → List (DataW H) → Bool := fun _ ds => decide (uptoBulkAll ds ≤ 1048576)
def OpenSpec.upto (s : _root_.Go.ChangeSpec) : _root_.Go.OpenSpec := { _root_.Go.OpenSpec.ofChange s with cond := some uptoSmall }

/-- 'laws.FnExactConstants', WHERE WHAT IT READS IS OF BULK AT MOST 1048576: true; the input reads as it did. -/
def fnExactConstantsUptoRow : OpenClaim := { program := "ytjikiimdjemnbaa", sum := "0d012618be921f0fa081562fc33357cab3a205a11f4876bb7c38e16e488cafb5", func := "loop.example/g01004/laws.FnExactConstants", spec := "fnExactConstants", apart := false, narrowed := true }
def FnExactConstantsUptoSaid : Prop := fnExactConstantsUptoRow.holds Try.pinned (OpenSpec.upto fnExactConstantsSpec)

/-- 'laws.FnExactIsCurve', WHERE WHAT IT READS IS OF BULK AT MOST 1048576: true; the input reads as it did. -/
def fnExactIsCurveUptoRow : OpenClaim := { program := "ytjikiimdjemnbaa", sum := "0d012618be921f0fa081562fc33357cab3a205a11f4876bb7c38e16e488cafb5", func := "loop.example/g01004/laws.FnExactIsCurve", spec := "fnExactIsCurve", apart := false, narrowed := true }
def FnExactIsCurveUptoSaid : Prop := fnExactIsCurveUptoRow.holds Try.pinned (OpenSpec.upto fnExactIsCurveSpec)

/-- 'laws.FnExactIsPrimeNumber', WHERE WHAT IT READS IS OF BULK AT MOST 1048576: true; the input reads as it did. -/
def fnExactIsPrimeNumberUptoRow : OpenClaim := { program := "ytjikiimdjemnbaa", sum := "0d012618be921f0fa081562fc33357cab3a205a11f4876bb7c38e16e488cafb5", func := "loop.example/g01004/laws.FnExactIsPrimeNumber", spec := "fnExactIsPrimeNumber", apart := false, narrowed := true }
def FnExactIsPrimeNumberUptoSaid : Prop := fnExactIsPrimeNumberUptoRow.holds Try.pinned (OpenSpec.upto fnExactIsPrimeNumberSpec)

/-- 'laws.FnExactIsCubic', WHERE WHAT IT READS IS OF BULK AT MOST 1048576: true; the input reads as it did. -/
def fnExactIsCubicUptoRow : OpenClaim := { program := "ytjikiimdjemnbaa", sum := "0d012618be921f0fa081562fc33357cab3a205a11f4876bb7c38e16e488cafb5", func := "loop.example/g01004/laws.FnExactIsCubic", spec := "fnExactIsCubic", apart := false, narrowed := true }
def FnExactIsCubicUptoSaid : Prop := fnExactIsCubicUptoRow.holds Try.pinned (OpenSpec.upto fnExactIsCubicSpec)

/-- 'laws.FnExactDiscriminantOf', WHERE WHAT IT READS IS OF BULK AT MOST 1048576: true; the input reads as it did. -/
def fnExactDiscriminantOfUptoRow : OpenClaim := { program := "ytjikiimdjemnbaa", sum := "0d012618be921f0fa081562fc33357cab3a205a11f4876bb7c38e16e488cafb5", func := "loop.example/g01004/laws.FnExactDiscriminantOf", spec := "fnExactDiscriminantOf", apart := false, narrowed := true }
def FnExactDiscriminantOfUptoSaid : Prop := fnExactDiscriminantOfUptoRow.holds Try.pinned (OpenSpec.upto fnExactDiscriminantOfSpec)

/-- 'laws.FnExactIsIntegerPoint', WHERE WHAT IT READS IS OF BULK AT MOST 1048576: true; the input reads as it did. -/
def fnExactIsIntegerPointUptoRow : OpenClaim := { program := "ytjikiimdjemnbaa", sum := "0d012618be921f0fa081562fc33357cab3a205a11f4876bb7c38e16e488cafb5", func := "loop.example/g01004/laws.FnExactIsIntegerPoint", spec := "fnExactIsIntegerPoint", apart := false, narrowed := true }
def FnExactIsIntegerPointUptoSaid : Prop := fnExactIsIntegerPointUptoRow.holds Try.pinned (OpenSpec.upto fnExactIsIntegerPointSpec)

/-- 'laws.FnExactRealParts', WHERE WHAT IT READS IS OF BULK AT MOST 1048576: true; the input reads as it did. -/
def fnExactRealPartsUptoRow : OpenClaim := { program := "ytjikiimdjemnbaa", sum := "0d012618be921f0fa081562fc33357cab3a205a11f4876bb7c38e16e488cafb5", func := "loop.example/g01004/laws.FnExactRealParts", spec := "fnExactRealParts", apart := false, narrowed := true }
def FnExactRealPartsUptoSaid : Prop := fnExactRealPartsUptoRow.holds Try.pinned (OpenSpec.upto fnExactRealPartsSpec)

/-- 'laws.FnExactResidueOf', WHERE WHAT IT READS IS OF BULK AT MOST 1048576: true; the input reads as it did. -/
def fnExactResidueOfUptoRow : OpenClaim := { program := "ytjikiimdjemnbaa", sum := "0d012618be921f0fa081562fc33357cab3a205a11f4876bb7c38e16e488cafb5", func := "loop.example/g01004/laws.FnExactResidueOf", spec := "fnExactResidueOf", apart := false, narrowed := true }
def FnExactResidueOfUptoSaid : Prop := fnExactResidueOfUptoRow.holds Try.pinned (OpenSpec.upto fnExactResidueOfSpec)

/-- 'laws.FnExactIsFraction', WHERE WHAT IT READS IS OF BULK AT MOST 1048576: true; the input reads as it did. -/
def fnExactIsFractionUptoRow : OpenClaim := { program := "ytjikiimdjemnbaa", sum := "0d012618be921f0fa081562fc33357cab3a205a11f4876bb7c38e16e488cafb5", func := "loop.example/g01004/laws.FnExactIsFraction", spec := "fnExactIsFraction", apart := false, narrowed := true }
def FnExactIsFractionUptoSaid : Prop := fnExactIsFractionUptoRow.holds Try.pinned (OpenSpec.upto fnExactIsFractionSpec)

/-- 'laws.FnExactCubicAt', WHERE WHAT IT READS IS OF BULK AT MOST 1048576: true; the input reads as it did. -/
def fnExactCubicAtUptoRow : OpenClaim := { program := "ytjikiimdjemnbaa", sum := "0d012618be921f0fa081562fc33357cab3a205a11f4876bb7c38e16e488cafb5", func := "loop.example/g01004/laws.FnExactCubicAt", spec := "fnExactCubicAt", apart := false, narrowed := true }
def FnExactCubicAtUptoSaid : Prop := fnExactCubicAtUptoRow.holds Try.pinned (OpenSpec.upto fnExactCubicAtSpec)

/-- 'laws.FnExactCubicDiscriminant', WHERE WHAT IT READS IS OF BULK AT MOST 1048576: true; the input reads as it did. -/
def fnExactCubicDiscriminantUptoRow : OpenClaim := { program := "ytjikiimdjemnbaa", sum := "0d012618be921f0fa081562fc33357cab3a205a11f4876bb7c38e16e488cafb5", func := "loop.example/g01004/laws.FnExactCubicDiscriminant", spec := "fnExactCubicDiscriminant", apart := false, narrowed := true }
def FnExactCubicDiscriminantUptoSaid : Prop := fnExactCubicDiscriminantUptoRow.holds Try.pinned (OpenSpec.upto fnExactCubicDiscriminantSpec)

/-- 'laws.FnExactFractionHeight', WHERE WHAT IT READS IS OF BULK AT MOST 1048576: true; the input reads as it did. -/
def fnExactFractionHeightUptoRow : OpenClaim := { program := "ytjikiimdjemnbaa", sum := "0d012618be921f0fa081562fc33357cab3a205a11f4876bb7c38e16e488cafb5", func := "loop.example/g01004/laws.FnExactFractionHeight", spec := "fnExactFractionHeight", apart := false, narrowed := true }
def FnExactFractionHeightUptoSaid : Prop := fnExactFractionHeightUptoRow.holds Try.pinned (OpenSpec.upto fnExactFractionHeightSpec)

end Rows
end Go.Proofs.Ytjikiimdjemnbaa
