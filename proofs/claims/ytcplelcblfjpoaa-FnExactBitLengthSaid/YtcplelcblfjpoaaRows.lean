/-
  No cell of these rows narrows 'for every input' (looked for: loops, veiled, ifaces, maps, wideKeys, modest, calm, conditions, laid).
  DERIVED. THE GIVEN ROWS OF THIS SEAT. 3 by the template 'for every input the law returns true; each argument reads behind the call as it read before'; 0 by the template 'total and deterministic' (their statements: YtcplelcblfjpoaaTotals.lean).
  GIVEN WITH THE SEED: the statements are not yours to turn. If you find one false, say at which input.
  Laid BY PROGRAM, IN A SANDBOX (cutbox-rows.mjs): the forced cells as the released guide's own fill.sh prints them over the translation 9bf389e97f3d88ee… (all of the seat's roots in one cut). By AI agents, Wed Nov 11 2026. No macro, syntax, notation, axiom, sorry.
-/
import Derived.Test.YtcplelcblfjpoaaChecked
import GoSem.Claim
import GoSem.ClaimJoined
import GoSem.ClaimMapViews
import Derived.JoinedTies
import Derived.KernelRfl
namespace Go.Proofs.Ytcplelcblfjpoaa
/- THE CELL 'sum', in the pinned program and in every row, IS THE sha256 OF THE DUMP (.gsa) THAT YtcplelcblfjpoaaProg.lean LOADS. Nothing in Lean hashes anything: it is a label: what it is worth is what the hold of that sum in a sandbox is worth. -/
noncomputable def Try.pinned : Pinned := { name := "ytcplelcblfjpoaa", sum := "9bf389e97f3d88ee5455f25215de5453149a8c109000666ca1ce4ccd23dede91", checked := Try.checked }
namespace Rows
def none {H : Type} : Left H := { results := [], args := [] }

/-- 'laws.FnExactDivisorWith': WHATEVER THE INPUT: true; the input reads as it did. -/
def fnExactDivisorWithSpec : ChangeSpec := { name := "fnExactDivisorWith", fn := fun _ => fun
  | [d1, d2] => { results := [.lit (.bool true)], args := [d1, d2] }
  | _ => none }
def fnExactDivisorWithRow : OpenClaim := { program := "ytcplelcblfjpoaa", sum := "9bf389e97f3d88ee5455f25215de5453149a8c109000666ca1ce4ccd23dede91", func := "loop.example/g01004/laws.FnExactDivisorWith", spec := "fnExactDivisorWith", apart := false }
def FnExactDivisorWithSaid : Prop := fnExactDivisorWithRow.holds Try.pinned (OpenSpec.ofChange fnExactDivisorWithSpec)

/-- ITS FALSE NEIGHBOUR: 'it returns false'. Refute it at one input. -/
def fnExactDivisorWithWrong : ChangeSpec := { name := "fnExactDivisorWith", fn := fun _ => fun
  | [d1, d2] => { results := [.lit (.bool false)], args := [d1, d2] }
  | _ => none }
def FnExactDivisorWithWrongFalsely : Prop := fnExactDivisorWithRow.holds Try.pinned (OpenSpec.ofChange fnExactDivisorWithWrong)

/-- 'laws.FnExactBitLength': WHATEVER THE INPUT: true; the input reads as it did. -/
def fnExactBitLengthSpec : ChangeSpec := { name := "fnExactBitLength", fn := fun _ => fun
  | [d] => { results := [.lit (.bool true)], args := [d] }
  | _ => none }
def fnExactBitLengthRow : OpenClaim := { program := "ytcplelcblfjpoaa", sum := "9bf389e97f3d88ee5455f25215de5453149a8c109000666ca1ce4ccd23dede91", func := "loop.example/g01004/laws.FnExactBitLength", spec := "fnExactBitLength", apart := false }
def FnExactBitLengthSaid : Prop := fnExactBitLengthRow.holds Try.pinned (OpenSpec.ofChange fnExactBitLengthSpec)

/-- ITS FALSE NEIGHBOUR: 'it returns false'. Refute it at one input. -/
def fnExactBitLengthWrong : ChangeSpec := { name := "fnExactBitLength", fn := fun _ => fun
  | [d] => { results := [.lit (.bool false)], args := [d] }
  | _ => none }
def FnExactBitLengthWrongFalsely : Prop := fnExactBitLengthRow.holds Try.pinned (OpenSpec.ofChange fnExactBitLengthWrong)

/-- 'laws.FnExactSquareRootOf': WHATEVER THE INPUT: true; the input reads as it did. -/
def fnExactSquareRootOfSpec : ChangeSpec := { name := "fnExactSquareRootOf", fn := fun _ => fun
  | [d] => { results := [.lit (.bool true)], args := [d] }
  | _ => none }
def fnExactSquareRootOfRow : OpenClaim := { program := "ytcplelcblfjpoaa", sum := "9bf389e97f3d88ee5455f25215de5453149a8c109000666ca1ce4ccd23dede91", func := "loop.example/g01004/laws.FnExactSquareRootOf", spec := "fnExactSquareRootOf", inPlace := ["math.sqrt"], apart := false }
def FnExactSquareRootOfSaid : Prop := fnExactSquareRootOfRow.holds Try.pinned (OpenSpec.ofChange fnExactSquareRootOfSpec)

/-- ITS FALSE NEIGHBOUR: 'it returns false'. Refute it at one input. -/
def fnExactSquareRootOfWrong : ChangeSpec := { name := "fnExactSquareRootOf", fn := fun _ => fun
  | [d] => { results := [.lit (.bool false)], args := [d] }
  | _ => none }
def FnExactSquareRootOfWrongFalsely : Prop := fnExactSquareRootOfRow.holds Try.pinned (OpenSpec.ofChange fnExactSquareRootOfWrong)

/- THE SECOND FORM. 'bulk': how many values and letters a reading holds, each counted each time it is reached (what is shared counts as often as it is met; a slice's spare places count too). A statement '..UptoSaid' is the law's where the arguments, and the package variables that the reading takes, are together of bulk at most 1048576: NARROWER than '..Said'. Prove '..Said' where nothing that the law and all that it calls make is longer than what came in: it says more and counts as full. Else prove '..UptoSaid'. A law counts once. -/
mutual
def uptoBulk {H : Type} : DataW H → Nat
  | .lit (.string bytes) => bytes.length + 1
  | .lit _ => 1
  | .nil => 1
  | .ptr d => uptoBulk d + 1
  | .slice elems spare => uptoBulkAll elems + uptoBulkAll spare + 1
  | .agg parts => uptoBulkAll parts + 1
  | .iface _ d => uptoBulk d + 1
  | .map entries => uptoBulkEntries entries + 1
  | .held _ => 1
def uptoBulkAll {H : Type} : List (DataW H) → Nat
  | [] => 0
  | d :: r => uptoBulk d + uptoBulkAll r
def uptoBulkEntries {H : Type} : List (Lit × DataW H) → Nat
  | [] => 0
  | x :: r => uptoBulkEntry x + uptoBulkEntries r
def uptoBulkEntry {H : Type} : Lit × DataW H → Nat
  | (.string bytes, d) => bytes.length + uptoBulk d + 1
  | (_, d) => uptoBulk d + 1
 end
def uptoSmall : (H : Type) → List (DataW H) → Bool := fun _ ds => decide (uptoBulkAll ds ≤ 1048576)
def OpenSpec.upto (s : _root_.Go.ChangeSpec) : _root_.Go.OpenSpec := { _root_.Go.OpenSpec.ofChange s with cond := some uptoSmall }

/-- 'laws.FnExactDivisorWith', WHERE WHAT IT READS IS OF BULK AT MOST 1048576: true; the input reads as it did. -/
def fnExactDivisorWithUptoRow : OpenClaim := { program := "ytcplelcblfjpoaa", sum := "9bf389e97f3d88ee5455f25215de5453149a8c109000666ca1ce4ccd23dede91", func := "loop.example/g01004/laws.FnExactDivisorWith", spec := "fnExactDivisorWith", apart := false, narrowed := true }
def FnExactDivisorWithUptoSaid : Prop := fnExactDivisorWithUptoRow.holds Try.pinned (OpenSpec.upto fnExactDivisorWithSpec)

/-- 'laws.FnExactBitLength', WHERE WHAT IT READS IS OF BULK AT MOST 1048576: true; the input reads as it did. -/
def fnExactBitLengthUptoRow : OpenClaim := { program := "ytcplelcblfjpoaa", sum := "9bf389e97f3d88ee5455f25215de5453149a8c109000666ca1ce4ccd23dede91", func := "loop.example/g01004/laws.FnExactBitLength", spec := "fnExactBitLength", apart := false, narrowed := true }
def FnExactBitLengthUptoSaid : Prop := fnExactBitLengthUptoRow.holds Try.pinned (OpenSpec.upto fnExactBitLengthSpec)

/-- 'laws.FnExactSquareRootOf', WHERE WHAT IT READS IS OF BULK AT MOST 1048576: true; the input reads as it did. -/
def fnExactSquareRootOfUptoRow : OpenClaim := { program := "ytcplelcblfjpoaa", sum := "9bf389e97f3d88ee5455f25215de5453149a8c109000666ca1ce4ccd23dede91", func := "loop.example/g01004/laws.FnExactSquareRootOf", spec := "fnExactSquareRootOf", inPlace := ["math.sqrt"], apart := false, narrowed := true }
def FnExactSquareRootOfUptoSaid : Prop := fnExactSquareRootOfUptoRow.holds Try.pinned (OpenSpec.upto fnExactSquareRootOfSpec)

end Rows
end Go.Proofs.Ytcplelcblfjpoaa
