/- A string argument, opened. -/
import Derived.Test.YtklhmaegpejdbaaDoorTxtI
import Derived.ChangeMaps5
namespace Go.Proofs.YtklhmaegpejdbaaDoor
open Go.ChangeShapes Go.WideShapes Go.ChangeAt Go.RowKit
set_option linter.unusedVariables false
set_option maxRecDepth 100000
theorem open_str {H : Type} {enc : TypeId × Value → H} {W : World} {base b0 : Nat} {spare : Nat → Bool} {held : Bool} {r : Reach} {v : Value} {d : DataW H} {p : List MemPlace}
    (hv : Value.okWide Tryd.prog W r b0 9 v) (h : DataW.Trod enc Tryd.prog W base spare held 9 v d p) : ∃ s : ByteArray, v = .string s ∧ s.size ≤ maxLen := by
  obtain ⟨s, h1, _, _, h2⟩ := Go.ChangeMaps.open_string stringU hv h
  exact ⟨s, h1, h2⟩
end Go.Proofs.YtklhmaegpejdbaaDoor
