/- The shelf's contracts of strings_CutPrefix at this dump (laid by the kit's lay-shelf.mjs and lay-plain.mjs). -/
import Derived.Shelf.Small.Wraps
import Derived.Test.YtklhmaegpejdbaaDoorShelfT
namespace Go.Proofs.YtklhmaegpejdbaaDoor
open Go.Shelf
set_option linter.unusedVariables false
set_option maxRecDepth 100000
def lays103_ren : Go.Shelf.Ren := ⟨fun | 103 => 47 | 210 => 89 | 206 => 107 | n => n, fun | 9 => 9 | 4 => 4 | 24 => 32 | 3 => 3 | n => n, fun | n => n⟩
theorem lays103 : Go.Proofs.Lays.n103 Tryd.prog lays103_ren := {
  mixed := by kernel_rfl
  f103 := Tryd.func47.trans (congrArg some (by kernel_rfl))
  f206 := Tryd.func107.trans (congrArg some (by kernel_rfl))
  f210 := Tryd.func89.trans (congrArg some (by kernel_rfl))
  t3 := Tryd.underlying3
  a3 := Tryd.isAgg3
  z3 := Tryd.sizeOf3
  v3 := Tryd.zeroValue3
  t4 := Tryd.underlying4
  a4 := Tryd.isAgg4
  z4 := Tryd.sizeOf4
  v4 := Tryd.zeroValue4
  t9 := Tryd.underlying9
  a9 := Tryd.isAgg9
  z9 := Tryd.sizeOf9
  v9 := Tryd.zeroValue9
  t24 := Tryd.underlying32
  a24 := Tryd.isAgg32
  z24 := Tryd.sizeOf32
  v24 := Tryd.zeroValue32 }
open Go.RowKit in
theorem strings_CutPrefix (s p : ByteArray) (w : World) :
    Calls Tryd.prog 47 #[.string s, .string p] w fun e w' => e = .returned (.tuple #[.string ⟨(Lib.trimPrefix s.data.toList p.data.toList).toArray⟩, .bool (Lib.hasPrefix s.data.toList p.data.toList)]) ∧ w' = w := Any.strings_CutPrefix lays103 s p w
end Go.Proofs.YtklhmaegpejdbaaDoor
