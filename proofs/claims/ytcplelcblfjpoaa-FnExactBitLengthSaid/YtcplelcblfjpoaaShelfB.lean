/- The shelf's contract of bits.Len at this dump (laid by the kit's lay-shelf.mjs and lay-plain.mjs), over Nat. -/
import Derived.Shelf.Small.Bits
import Derived.Test.YtcplelcblfjpoaaBits
import Derived.Test.YtcplelcblfjpoaaFrame
namespace Go.Proofs.Ytcplelcblfjpoaa
open Go.Shelf
set_option linter.unusedVariables false
def lays125_ren : Go.Shelf.Ren := ⟨fun | 125 => 43 | 128 => 52 | 129 => 53 | n => n, fun | 46 => 62 | 3 => 3 | 51 => 66 | 53 => 68 | 4 => 4 | 5 => 5 | 9 => 9 | n => n, fun | n => n⟩
theorem lays125 : Go.Proofs.Lays.n125 Try.prog lays125_ren := {
  mixed := by kernel_rfl
  f125 := Try.func43.trans (congrArg some (by kernel_rfl))
  f128 := Try.func52.trans (congrArg some (by kernel_rfl))
  f129 := Try.func53.trans (congrArg some (by kernel_rfl))
  t3 := Try.underlying3
  a3 := Try.isAgg3
  z3 := Try.sizeOf3
  v3 := Try.zeroValue3
  t4 := Try.underlying4
  a4 := Try.isAgg4
  z4 := Try.sizeOf4
  v4 := Try.zeroValue4
  t5 := Try.underlying5
  a5 := Try.isAgg5
  z5 := Try.sizeOf5
  v5 := Try.zeroValue5
  t9 := Try.underlying9
  a9 := Try.isAgg9
  z9 := Try.sizeOf9
  v9 := Try.zeroValue9
  t46 := Try.underlying62
  a46 := Try.isAgg62
  z46 := Try.sizeOf62
  v46 := Try.zeroValue62
  t51 := Try.underlying66
  a51 := Try.isAgg66
  z51 := Try.sizeOf66
  v51 := Try.zeroValue66
  t53 := Try.underlying68
  a53 := Try.isAgg68
  z53 := Try.sizeOf68
  v53 := Try.zeroValue68 }
theorem bitsLen_any (n : Nat) (h : n < 9223372036854775808) (w : World) :
    Calls Try.prog 43 #[.int .u64 (n : Int)] w fun e w' => e = .returned (.int .i64 (bl n : Int)) ∧ w = w' := by
  have h1 := Any.bits_Len lays125 (n : Int) w (by omega) (by omega)
  refine h1.mono ?_
  rintro e w' ⟨rfl, rfl⟩
  rw [Int.toNat_natCast, bitLen_bl n (by omega)]
  exact ⟨rfl, rfl⟩
end Go.Proofs.Ytcplelcblfjpoaa
