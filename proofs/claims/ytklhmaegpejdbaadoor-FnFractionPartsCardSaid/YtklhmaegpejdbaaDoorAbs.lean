/- Contracts of spec.l1Most, spec.l1Abs: for numbers of at most 4000000000000000000. -/
import Derived.Test.YtklhmaegpejdbaaDoorFrame
namespace Go.Proofs.YtklhmaegpejdbaaDoor
open Go.RowKit
set_option linter.unusedVariables false
def absI (a : Int) : Int := (a.natAbs : Nat)
theorem absI_nonneg (x : Int) : 0 ≤ absI x := by unfold absI; omega
theorem absI_of (x : Int) (h : 0 ≤ x) : absI x = x := by unfold absI; omega
theorem absI_neg (x : Int) (h : x ≤ 0) : absI x = -x := by unfold absI; omega
theorem l1Most_any (a b : Int) (w : World) :
    Calls Tryd.prog 44 #[.int .i64 a, .int .i64 b] w fun e w' => e = .returned (.int .i64 (max a b)) ∧ w = w' := by
  by_cases h : b < a
  · go_enter Tryd.func44, Tryd.ntmps44
    go_wp2
    go_ret
    exact ⟨ret_int (by omega), rfl⟩
  · go_enter Tryd.func44, Tryd.ntmps44
    go_wp2
    go_ret
    exact ⟨ret_int (by omega), rfl⟩
theorem l1Abs_any (a : Int) (h0 : -4000000000000000000 ≤ a) (h1 : a ≤ 4000000000000000000) (w : World) :
    Calls Tryd.prog 71 #[.int .i64 a] w fun e w' => e = .returned (.int .i64 (absI a)) ∧ w = w' := by
  go_enter Tryd.func71, Tryd.ntmps71
  go_wp2_with (go_at_call 44; refine (l1Most_any _ _ _).mono ?_; rintro e w' ⟨rfl, rfl⟩)
  go_ret
  exact ⟨ret_int (by unfold absI; omega), rfl⟩
end Go.Proofs.YtklhmaegpejdbaaDoor
