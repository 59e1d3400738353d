/- Contracts of spec.cuDisc and impl's discriminant. No conditions. -/
import Derived.Test.YtcefphdobllakaaCubic
namespace Go.Proofs.Ytcefphdobllakaa
open Go.RowKit
set_option linter.unusedVariables false
/-- The discriminant, as int computes it. -/
def cdW (a b c d : Int) : Int :=
  wrap64 (wrap64 (wrap64 (wrap64 (wrap64 (wrap64 (wrap64 (b * b) * c) * c) - wrap64 (wrap64 (wrap64 (wrap64 (4 * a) * c) * c) * c)) - wrap64 (wrap64 (wrap64 (wrap64 (4 * b) * b) * b) * d)) - wrap64 (wrap64 (wrap64 (wrap64 (27 * a) * a) * d) * d)) +
    wrap64 (wrap64 (wrap64 (wrap64 (18 * a) * b) * c) * d))
set_option maxHeartbeats 1000000 in
theorem cuDisc_any (a b c d : Int) (w : World) :
    Calls Try.prog 79 #[.agg #[.int .i64 a, .int .i64 b, .int .i64 c, .int .i64 d]] w fun e w' => e = .returned (.int .i64 (cdW a b c d)) ∧ Below w.heap.size w w' := by
  go_enter Try.func79, Try.ntmps79
  go_wp2
  go_ret
  exact ⟨rfl, by repeat' (first | (with_reducible exact Below.refl _ _) | (with_reducible assumption) | (with_reducible refine Below.alloc ?_ ?_ _) | (with_reducible refine Below.drew ?_) | (with_reducible refine below_drewN ?_ _) | (with_reducible refine Below.setCell ?_ ?_ _) | go_size)⟩
set_option maxHeartbeats 1000000 in
theorem discriminant_any (a b c d : Int) (w : World) :
    Calls Try.prog 67 #[.agg #[.int .i64 a, .int .i64 b, .int .i64 c, .int .i64 d]] w fun e w' => e = .returned (.int .i64 (cdW a b c d)) ∧ Below w.heap.size w w' := by
  go_enter Try.func67, Try.ntmps67
  go_wp2
  first | go_ret | (go_quiet (fail); go_wp2; go_ret)
  exact ⟨rfl, by repeat' (first | (with_reducible exact Below.refl _ _) | (with_reducible assumption) | (with_reducible refine Below.alloc ?_ ?_ _) | (with_reducible refine Below.drew ?_) | (with_reducible refine below_drewN ?_ _) | (with_reducible refine Below.setCell ?_ ?_ _) | go_size)⟩
end Go.Proofs.Ytcefphdobllakaa
