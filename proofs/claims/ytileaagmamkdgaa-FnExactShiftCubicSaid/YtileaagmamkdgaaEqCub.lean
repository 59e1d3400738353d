/- The contract of laws.eqCubic at one and the same cubic. -/
import Derived.Test.YtileaagmamkdgaaCubic
namespace Go.Proofs.Ytileaagmamkdgaa
open Go.RowKit
set_option linter.unusedVariables false
theorem ret_four_bool {a b c d x y z u : Int} {p q : Bool} (h1 : a = x) (h2 : b = y) (h3 : c = z) (h4 : d = u) (h5 : p = q) :
    Ending.returned (.tuple #[.agg #[.int .i64 a, .int .i64 b, .int .i64 c, .int .i64 d], .bool p]) = .returned (.tuple #[.agg #[.int .i64 x, .int .i64 y, .int .i64 z, .int .i64 u], .bool q]) := by rw [h1, h2, h3, h4, h5]
theorem eqCubic_same (a b c d : Int) (w : World) :
    Calls Try.prog 20 #[.agg #[.int .i64 a, .int .i64 b, .int .i64 c, .int .i64 d], .agg #[.int .i64 a, .int .i64 b, .int .i64 c, .int .i64 d]] w fun e w' => e = .returned (.bool true) ∧ Below w.heap.size w w' := by
  go_enter Try.func20, Try.ntmps20
  go_wp2
  go_ret
  exact ⟨rfl, by repeat' (first | (with_reducible exact Below.refl _ _) | (with_reducible assumption) | (with_reducible refine Below.alloc ?_ ?_ _) | (with_reducible refine Below.drew ?_) | (with_reducible refine below_drewN ?_ _) | (with_reducible refine Below.setCell ?_ ?_ _) | go_size)⟩
end Go.Proofs.Ytileaagmamkdgaa
