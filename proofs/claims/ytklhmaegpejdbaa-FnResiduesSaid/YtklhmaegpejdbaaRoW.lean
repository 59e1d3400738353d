/- impl.ResidueOf and spec.ResidueOf; the walk of FnExactResidueOf. -/
import Derived.Test.YtklhmaegpejdbaaRes
namespace Go.Proofs.Ytklhmaegpejdbaa
open Go.RowKit
set_option linter.unusedVariables false
def residueR (a p : Int) : Int := if fitsB a p = true then a % p else 0
theorem implResidueOf_any (a p : Int) (w : World) :
    Calls Try.prog 18 #[.int .i64 a, .int .i64 p] w fun e w' => e = .returned (.tuple #[.int .i64 (residueR a p), .bool (fitsB a p)]) ∧ w = w' := by
  rcases Bool.eq_false_or_eq_true (fitsB a p) with hc | hc
  · obtain ⟨_, ⟨p0, p1⟩, _⟩ := fitsB_range hc
    go_enter Try.func18, Try.ntmps18
    go_wp2_with (first | (go_at_call 78; refine (residueFits_any _ _ _).mono ?_; rintro e w' ⟨rfl, rfl⟩) | (go_at_call 83; refine (modulo_any _ _ (by omega) (by omega) _).mono ?_; rintro e w' ⟨rfl, rfl⟩))
    go_ret2
    exact ⟨ret_int_bool (by rw [residueR, if_pos hc]) (by first | rfl | exact hc.symm), rfl⟩
  · go_enter Try.func18, Try.ntmps18
    go_wp2_with (first | (go_at_call 78; refine (residueFits_any _ _ _).mono ?_; rintro e w' ⟨rfl, rfl⟩))
    go_ret2
    exact ⟨ret_int_bool (by simp [residueR, hc]) (by first | rfl | exact hc.symm), rfl⟩
theorem specResidueOf_any (a p : Int) (w : World) :
    Calls Try.prog 19 #[.int .i64 a, .int .i64 p] w fun e w' => e = .returned (.tuple #[.int .i64 (residueR a p), .bool (fitsB a p)]) ∧ w = w' := by
  rcases Bool.eq_false_or_eq_true (fitsB a p) with hc | hc
  · obtain ⟨_, ⟨p0, p1⟩, _⟩ := fitsB_range hc
    go_enter Try.func19, Try.ntmps19
    go_wp2_with (first | (go_at_call 80; refine (mdAsked_any _ _ _).mono ?_; rintro e w' ⟨rfl, rfl⟩) | (go_at_call 81; refine (mdMod_any _ _ (by omega) (by omega) _).mono ?_; rintro e w' ⟨rfl, rfl⟩))
    go_ret2
    exact ⟨ret_int_bool (by rw [residueR, if_pos hc]) (by first | rfl | exact hc.symm), rfl⟩
  · go_enter Try.func19, Try.ntmps19
    go_wp2_with (first | (go_at_call 80; refine (mdAsked_any _ _ _).mono ?_; rintro e w' ⟨rfl, rfl⟩))
    go_ret2
    exact ⟨ret_int_bool (by simp [residueR, hc]) (by first | rfl | exact hc.symm), rfl⟩
end Go.Proofs.Ytklhmaegpejdbaa
