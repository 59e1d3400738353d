/- impl.ResidueOf and spec.ResidueOf; the walk of FnExactResidueOf. -/
import Derived.Test.YtjikiimdjemnbaaRes
namespace Go.Proofs.Ytjikiimdjemnbaa
open Go.RowKit
set_option linter.unusedVariables false
def residueR (a p : Int) : Int := if fitsB a p = true then a % p else 0
theorem implResidueOf_any (a p : Int) (w : World) :
    Calls Try.prog 30 #[.int .i64 a, .int .i64 p] w fun e w' => e = .returned (.tuple #[.int .i64 (residueR a p), .bool (fitsB a p)]) ∧ w = w' := by
  rcases Bool.eq_false_or_eq_true (fitsB a p) with hc | hc
  · obtain ⟨_, ⟨p0, p1⟩, _⟩ := fitsB_range hc
    go_enter Try.func30, Try.ntmps30
    go_wp2_with (first | (go_at_call 53; refine (residueFits_any _ _ _).mono ?_; rintro e w' ⟨rfl, rfl⟩) | (go_at_call 54; refine (modulo_any _ _ (by omega) (by omega) _).mono ?_; rintro e w' ⟨rfl, rfl⟩))
    go_ret2
    exact ⟨ret_int_bool (by rw [residueR, if_pos hc]) (by first | rfl | exact hc.symm), rfl⟩
  · go_enter Try.func30, Try.ntmps30
    go_wp2_with (first | (go_at_call 53; refine (residueFits_any _ _ _).mono ?_; rintro e w' ⟨rfl, rfl⟩))
    go_ret2
    exact ⟨ret_int_bool (by simp [residueR, hc]) (by first | rfl | exact hc.symm), rfl⟩
theorem specResidueOf_any (a p : Int) (w : World) :
    Calls Try.prog 29 #[.int .i64 a, .int .i64 p] w fun e w' => e = .returned (.tuple #[.int .i64 (residueR a p), .bool (fitsB a p)]) ∧ w = w' := by
  rcases Bool.eq_false_or_eq_true (fitsB a p) with hc | hc
  · obtain ⟨_, ⟨p0, p1⟩, _⟩ := fitsB_range hc
    go_enter Try.func29, Try.ntmps29
    go_wp2_with (first | (go_at_call 51; refine (mdAsked_any _ _ _).mono ?_; rintro e w' ⟨rfl, rfl⟩) | (go_at_call 52; refine (mdMod_any _ _ (by omega) (by omega) _).mono ?_; rintro e w' ⟨rfl, rfl⟩))
    go_ret2
    exact ⟨ret_int_bool (by rw [residueR, if_pos hc]) (by first | rfl | exact hc.symm), rfl⟩
  · go_enter Try.func29, Try.ntmps29
    go_wp2_with (first | (go_at_call 51; refine (mdAsked_any _ _ _).mono ?_; rintro e w' ⟨rfl, rfl⟩))
    go_ret2
    exact ⟨ret_int_bool (by simp [residueR, hc]) (by first | rfl | exact hc.symm), rfl⟩
namespace Ro
theorem walk (a p : Int) (_ : (Lit.int .i64 a).wf = true) (_ : (Lit.int .i64 p).wf = true) (w : World) : Calls Try.prog 10 #[.int .i64 a, .int .i64 p] w fun e w' => e = .returned (.bool true) ∧ Below w.heap.size w w' := by
  go_enter Try.func10, Try.ntmps10
  go_wp2_with (first | (go_at_call 30; refine (implResidueOf_any _ _ _).mono ?_; rintro e w' ⟨rfl, rfl⟩) | (go_at_call 29; refine (specResidueOf_any _ _ _).mono ?_; rintro e w' ⟨rfl, rfl⟩))
  go_ret
  exact ⟨rfl, Below.refl _ _⟩
end Ro
end Go.Proofs.Ytjikiimdjemnbaa
