/- impl.ValuationOf and spec.ValuationOf; the walk of FnExactValuationOf. -/
import Derived.Test.YtklhmaegpejdbaaVal
import Derived.Test.YtklhmaegpejdbaaRes
namespace Go.Proofs.Ytklhmaegpejdbaa
open Go.RowKit
set_option linter.unusedVariables false
set_option linter.unusedSimpArgs false
def valB (a p : Int) : Bool := fitsB a p && a != 0
def valR (a p : Int) : Int := if valB a p = true then valI a p else 0
theorem implValuationOf_any (a p : Int) (w : World) :
    Calls Try.prog 58 #[.int .i64 a, .int .i64 p] w fun e w' => e = .returned (.tuple #[.int .i64 (valR a p), .bool (valB a p)]) ∧ w = w' := by
  rcases Bool.eq_false_or_eq_true (fitsB a p) with hc | hc
  · obtain ⟨_, ⟨p0, p1⟩, ⟨a0, a1⟩⟩ := fitsB_range hc
    rcases Bool.eq_false_or_eq_true (a == 0) with hn | hn
    all_goals
      have HN := Lib.hid hn
      have HQ : Hid ((a == 0) = false → a ≠ 0) := fun h => by simpa using h
      go_enter Try.func58, Try.ntmps58
      go_wp2_with (first | (go_at_call 78; refine (residueFits_any _ _ _).mono ?_; rintro e w' ⟨rfl, rfl⟩) | (go_at_call 104; refine (valuation_any _ _ (HQ.out HN.out) a0 a1 (by omega) _).mono ?_; rintro e w' ⟨rfl, rfl⟩))
      go_ret2
      exact ⟨ret_int_bool (by simp only [valR, valB, hc, bne, HN.out]; rfl) (by simp only [valB, hc, bne, HN.out]; rfl), rfl⟩
  · go_enter Try.func58, Try.ntmps58
    go_wp2_with (first | (go_at_call 78; refine (residueFits_any _ _ _).mono ?_; rintro e w' ⟨rfl, rfl⟩))
    go_ret2
    exact ⟨ret_int_bool (by simp [valR, valB, hc]) (by simp [valB, hc]), rfl⟩
theorem specValuationOf_any (a p : Int) (w : World) :
    Calls Try.prog 59 #[.int .i64 a, .int .i64 p] w fun e w' => e = .returned (.tuple #[.int .i64 (valR a p), .bool (valB a p)]) ∧ w = w' := by
  rcases Bool.eq_false_or_eq_true (fitsB a p) with hc | hc
  · obtain ⟨_, ⟨p0, p1⟩, ⟨a0, a1⟩⟩ := fitsB_range hc
    rcases Bool.eq_false_or_eq_true (a == 0) with hn | hn
    all_goals
      have HN := Lib.hid hn
      have HQ : Hid ((a == 0) = false → a ≠ 0) := fun h => by simpa using h
      go_enter Try.func59, Try.ntmps59
      go_wp2_with (first | (go_at_call 80; refine (mdAsked_any _ _ _).mono ?_; rintro e w' ⟨rfl, rfl⟩) | (go_at_call 108; refine (mdValuation_any _ _ (HQ.out HN.out) a0 a1 (by omega) _).mono ?_; rintro e w' ⟨rfl, rfl⟩))
      go_ret2
      exact ⟨ret_int_bool (by simp only [valR, valB, hc, bne, HN.out]; rfl) (by simp only [valB, hc, bne, HN.out]; rfl), rfl⟩
  · go_enter Try.func59, Try.ntmps59
    go_wp2_with (first | (go_at_call 80; refine (mdAsked_any _ _ _).mono ?_; rintro e w' ⟨rfl, rfl⟩))
    go_ret2
    exact ⟨ret_int_bool (by simp [valR, valB, hc]) (by simp [valB, hc]), rfl⟩
end Go.Proofs.Ytklhmaegpejdbaa
