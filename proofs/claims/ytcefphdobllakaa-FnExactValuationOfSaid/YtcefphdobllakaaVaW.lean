/- impl.ValuationOf and spec.ValuationOf; the walk of FnExactValuationOf. -/
import Derived.Test.YtcefphdobllakaaVal
import Derived.Test.YtcefphdobllakaaRes
namespace Go.Proofs.Ytcefphdobllakaa
open Go.RowKit
set_option linter.unusedVariables false
set_option linter.unusedSimpArgs false
def valB (a p : Int) : Bool := fitsB a p && a != 0
def valR (a p : Int) : Int := if valB a p = true then valI a p else 0
theorem implValuationOf_any (a p : Int) (w : World) :
    Calls Try.prog 31 #[.int .i64 a, .int .i64 p] w fun e w' => e = .returned (.tuple #[.int .i64 (valR a p), .bool (valB a p)]) ∧ w = w' := by
  rcases Bool.eq_false_or_eq_true (fitsB a p) with hc | hc
  · obtain ⟨_, ⟨p0, p1⟩, ⟨a0, a1⟩⟩ := fitsB_range hc
    rcases Bool.eq_false_or_eq_true (a == 0) with hn | hn
    all_goals
      have HN := Lib.hid hn
      have HQ : Hid ((a == 0) = false → a ≠ 0) := fun h => by simpa using h
      go_enter Try.func31, Try.ntmps31
      go_wp2_with (first | (go_at_call 56; refine (residueFits_any _ _ _).mono ?_; rintro e w' ⟨rfl, rfl⟩) | (go_at_call 60; refine (valuation_any _ _ (HQ.out HN.out) a0 a1 (by omega) _).mono ?_; rintro e w' ⟨rfl, rfl⟩))
      go_ret2
      exact ⟨ret_int_bool (by simp only [valR, valB, hc, bne, HN.out]; rfl) (by simp only [valB, hc, bne, HN.out]; rfl), rfl⟩
  · go_enter Try.func31, Try.ntmps31
    go_wp2_with (first | (go_at_call 56; refine (residueFits_any _ _ _).mono ?_; rintro e w' ⟨rfl, rfl⟩))
    go_ret2
    exact ⟨ret_int_bool (by simp [valR, valB, hc]) (by simp [valB, hc]), rfl⟩
theorem specValuationOf_any (a p : Int) (w : World) :
    Calls Try.prog 30 #[.int .i64 a, .int .i64 p] w fun e w' => e = .returned (.tuple #[.int .i64 (valR a p), .bool (valB a p)]) ∧ w = w' := by
  rcases Bool.eq_false_or_eq_true (fitsB a p) with hc | hc
  · obtain ⟨_, ⟨p0, p1⟩, ⟨a0, a1⟩⟩ := fitsB_range hc
    rcases Bool.eq_false_or_eq_true (a == 0) with hn | hn
    all_goals
      have HN := Lib.hid hn
      have HQ : Hid ((a == 0) = false → a ≠ 0) := fun h => by simpa using h
      go_enter Try.func30, Try.ntmps30
      go_wp2_with (first | (go_at_call 54; refine (mdAsked_any _ _ _).mono ?_; rintro e w' ⟨rfl, rfl⟩) | (go_at_call 59; refine (mdValuation_any _ _ (HQ.out HN.out) a0 a1 (by omega) _).mono ?_; rintro e w' ⟨rfl, rfl⟩))
      go_ret2
      exact ⟨ret_int_bool (by simp only [valR, valB, hc, bne, HN.out]; rfl) (by simp only [valB, hc, bne, HN.out]; rfl), rfl⟩
  · go_enter Try.func30, Try.ntmps30
    go_wp2_with (first | (go_at_call 54; refine (mdAsked_any _ _ _).mono ?_; rintro e w' ⟨rfl, rfl⟩))
    go_ret2
    exact ⟨ret_int_bool (by simp [valR, valB, hc]) (by simp [valB, hc]), rfl⟩
namespace Va
theorem walk (a p : Int) (_ : (Lit.int .i64 a).wf = true) (_ : (Lit.int .i64 p).wf = true) (w : World) : Calls Try.prog 8 #[.int .i64 a, .int .i64 p] w fun e w' => e = .returned (.bool true) ∧ Below w.heap.size w w' := by
  go_enter Try.func8, Try.ntmps8
  go_wp2_with (first | (go_at_call 31; refine (implValuationOf_any _ _ _).mono ?_; rintro e w' ⟨rfl, rfl⟩) | (go_at_call 30; refine (specValuationOf_any _ _ _).mono ?_; rintro e w' ⟨rfl, rfl⟩))
  go_ret
  exact ⟨rfl, Below.refl _ _⟩
end Va
end Go.Proofs.Ytcefphdobllakaa
