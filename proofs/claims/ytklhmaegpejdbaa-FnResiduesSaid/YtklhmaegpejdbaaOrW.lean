/- impl.OrderOf and spec.OrderOf; the walk of FnExactOrderOf. -/
import Derived.Test.YtklhmaegpejdbaaOrd
namespace Go.Proofs.Ytklhmaegpejdbaa
open Go.RowKit
set_option linter.unusedVariables false
set_option linter.unusedSimpArgs false
def orderR (a p : Int) : Int := if unitB a p = true then ordI a p else 0
theorem implOrderOf_any (a p : Int) (w : World) :
    Calls Try.prog 20 #[.int .i64 a, .int .i64 p] w fun e w' => e = .returned (.tuple #[.int .i64 (orderR a p), .bool (unitB a p)]) ∧ w = w' := by
  rcases Bool.eq_false_or_eq_true (fitsB a p) with hc | hc
  · obtain ⟨hpr, p0, _⟩ := fitsB_range hc
    have HP := Lib.hid hpr
    obtain ⟨p0, p1⟩ := p0
    have ht := tmod_zero a p
    have hz : (p == 0) = false := by simp; omega
    rcases Bool.eq_false_or_eq_true (a % p == 0) with hn | hn
    all_goals
      rw [hn] at ht
      have HN := Lib.hid hn
      have HQ : Hid ((a % p == 0) = false → a % p ≠ 0) := fun h => by simpa using h
      clear hn hpr
      go_enter Try.func20, Try.ntmps20
      go_wp2_with (first | (go_at_call 78; refine (residueFits_any _ _ _).mono ?_; rintro e w' ⟨rfl, rfl⟩) | (go_at_call 84; refine (orderOf_any _ _ HP.out (HQ.out HN.out) _).mono ?_; rintro e w' ⟨rfl, rfl⟩))
      go_ret2
      exact ⟨ret_int_bool (by simp [orderR, unitB, hc, bne, HN.out]) (by simp [unitB, hc, bne, HN.out]), rfl⟩
  · go_enter Try.func20, Try.ntmps20
    go_wp2_with (first | (go_at_call 78; refine (residueFits_any _ _ _).mono ?_; rintro e w' ⟨rfl, rfl⟩))
    go_ret2
    exact ⟨ret_int_bool (by simp [orderR, unitB, hc]) (by simp [unitB, hc]), rfl⟩
theorem specOrderOf_any (a p : Int) (w : World) :
    Calls Try.prog 21 #[.int .i64 a, .int .i64 p] w fun e w' => e = .returned (.tuple #[.int .i64 (orderR a p), .bool (unitB a p)]) ∧ w = w' := by
  rcases Bool.eq_false_or_eq_true (fitsB a p) with hc | hc
  · obtain ⟨hpr, ⟨p0, p1⟩, _⟩ := fitsB_range hc
    have HP := Lib.hid hpr
    rcases Bool.eq_false_or_eq_true (a % p == 0) with hn | hn
    all_goals
      have HN := Lib.hid hn
      have HQ : Hid ((a % p == 0) = false → a % p ≠ 0) := fun h => by simpa using h
      clear hpr
      go_enter Try.func21, Try.ntmps21
      go_wp2_with (first | (go_at_call 80; refine (mdAsked_any _ _ _).mono ?_; rintro e w' ⟨rfl, rfl⟩) | (go_at_call 81; refine (mdMod_any _ _ (by omega) (by omega) _).mono ?_; rintro e w' ⟨rfl, rfl⟩) | (go_at_call 85; refine (mdOrder_any _ _ HP.out (HQ.out HN.out) _).mono ?_; rintro e w' ⟨rfl, rfl⟩))
      go_ret2
      exact ⟨ret_int_bool (by simp only [orderR, unitB, hc, bne, HN.out]; rfl) (by simp only [unitB, hc, bne, HN.out]; rfl), rfl⟩
  · go_enter Try.func21, Try.ntmps21
    go_wp2_with (first | (go_at_call 80; refine (mdAsked_any _ _ _).mono ?_; rintro e w' ⟨rfl, rfl⟩))
    go_ret2
    exact ⟨ret_int_bool (by simp [orderR, unitB, hc]) (by simp [unitB, hc]), rfl⟩
end Go.Proofs.Ytklhmaegpejdbaa
