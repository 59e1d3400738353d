/- Contracts of impl.residueFits, spec.mdAsked, impl.modulo, spec.mdMod. -/
import Derived.Test.YtklhmaegpejdbaaPrimeNum
namespace Go.Proofs.Ytklhmaegpejdbaa
open Go.RowKit
set_option linter.unusedVariables false
def fitsB (a p : Int) : Bool := primeB p && inB a (-1000000000000) 1000000000000
theorem fitsB_range {a p : Int} (h : fitsB a p = true) : primeB p = true ∧ (2 ≤ p ∧ p ≤ 997) ∧ (-1000000000000 ≤ a ∧ a ≤ 1000000000000) := by
  simp only [fitsB, Bool.and_eq_true, inB_iff] at h
  exact ⟨h.1, primeB_range h.1, h.2⟩
set_option maxHeartbeats 1000000 in
theorem residueFits_any (a p : Int) (w : World) :
    Calls Try.prog 78 #[.int .i64 a, .int .i64 p] w fun e w' => e = .returned (.bool (fitsB a p)) ∧ w = w' := by
  by_cases hr : 2 ≤ p ∧ p ≤ 997
  · have hin : inB p 2 997 = true := inB_iff.2 hr
    obtain ⟨h0, h1⟩ := hr
    rcases Bool.eq_false_or_eq_true (primeB p) with hp | hp
    all_goals
      go_enter Try.func78, Try.ntmps78
      go_wp2_with (first | (go_at_call 89; refine (inside_any _ _ _ _).mono ?_; rintro e w' ⟨rfl, rfl⟩) | (go_at_call 106; refine (isPrime_any _ h0 h1 _).mono ?_; rintro e w' ⟨rfl, rfl⟩))
      go_ret
      exact ⟨ret_bool (by simp [fitsB, hp]), rfl⟩
  · have hin : inB p 2 997 = false := inB_not.2 hr
    have hp := primeB_out hr
    go_enter Try.func78, Try.ntmps78
    go_wp2_with (go_at_call 89; refine (inside_any _ _ _ _).mono ?_; rintro e w' ⟨rfl, rfl⟩)
    go_ret
    exact ⟨ret_bool (by simp [fitsB, hp]), rfl⟩
theorem mdAsked_any (a p : Int) (w : World) :
    Calls Try.prog 80 #[.int .i64 a, .int .i64 p] w fun e w' => e = .returned (.bool (fitsB a p)) ∧ w = w' := by
  rcases Bool.eq_false_or_eq_true (primeB p) with hp | hp
  all_goals
    go_enter Try.func80, Try.ntmps80
    go_wp2_with (first | (go_at_call 107; refine (mdPrime_any _ _).mono ?_; rintro e w' ⟨rfl, rfl⟩) | (go_at_call 95; refine (l1In_any _ _ _ _).mono ?_; rintro e w' ⟨rfl, rfl⟩))
    go_ret
    exact ⟨ret_bool (by simp [fitsB, hp]), rfl⟩
theorem tmod_range (a p : Int) (h : 0 < p) : -p < a.tmod p ∧ a.tmod p < p := by
  have : (a.tmod p).natAbs < p.natAbs := by rw [Int.natAbs_tmod]; exact Nat.mod_lt _ (by omega)
  omega
theorem mod_twice (a p : Int) (h : 0 < p) : (a.tmod p + p) % p = a % p := by
  rw [Int.add_emod_right]
  conv => rhs; rw [← Int.tmod_add_mul_tdiv a p]
  rw [Int.add_mul_emod_self_left]
theorem modulo_any (a p : Int) (h0 : 1 ≤ p) (h1 : p ≤ 1000000000000) (w : World) :
    Calls Try.prog 83 #[.int .i64 a, .int .i64 p] w fun e w' => e = .returned (.int .i64 (a % p)) ∧ w = w' := by
  obtain ⟨t0, t1⟩ := tmod_range a p (by omega)
  have HM := Lib.hid (mod_twice a p (by omega))
  have hz : (p == 0) = false := by simp; omega
  go_enter Try.func83, Try.ntmps83
  go_wp2
  go_ret
  exact ⟨ret_int HM.out, rfl⟩
theorem mdMod_any (a p : Int) (h0 : 1 ≤ p) (h1 : p ≤ 1000000000000) (w : World) :
    Calls Try.prog 81 #[.int .i64 a, .int .i64 p] w fun e w' => e = .returned (.int .i64 (a % p)) ∧ w = w' := by
  obtain ⟨t0, t1⟩ := tmod_range a p (by omega)
  have HM := Lib.hid (mod_twice a p (by omega))
  have hz : (p == 0) = false := by simp; omega
  go_enter Try.func81, Try.ntmps81
  go_wp2
  go_ret
  exact ⟨ret_int HM.out, rfl⟩
/-- A residue that is not 0, modulo a prime. -/
def unitB (a p : Int) : Bool := fitsB a p && a % p != 0
theorem tmod_zero (a p : Int) : (a.tmod p == 0) = (a % p == 0) := by
  rw [Bool.eq_iff_iff, beq_iff_eq, beq_iff_eq]
  exact ⟨fun h => Int.emod_eq_zero_of_dvd (Int.dvd_of_tmod_eq_zero h), fun h => Int.tmod_eq_zero_of_dvd (Int.dvd_of_emod_eq_zero h)⟩
theorem unitB_iff {a p : Int} : unitB a p = true ↔ fitsB a p = true ∧ a % p ≠ 0 := by simp [unitB]
end Go.Proofs.Ytklhmaegpejdbaa
