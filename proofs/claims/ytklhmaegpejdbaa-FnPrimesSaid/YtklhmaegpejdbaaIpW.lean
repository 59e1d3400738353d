/- impl.IsPrimeNumber and spec.IsPrimeNumber both say primeB; the walk of FnExactIsPrimeNumber. -/
import Derived.Test.YtklhmaegpejdbaaPrimeNum
namespace Go.Proofs.Ytklhmaegpejdbaa
open Go.RowKit
theorem implIsPrimeNumber_any (n : Int) (w : World) :
    Calls Try.prog 50 #[.int .i64 n] w fun e w' => e = .returned (.bool (primeB n)) ∧ w = w' := by
  by_cases hr : 2 ≤ n ∧ n ≤ 997
  · have hin : inB n 2 997 = true := inB_iff.2 hr
    obtain ⟨h0, h1⟩ := hr
    go_enter Try.func50, Try.ntmps50
    go_wp2_with (first
      | (go_at_call 89; refine (inside_any _ _ _ _).mono ?_; rintro e w' ⟨rfl, rfl⟩)
      | (go_at_call 106; refine (isPrime_any _ h0 h1 _).mono ?_; rintro e w' ⟨rfl, rfl⟩))
    go_ret
    exact ⟨rfl, rfl⟩
  · have hin : inB n 2 997 = false := inB_not.2 hr
    have HP := Lib.hid (primeB_out hr)
    go_enter Try.func50, Try.ntmps50
    go_wp2_with (go_at_call 89; refine (inside_any _ _ _ _).mono ?_; rintro e w' ⟨rfl, rfl⟩)
    go_ret
    exact ⟨ret_bool HP.out.symm, rfl⟩
theorem specIsPrimeNumber_any (n : Int) (w : World) :
    Calls Try.prog 65 #[.int .i64 n] w fun e w' => e = .returned (.bool (primeB n)) ∧ w = w' := by
  go_enter Try.func65, Try.ntmps65
  go_wp2_with (go_at_call 107; refine (mdPrime_any _ _).mono ?_; rintro e w' ⟨rfl, rfl⟩)
  go_ret
  exact ⟨rfl, rfl⟩
end Go.Proofs.Ytklhmaegpejdbaa
