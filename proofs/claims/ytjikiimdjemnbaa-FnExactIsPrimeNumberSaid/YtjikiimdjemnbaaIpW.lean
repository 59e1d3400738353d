/- impl.IsPrimeNumber and spec.IsPrimeNumber both say primeB; the walk of FnExactIsPrimeNumber. -/
import Derived.Test.YtjikiimdjemnbaaPrimeNum
namespace Go.Proofs.Ytjikiimdjemnbaa
open Go.RowKit
theorem implIsPrimeNumber_any (n : Int) (w : World) :
    Calls Try.prog 19 #[.int .i64 n] w fun e w' => e = .returned (.bool (primeB n)) ∧ w = w' := by
  by_cases hr : 2 ≤ n ∧ n ≤ 997
  · have hin : inB n 2 997 = true := inB_iff.2 hr
    obtain ⟨h0, h1⟩ := hr
    go_enter Try.func19, Try.ntmps19
    go_wp2_with (first
      | (go_at_call 43; refine (inside_any _ _ _ _).mono ?_; rintro e w' ⟨rfl, rfl⟩)
      | (go_at_call 44; refine (isPrime_any _ h0 h1 _).mono ?_; rintro e w' ⟨rfl, rfl⟩))
    go_ret
    exact ⟨rfl, rfl⟩
  · have hin : inB n 2 997 = false := inB_not.2 hr
    have HP := Lib.hid (primeB_out hr)
    go_enter Try.func19, Try.ntmps19
    go_wp2_with (go_at_call 43; refine (inside_any _ _ _ _).mono ?_; rintro e w' ⟨rfl, rfl⟩)
    go_ret
    exact ⟨ret_bool HP.out.symm, rfl⟩
theorem specIsPrimeNumber_any (n : Int) (w : World) :
    Calls Try.prog 18 #[.int .i64 n] w fun e w' => e = .returned (.bool (primeB n)) ∧ w = w' := by
  go_enter Try.func18, Try.ntmps18
  go_wp2_with (go_at_call 42; refine (mdPrime_any _ _).mono ?_; rintro e w' ⟨rfl, rfl⟩)
  go_ret
  exact ⟨rfl, rfl⟩
namespace Ip
theorem walk (n : Int) (_ : (Lit.int .i64 n).wf = true) (w : World) : Calls Try.prog 5 #[.int .i64 n] w fun e w' => e = .returned (.bool true) ∧ Below w.heap.size w w' := by
  go_enter Try.func5, Try.ntmps5
  go_wp2_with (first
    | (go_at_call 19; refine (implIsPrimeNumber_any _ _).mono ?_; rintro e w' ⟨rfl, rfl⟩)
    | (go_at_call 18; refine (specIsPrimeNumber_any _ _).mono ?_; rintro e w' ⟨rfl, rfl⟩))
  go_ret
  exact ⟨rfl, Below.refl _ _⟩
end Ip
end Go.Proofs.Ytjikiimdjemnbaa
