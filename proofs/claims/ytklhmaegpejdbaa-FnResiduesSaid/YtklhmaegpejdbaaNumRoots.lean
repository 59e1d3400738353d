/- What the kernel reckons for all primes up to 997: a number whose square is 1 is 1 or p - 1. -/
import Derived.Test.YtklhmaegpejdbaaNumBig
namespace Go.Proofs.Ytklhmaegpejdbaa
def rootsOk (p : Nat) : Bool := !(primeN p) || (List.range p).all fun y => y * y % p != 1 || y == 1 || y == p - 1
theorem roots_all : (List.range 998).all rootsOk = true := by decide +kernel
theorem roots {p y : Nat} (hp : primeN p = true) (h2 : p < 998) (h1 : y < p) (h : y * y % p = 1) : y = 1 ∨ y = p - 1 := by
  have h3 := List.all_eq_true.1 roots_all p (List.mem_range.2 h2)
  unfold rootsOk at h3
  rw [hp] at h3
  simp only [Bool.not_true, Bool.false_or, List.all_eq_true] at h3
  have := h3 y (List.mem_range.2 h1)
  simp only [Bool.or_eq_true, beq_iff_eq, bne_iff_ne, ne_eq] at this
  omega
end Go.Proofs.Ytklhmaegpejdbaa
