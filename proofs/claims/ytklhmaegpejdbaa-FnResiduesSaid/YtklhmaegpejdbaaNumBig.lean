/- What the kernel reckons for all primes up to 997: powers to the p - 1 are 1; a square that is 1 is of 1 or p - 1; there is a residue of order p - 1; powers to the half of p - 1 that are 1 are of squares. -/
import Derived.Test.YtklhmaegpejdbaaNum
namespace Go.Proofs.Ytklhmaegpejdbaa
def fermatOk (p : Nat) : Bool := !(primeN p) || (List.range p).all fun a => a == 0 || a ^ (p - 1) % p == 1
theorem fermat_all : (List.range 998).all fermatOk = true := by decide +kernel
theorem fermat {p a : Nat} (hp : primeN p = true) (h2 : p < 998) (h0 : 1 ≤ a) (h1 : a < p) : a ^ (p - 1) % p = 1 := by
  have h := List.all_eq_true.1 fermat_all p (List.mem_range.2 h2)
  unfold fermatOk at h
  rw [hp] at h
  simp only [Bool.not_true, Bool.false_or, List.all_eq_true] at h
  have := h a (List.mem_range.2 h1)
  simp only [Bool.or_eq_true, beq_iff_eq] at this
  omega
end Go.Proofs.Ytklhmaegpejdbaa
