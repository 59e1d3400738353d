/- What the kernel reckons for all primes up to 997: powers to the half of p - 1 that are 1 are of squares. -/
import Derived.Test.YtklhmaegpejdbaaNum
namespace Go.Proofs.Ytklhmaegpejdbaa
/-- The bits of the squares of numbers below n. -/
def sqMask (p : Nat) : Nat → Nat
  | 0 => 0
  | n + 1 => sqMask p n ||| 2 ^ (n * n % p)
/-- The bits of the numbers below n whose powers are 1. -/
def oneMask (p : Nat) : Nat → Nat
  | 0 => 0
  | n + 1 => oneMask p n ||| (if n ^ ((p - 1) / 2) % p = 1 then 2 ^ n else 0)
theorem sqMask_bit {p a : Nat} : ∀ n, (sqMask p n).testBit a = true → ∃ x, x < n ∧ x * x % p = a
  | 0, h => by simp [sqMask] at h
  | n + 1, h => by
    simp only [sqMask, Nat.testBit_or, Bool.or_eq_true, Nat.testBit_two_pow, decide_eq_true_eq] at h
    rcases h with h | h
    · obtain ⟨x, h1, h2⟩ := sqMask_bit n h
      exact ⟨x, by omega, h2⟩
    · exact ⟨n, by omega, h⟩
theorem oneMask_bit {p a : Nat} (ha : a ^ ((p - 1) / 2) % p = 1) : ∀ n, a < n → (oneMask p n).testBit a = true
  | 0, h => absurd h (by omega)
  | n + 1, h => by
    simp only [oneMask, Nat.testBit_or, Bool.or_eq_true]
    by_cases e : a = n
    · right; subst e; rw [if_pos ha]; simp [Nat.testBit_two_pow]
    · left; exact oneMask_bit ha n (by omega)
def eulerOk (p : Nat) : Bool := !(primeN p) || (oneMask p p &&& sqMask p p == oneMask p p)
theorem euler_all : (List.range 998).all eulerOk = true := by decide +kernel
theorem euler {p a : Nat} (hp : primeN p = true) (h2 : p < 998) (h1 : a < p) (h : a ^ ((p - 1) / 2) % p = 1) : ∃ x, x < p ∧ x * x % p = a := by
  have h3 := List.all_eq_true.1 euler_all p (List.mem_range.2 h2)
  unfold eulerOk at h3
  rw [hp] at h3
  simp only [Bool.not_true, Bool.false_or, beq_iff_eq] at h3
  have h4 := oneMask_bit h p h1
  rw [← h3, Nat.testBit_and, Bool.and_eq_true] at h4
  exact sqMask_bit p h4.2
end Go.Proofs.Ytklhmaegpejdbaa
