/- Contracts of impl.isPrime and spec.mdPrime: trial division. impl.isPrime: for a number in 2..997. -/
import Derived.Test.YtklhmaegpejdbaaDoorInside
namespace Go.Proofs.YtklhmaegpejdbaaDoor
open Go.RowKit
set_option linter.unusedVariables false
/-- Trial division by 2 .. 31. -/
def primeB (n : Int) : Bool := inB n 2 997 && (List.range 30).all fun d => !(decide (((d : Int) + 2) * ((d : Int) + 2) ≤ n)) || n % ((d : Int) + 2) != 0

theorem primeB_of {n d : Int} (h0 : 2 ≤ n) (h1 : n ≤ 997) (hd : 2 ≤ d) (hb : n < d * d) (h : ∀ k : Int, 2 ≤ k → k < d → n % k ≠ 0) : primeB n = true := by
  unfold primeB
  rw [Bool.and_eq_true, inB_iff, List.all_eq_true]
  refine ⟨⟨h0, h1⟩, fun e he => ?_⟩
  by_cases hk : ((e : Int) + 2) * ((e : Int) + 2) ≤ n
  · have hlt : (e : Int) + 2 < d := by
      rcases Int.lt_or_le ((e : Int) + 2) d with h2 | h2
      · exact h2
      · have : d * d ≤ ((e : Int) + 2) * ((e : Int) + 2) := Int.mul_le_mul h2 h2 (by omega) (by omega)
        omega
    have := h _ (by omega) hlt
    simp [hk, this]
  · simp [hk]

theorem primeB_not {n d : Int} (h1 : n ≤ 997) (hd : 2 ≤ d) (hb : d * d ≤ n) (h : n % d = 0) : primeB n = false := by
  rw [← Bool.not_eq_true]
  intro hp
  unfold primeB at hp
  rw [Bool.and_eq_true, inB_iff, List.all_eq_true] at hp
  have hd2 : d < 32 := by
    rcases Int.lt_or_le d 32 with h2 | h2
    · exact h2
    · have : 32 * 32 ≤ d * d := Int.mul_le_mul h2 h2 (by omega) (by omega)
      omega
  have := hp.2 (d - 2).toNat (by rw [List.mem_range]; omega)
  rw [show (((d - 2).toNat : Nat) : Int) + 2 = d by omega] at this
  simp [hb, h] at this

theorem primeB_range {n : Int} (h : primeB n = true) : 2 ≤ n ∧ n ≤ 997 := by
  unfold primeB at h
  rw [Bool.and_eq_true, inB_iff] at h
  exact h.1
theorem primeB_out {n : Int} (h : ¬ (2 ≤ n ∧ n ≤ 997)) : primeB n = false := by
  rw [← Bool.not_eq_true]
  exact fun hp => h (primeB_range hp)

end Go.Proofs.YtklhmaegpejdbaaDoor
