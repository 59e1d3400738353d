/- The length in bits: plain arithmetic. -/
import Derived.Lib.BitFns
import Derived.Test.YtcplelcblfjpoaaDigs
namespace Go.Proofs.Ytcplelcblfjpoaa
set_option linter.unusedVariables false
set_option linter.unusedSimpArgs false
def bl (m : Nat) : Nat := if m = 0 then 0 else Nat.log2 m + 1
theorem bl_zero : bl 0 = 0 := rfl
theorem bl_half {m : Nat} (h : m ≠ 0) : bl m = bl (m / 2) + 1 := by
  unfold bl
  rw [if_neg h]
  by_cases h2 : 2 ≤ m
  · rw [if_neg (by omega), Nat.log2_def m, if_pos h2]
  · rw [if_pos (by omega), Nat.log2_def m, if_neg h2]
theorem bl_div : ∀ (k : Nat) {m : Nat}, 2 ^ k ≤ m → bl m = bl (m / 2 ^ k) + k
  | 0, m, _ => by simp
  | k + 1, m, h => by
    have h0 : 2 ^ (k + 1) = 2 ^ k * 2 := Nat.pow_succ ..
    have h1 : 0 < 2 ^ k := Nat.pow_pos (by omega)
    rw [bl_half (show m ≠ 0 by omega), bl_div k (show 2 ^ k ≤ m / 2 by omega), Nat.div_div_eq_div_mul, Nat.pow_succ, Nat.mul_comm 2]
    omega
theorem bl_le {m k : Nat} (h : m < 2 ^ k) : bl m ≤ k := by
  unfold bl
  by_cases h0 : m = 0
  · rw [if_pos h0]; omega
  · rw [if_neg h0]; exact (Nat.log2_lt h0).2 h
theorem bitLen_bl : ∀ (x : Nat), x < 2 ^ 64 → Lib.bitLen x = bl x := fun x => by
  induction x using Nat.strongRecOn with
  | _ x ih =>
    intro h
    by_cases h0 : x = 0
    · subst h0; rfl
    · rw [Lib.bitLen_half x h0 h, ih (x / 2) (by omega) (by omega), bl_half h0]; omega
theorem pow_nat (k : Nat) : ((10000 ^ k : Nat) : Int) = (10000 : Int) ^ k := Int.natCast_pow ..
theorem bl_digs (m : Nat) : bl m ≤ 14 * (digs m).length := by
  refine bl_le ?_
  have h1 := lt_pow_digs m
  rw [← pow_nat] at h1
  have h2 : 10000 ^ (digs m).length ≤ (2 ^ 14) ^ (digs m).length := Nat.pow_le_pow_left (by decide) _
  rw [← Nat.pow_mul] at h2
  omega
theorem big_of_digs {m k : Nat} (h : k < (digs m).length) : 10000 ^ k ≤ m := by
  rcases Nat.lt_or_ge m (10000 ^ k) with h2 | h2
  · have h3 := digs_length_of_lt k m (by rw [← pow_nat]; omega)
    omega
  · exact h2
end Go.Proofs.Ytcplelcblfjpoaa
