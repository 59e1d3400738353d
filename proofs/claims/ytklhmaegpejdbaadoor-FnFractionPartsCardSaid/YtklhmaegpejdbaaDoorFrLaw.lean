/- Fractions in lowest terms: what a made fraction is, and when it is a given one. In plain numbers. -/
import Derived.Test.YtklhmaegpejdbaaDoorFrTwo
import Derived.Test.YtklhmaegpejdbaaDoorMake
namespace Go.Proofs.YtklhmaegpejdbaaDoor
open Go.RowKit
set_option linter.unusedVariables false
set_option linter.unusedSimpArgs false
theorem mkD_ne {n d : Int} (h : d ≠ 0) : mkD n d ≠ 0 := by
  have := gcdI_pos n d h
  unfold mkD
  split <;> omega
theorem mkD_dvd (n d : Int) : mkD n d ∣ n ∧ mkD n d ∣ d := by
  have h1 : gcdI n d ∣ n := by unfold gcdI; exact Int.gcd_dvd_left ..
  have h2 : gcdI n d ∣ d := by unfold gcdI; exact Int.gcd_dvd_right ..
  unfold mkD
  split
  · exact ⟨(Int.neg_dvd).2 h1, (Int.neg_dvd).2 h2⟩
  · exact ⟨h1, h2⟩
/-- A made fraction's parts, times the divisor. -/
theorem mk_parts {n d : Int} (h : mkB n d = true) : mkN n d * mkD n d = n ∧ mkE n d * mkD n d = d := by
  unfold mkN mkE
  rw [if_pos h, if_pos h]
  exact ⟨Int.tdiv_mul_cancel (mkD_dvd n d).1, Int.tdiv_mul_cancel (mkD_dvd n d).2⟩
theorem mk_cross {n d : Int} (h : mkB n d = true) : mkN n d * d = n * mkE n d := by
  obtain ⟨h1, h2⟩ := mk_parts h
  calc mkN n d * d = mkN n d * (mkE n d * mkD n d) := by rw [h2]
    _ = mkN n d * mkD n d * mkE n d := by rw [Int.mul_comm (mkE n d), ← Int.mul_assoc]
    _ = n * mkE n d := by rw [h1]
theorem fracB_gcd {a b : Int} (h : fracB a b = true) : gcdI a b = 1 := by
  obtain ⟨_, _, _, _, e⟩ := fracB_range h
  exact e
/-- What equals a fraction in lowest terms is made into that one. -/
theorem mk_of_eq {n m a b : Int} (hm : m ≠ 0) (hab : fracB a b = true) (h : n * b = a * m) : mkB n m = true ∧ mkN n m = a ∧ mkE n m = b := by
  obtain ⟨b0, b1, a0, a1, _⟩ := fracB_range hab
  have hg := fracB_gcd hab
  have hcop : Nat.Coprime a.natAbs b.natAbs := by
    unfold gcdI at hg
    rw [Int.gcd_eq_natAbs_gcd_natAbs] at hg
    exact_mod_cast hg
  have hN : n.natAbs * b.natAbs = a.natAbs * m.natAbs := by rw [← Int.natAbs_mul, ← Int.natAbs_mul, h]
  have hdm : b.natAbs ∣ m.natAbs := hcop.symm.dvd_of_dvd_mul_left ⟨n.natAbs, by rw [← hN, Nat.mul_comm]⟩
  obtain ⟨k, hk⟩ : b ∣ m := Int.natAbs_dvd_natAbs.1 hdm
  have hn : n = a * k := by
    have h2 : n * b = a * k * b := by rw [h, hk, Int.mul_comm b k, Int.mul_assoc]
    exact Int.eq_of_mul_eq_mul_right (by omega) h2
  have hk0 : k ≠ 0 := fun e => hm (by rw [hk, e, Int.mul_zero])
  have hgk : gcdI n m = absI k := by
    unfold gcdI absI
    rw [hn, hk, Int.gcd_eq_natAbs_gcd_natAbs, Int.natAbs_mul, Int.natAbs_mul, Nat.gcd_mul_right]
    rw [hcop, Nat.one_mul]
  have hD : mkD n m = k := by
    unfold mkD
    rw [hgk]
    unfold absI
    have hsm : (m < 0) ↔ (k < 0) := by
      rw [hk]
      constructor
      · intro h0
        rcases Int.lt_or_le k 0 with h1 | h1
        · exact h1
        · have := Int.mul_nonneg (show 0 ≤ b by omega) h1; omega
      · intro h0
        exact Int.mul_neg_of_pos_of_neg (by omega) h0
    split
    · rename_i h0; have := hsm.1 h0; omega
    · rename_i h0; have : ¬ k < 0 := fun h1 => h0 (hsm.2 h1); omega
  have e1 : n.tdiv (mkD n m) = a := by rw [hD, hn]; exact Int.mul_tdiv_cancel _ hk0
  have e2 : m.tdiv (mkD n m) = b := by rw [hD, hk]; exact Int.mul_tdiv_cancel _ hk0
  have hB : mkB n m = true := by unfold mkB; rw [e1, e2]; exact hab
  refine ⟨hB, ?_, ?_⟩
  · unfold mkN; rw [if_pos hB, e1]
  · unfold mkE; rw [if_pos hB, e2]
theorem mk_pos {n d : Int} (h : mkB n d = true) : 1 ≤ mkE n d := by
  unfold mkE
  rw [if_pos h]
  exact (fracB_range h).1
end Go.Proofs.YtklhmaegpejdbaaDoor
