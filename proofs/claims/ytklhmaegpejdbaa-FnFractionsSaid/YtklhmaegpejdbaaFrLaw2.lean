/- The laws between sums, differences, products, quotients and the order of fractions, in plain numbers. -/
import Derived.Test.YtklhmaegpejdbaaFrLaw
import Derived.Test.YtklhmaegpejdbaaSuW
import Derived.Test.YtklhmaegpejdbaaDfW
import Derived.Test.YtklhmaegpejdbaaPdW
import Derived.Test.YtklhmaegpejdbaaQuW
import Derived.Test.YtklhmaegpejdbaaIlW
import Derived.Test.YtklhmaegpejdbaaFoW
namespace Go.Proofs.Ytklhmaegpejdbaa
open Go.RowKit
set_option linter.unusedVariables false
set_option linter.unusedSimpArgs false
theorem ifraction_any (a b : Int) (w : World) :
    Calls Try.prog 43 #[.agg #[.int .i64 a, .int .i64 b]] w fun e w' => e = .returned (.bool (fracB a b)) ∧ Below w.heap.size w w' := by
  go_enter Try.func43, Try.ntmps43
  go_wp2_with (go_at_call 70; refine (isFraction_any _ _ _).mono ?_; rintro e w1 ⟨rfl, hb1⟩; obtain ⟨hc1, hf1⟩ := bcell hb1; have hB1 : Below w.heap.size w w1 := Below.trans (by repeat' (first | (with_reducible exact Below.refl _ _) | (with_reducible assumption) | (with_reducible refine Below.alloc ?_ ?_ _) | (with_reducible refine Below.drew ?_) | (with_reducible refine below_drewN ?_ _) | (with_reducible refine Below.setCell ?_ ?_ _) | go_size)) (hb1.mono (by go_size)); (have hs1 := hb1.size); (try simp at hs1); (try (have hl1 := Nat.lt_of_succ_le hs1)); (first | (have hz1 : w.heap.size < w1.heap.size := by omega) | (have hz1 : w.heap.size ≤ w1.heap.size := by omega)); (try (have hz2_1 : w2.heap.size < w1.heap.size := by omega)); (try (have hz3_1 : w3.heap.size < w1.heap.size := by omega)); (try (have hz4_1 : w4.heap.size < w1.heap.size := by omega)); (try (have hz5_1 : w5.heap.size < w1.heap.size := by omega)); (try (have hzc_1 : wc.heap.size < w1.heap.size := by omega)); (try (have hy1_1 : w.heap.size + 1 < w1.heap.size := by omega)); (try (have hy2_1 : w.heap.size + 2 < w1.heap.size := by omega)); (try (have hy3_1 : w.heap.size + 3 < w1.heap.size := by omega)))
  go_ret
  exact ⟨rfl, by repeat' (first | (with_reducible exact Below.refl _ _) | (with_reducible assumption) | (with_reducible refine Below.alloc ?_ ?_ _) | (with_reducible refine Below.drew ?_) | (with_reducible refine below_drewN ?_ _) | (with_reducible refine Below.setCell ?_ ?_ _) | go_size)⟩
theorem sum_parts {a b c d : Int} (h : sumB a b c d = true) : twoB a b c d = true ∧ mkB (a * d + c * b) (b * d) = true ∧ sumN a b c d = mkN (a * d + c * b) (b * d) ∧ sumE a b c d = mkE (a * d + c * b) (b * d) := by
  simp only [sumB, Bool.and_eq_true] at h
  exact ⟨h.1, h.2, by unfold sumN; rw [if_pos h.1], by unfold sumE; rw [if_pos h.1]⟩
theorem quot_parts {a b c d : Int} (h : quotientB a b c d = true) : twoB a b c d = true ∧ c ≠ 0 ∧ mkB (a * d) (b * c) = true ∧ quotientN a b c d = mkN (a * d) (b * c) ∧ quotientE a b c d = mkE (a * d) (b * c) := by
  simp only [quotientB, Bool.and_eq_true] at h
  have h1 := h.1
  simp only [quotientOk, Bool.and_eq_true] at h1
  exact ⟨h1.1, by simpa using h1.2, h.2, by unfold quotientN; rw [if_pos h.1], by unfold quotientE; rw [if_pos h.1]⟩
theorem two_parts {a b c d : Int} (h : twoB a b c d = true) : fracB a b = true ∧ fracB c d = true := by simpa [twoB] using h
theorem frac_pos {a b : Int} (h : fracB a b = true) : 1 ≤ b := (fracB_range h).1
theorem fr_sum_back {a b c d : Int} (h : sumB a b c d = true) : fracB (sumN a b c d) (sumE a b c d) = true ∧ differenceB (sumN a b c d) (sumE a b c d) c d = true ∧
    differenceN (sumN a b c d) (sumE a b c d) c d = a ∧ differenceE (sumN a b c d) (sumE a b c d) c d = b := by
  obtain ⟨h2, hm, hN, hE⟩ := sum_parts h
  obtain ⟨ha, hc⟩ := two_parts h2
  have hf : fracB (sumN a b c d) (sumE a b c d) = true := by rw [hN, hE]; unfold mkN mkE; rw [if_pos hm, if_pos hm]; exact hm
  have hx := mk_cross hm
  rw [← hN, ← hE] at hx
  have b0 := frac_pos ha
  have d0 := frac_pos hc
  have e0 := frac_pos hf
  have hcross : (sumN a b c d * d - c * sumE a b c d) * b = a * (sumE a b c d * d) := by
    have e1 : (sumN a b c d * d - c * sumE a b c d) * b = sumN a b c d * (b * d) - c * b * sumE a b c d := by
      rw [Int.sub_mul, Int.mul_assoc, Int.mul_comm d b, Int.mul_right_comm c]
    rw [e1, hx, Int.add_mul, Int.add_sub_cancel, Int.mul_assoc, Int.mul_comm d]
  have hne : sumE a b c d * d ≠ 0 := Int.mul_ne_zero (by omega) (by omega)
  obtain ⟨k1, k2, k3⟩ := mk_of_eq hne ha hcross
  have h3 : differenceOk (sumN a b c d) (sumE a b c d) c d = true := by simp [differenceOk, twoB, hf, hc]
  exact ⟨hf, by simp [differenceB, h3, k1], by unfold differenceN; rw [if_pos h3, k2], by unfold differenceE; rw [if_pos h3, k3]⟩
theorem two_comm (a b c d : Int) : twoB c d a b = twoB a b c d := by simp [twoB, Bool.and_comm]
theorem fr_sum_comm (a b c d : Int) : sumN c d a b = sumN a b c d ∧ sumE c d a b = sumE a b c d ∧ sumB c d a b = sumB a b c d := by
  have e1 : c * b + a * d = a * d + c * b := Int.add_comm _ _
  have e2 : d * b = b * d := Int.mul_comm _ _
  exact ⟨by unfold sumN sumOk; rw [two_comm a b c d, e1, e2], by unfold sumE sumOk; rw [two_comm a b c d, e1, e2], by unfold sumB sumOk; rw [two_comm a b c d, e1, e2]⟩
theorem fr_quot_back {a b c d : Int} (h : quotientB a b c d = true) : productB (quotientN a b c d) (quotientE a b c d) c d = true ∧
    productN (quotientN a b c d) (quotientE a b c d) c d = a ∧ productE (quotientN a b c d) (quotientE a b c d) c d = b := by
  obtain ⟨h2, hc0, hm, hN, hE⟩ := quot_parts h
  obtain ⟨ha, hc⟩ := two_parts h2
  have hf : fracB (quotientN a b c d) (quotientE a b c d) = true := by rw [hN, hE]; unfold mkN mkE; rw [if_pos hm, if_pos hm]; exact hm
  have hx := mk_cross hm
  rw [← hN, ← hE] at hx
  have d0 := frac_pos hc
  have e0 := frac_pos hf
  have hcross : quotientN a b c d * c * b = a * (quotientE a b c d * d) := by
    rw [Int.mul_assoc, Int.mul_comm c b, hx, Int.mul_assoc, Int.mul_comm d]
  have hne : quotientE a b c d * d ≠ 0 := Int.mul_ne_zero (by omega) (by omega)
  obtain ⟨k1, k2, k3⟩ := mk_of_eq hne ha hcross
  have h3 : productOk (quotientN a b c d) (quotientE a b c d) c d = true := by simp [productOk, twoB, hf, hc]
  exact ⟨by simp [productB, h3, k1], by unfold productN; rw [if_pos h3, k2], by unfold productE; rw [if_pos h3, k3]⟩
theorem sign_cross {x y E M : Int} (hE : 1 ≤ E) (hM : 1 ≤ M) (h : x * M = y * E) : x < 0 ↔ y < 0 := by
  constructor
  · intro hx
    have h1 : x * M < 0 := Int.mul_neg_of_neg_of_pos hx (by omega)
    rcases Int.lt_or_le y 0 with h2 | h2
    · exact h2
    · have := Int.mul_nonneg h2 (show 0 ≤ E by omega); omega
  · intro hy
    have h1 : y * E < 0 := Int.mul_neg_of_neg_of_pos hy (by omega)
    rcases Int.lt_or_le x 0 with h2 | h2
    · exact h2
    · have := Int.mul_nonneg h2 (show 0 ≤ M by omega); omega
theorem fr_less {a b c d : Int} (h1 : differenceB a b c d = true) : lessR a b c d = decide (differenceN a b c d < 0) := by
  simp only [differenceB, Bool.and_eq_true] at h1
  have h2 : twoB a b c d = true := h1.1
  obtain ⟨ha, hc⟩ := two_parts h2
  have b0 := frac_pos ha
  have d0 := frac_pos hc
  have hx := mk_cross h1.2
  have hN : differenceN a b c d = mkN (a * d - c * b) (b * d) := by unfold differenceN; rw [if_pos h1.1]
  have hE := mk_pos h1.2
  have hs := sign_cross hE (show 1 ≤ b * d from Int.le_trans (by decide) (Int.mul_le_mul b0 d0 (by omega) (by omega))) hx
  obtain ⟨⟨m0, m1⟩, ⟨m2, m3⟩, _⟩ := difference_bounds h2
  rw [hN]
  unfold lessR lessB
  rw [h2, Bool.true_and, IntWalk.wrap64_in _ (by omega), IntWalk.wrap64_in _ (by omega)]
  apply decide_eq_decide.2
  omega
theorem fof_parts {n d : Int} (h : fofB n d = true) : (d ≠ 0 ∧ -1000000000000000000 ≤ n ∧ n ≤ 1000000000000000000 ∧ -1000000000000000000 ≤ d ∧ d ≤ 1000000000000000000) ∧
    fracB (fofN n d) (fofE n d) = true ∧ absI (fofN n d) * gcdI n d = absI n ∧ fofE n d * gcdI n d = absI d ∧ 1 ≤ gcdI n d := by
  simp only [fofB, Bool.and_eq_true] at h
  have h1 := h.1
  simp only [fofOk, Bool.and_eq_true] at h1
  have hd : d ≠ 0 := by simpa using h1.1.1
  obtain ⟨n0, n1⟩ := inB_iff.1 h1.1.2
  obtain ⟨d0, d1⟩ := inB_iff.1 h1.2
  have hN : fofN n d = mkN n d := by unfold fofN; rw [if_pos h.1]
  have hE : fofE n d = mkE n d := by unfold fofE; rw [if_pos h.1]
  obtain ⟨k1, k2⟩ := mk_parts h.2
  have hg := gcdI_pos n d hd
  have hDa : absI (mkD n d) = gcdI n d := by
    unfold mkD
    split <;> (unfold absI; omega)
  have habs : ∀ x y : Int, absI (x * y) = absI x * absI y := fun x y => by unfold absI; rw [Int.natAbs_mul]; simp
  have hEp := mk_pos h.2
  refine ⟨⟨hd, n0, n1, d0, d1⟩, ?_, ?_, ?_, hg⟩
  · rw [hN, hE]; unfold mkN mkE; rw [if_pos h.2, if_pos h.2]; exact h.2
  · rw [hN, ← hDa, ← habs, k1]
  · rw [hE]
    have : mkE n d = absI (mkE n d) := by unfold absI; omega
    rw [this, ← hDa, ← habs, k2]
end Go.Proofs.Ytklhmaegpejdbaa
