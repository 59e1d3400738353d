/- Plain laws on products of digits. -/
import Derived.Test.YtfaglhhkcgjbnaaWhSum
namespace Go.Proofs.Ytfaglhhkcgjbnaa
open Go.RowKit
set_option linter.unusedVariables false
set_option linter.unusedSimpArgs false
theorem dig_mul {x v : Int} (hx : 0 ≤ x ∧ x ≤ 9999) (hv : 0 ≤ v ∧ v ≤ 9999) : 0 ≤ x * v ∧ x * v ≤ 99980001 := by
  refine ⟨Int.mul_nonneg hx.1 hv.1, ?_⟩
  have h1 : x * v ≤ 9999 * v := Int.mul_le_mul_of_nonneg_right hx.2 hv.1
  omega
theorem dv_take_dig (xs : List Int) (k : Nat) (h : k < xs.length) : dv (xs.take (k + 1)) = dv (xs.take k) + 10000 ^ k * dig xs k := by
  have hx := List.getElem?_eq_getElem h
  rw [dv_take_succ hx, dig_some hx]
/-- Behind i rounds. -/
def MulOut (xs ys ds : List Int) (n i : Nat) : Prop := ds.length = n ∧ Dig ds ∧ dv ds = dv (xs.take i) * dv ys
/-- Within a round: digits below k are reckoned, c is carried. -/
def MulIn (xs ys ds : List Int) (n i k : Nat) (x c : Int) : Prop := ds.length = n ∧ Dig ds ∧ 0 ≤ c ∧ c ≤ 9999 ∧ dv ds + c * 10000 ^ k = dv (xs.take i) * dv ys + x * 10000 ^ i * dv (ys.take (k - i))
theorem MulOut.start (xs ys : List Int) (n : Nat) : MulOut xs ys (List.replicate n 0) n 0 := ⟨List.length_replicate, Dig.zeros n, by simp [dv_zeros, dv]⟩
theorem MulIn.start {xs ys ds : List Int} {n i : Nat} (h : MulOut xs ys ds n i) (x : Int) : MulIn xs ys ds n i i x 0 := ⟨h.1, h.2.1, by omega, by omega, by rw [h.2.2]; simp [dv]⟩
theorem MulIn.next {xs ys ds : List Int} {n i k : Nat} {x c t : Int} (h : MulIn xs ys ds n i k x c) (hk : i ≤ k) (hn : k < n) (ht : t = dig ds k + c + if k - i < ys.length then x * dig ys (k - i) else 0) (h0 : 0 ≤ t) (h1 : t ≤ 99999999) :
    MulIn xs ys (ds.set k (t % 10000)) n i (k + 1) x (t / 10000) := by
  obtain ⟨a1, a2, a3, a4, a5⟩ := h
  have hx := List.getElem?_eq_getElem (show k < ds.length by omega)
  have hdig := dig_some hx
  refine ⟨by rw [List.length_set]; exact a1, a2.set k (by omega), by omega, by omega, ?_⟩
  rw [dv_set ds k _ _ hx, ← hdig]
  have e1 : (10000 : Int) ^ (k + 1) = 10000 ^ k * 10000 := Int.pow_succ ..
  have e2 : t / 10000 * (10000 ^ k * 10000) = (t / 10000 * 10000) * 10000 ^ k := by rw [Int.mul_comm ((10000 : Int) ^ k), ← Int.mul_assoc]
  have e3 : dv ds + (t % 10000 - dig ds k) * 10000 ^ k + t / 10000 * (10000 ^ k * 10000) = dv ds + c * 10000 ^ k + (t - dig ds k - c) * 10000 ^ k := by
    rw [e2, Int.add_assoc, ← Int.add_mul, Int.add_assoc, ← Int.add_mul]
    congr 2
    omega
  rw [e1, e3, a5]
  by_cases hv : k - i < ys.length
  · rw [if_pos hv] at ht
    rw [show k + 1 - i = (k - i) + 1 by omega, dv_take_dig ys (k - i) hv, Int.mul_add, Int.add_assoc]
    congr 2
    have e4 : (10000 : Int) ^ k = 10000 ^ i * 10000 ^ (k - i) := by rw [← Int.pow_add]; congr 1; omega
    rw [show t - dig ds k - c = x * dig ys (k - i) by omega, e4]
    rw [Int.mul_assoc x, Int.mul_assoc x]
    congr 1
    rw [Int.mul_comm (dig ys (k - i)), Int.mul_assoc]
  · rw [if_neg hv] at ht
    rw [show t - dig ds k - c = 0 by omega, List.take_of_length_le (show ys.length ≤ k - i by omega), List.take_of_length_le (show ys.length ≤ k + 1 - i by omega)]
    omega
theorem mul_lt_pow {xs ys : List Int} (hx : Dig xs) (hy : Dig ys) (i n : Nat) (hn : xs.length + ys.length ≤ n) : dv (xs.take i) * dv ys < 10000 ^ n := by
  have a := dv_lt (hx.take i)
  have b := dv_lt hy
  have c := pow_le_pow' (show (xs.take i).length ≤ xs.length by rw [List.length_take]; omega)
  have d := dv_nonneg (hx.take i)
  have e := dv_nonneg hy
  have f : dv (xs.take i) * dv ys < 10000 ^ xs.length * 10000 ^ ys.length := Int.mul_lt_mul' (by omega) b e (pow_pos' _)
  rw [← Int.pow_add] at f
  exact Int.lt_of_lt_of_le f (pow_le_pow' hn)
theorem MulIn.done {xs ys ds : List Int} {n i k : Nat} {x c : Int} (hX : Dig xs) (hY : Dig ys) (h : MulIn xs ys ds n i k x c) (hk : n ≤ k) (hi : i < xs.length) (hx : x = dig xs i) (hn : xs.length + ys.length ≤ n) : MulOut xs ys ds n (i + 1) := by
  obtain ⟨a1, a2, a3, a4, a5⟩ := h
  have e1 : dv (xs.take i) * dv ys + x * 10000 ^ i * dv (ys.take (k - i)) = dv (xs.take (i + 1)) * dv ys := by
    rw [List.take_of_length_le (show ys.length ≤ k - i by omega), dv_take_dig xs i hi, Int.add_mul, hx, Int.mul_comm (dig xs i)]
  rw [e1] at a5
  have h1 := mul_lt_pow hX hY (i + 1) n hn
  have h2 := dv_nonneg a2
  have h3 := pow_le_pow' hk
  have hp := pow_pos' k
  have h4 : c = 0 := by
    refine Classical.byContradiction fun h => ?_
    have h5 : 1 * (10000 : Int) ^ k ≤ c * 10000 ^ k := Int.mul_le_mul_of_nonneg_right (by omega) (by omega)
    omega
  rw [h4] at a5
  exact ⟨a1, a2, by omega⟩
theorem MulOut.done {xs ys ds : List Int} {n i : Nat} (h : MulOut xs ys ds n i) (hi : xs.length ≤ i) : Dig ds ∧ ds.length = n ∧ dv ds = dv xs * dv ys := by
  obtain ⟨a1, a2, a3⟩ := h
  rw [List.take_of_length_le hi] at a3
  exact ⟨a2, a1, a3⟩
theorem mul_signed (y z : Int) {ds : List Int} (h : dv ds = dv (wlimbs y) * dv (wlimbs z)) : y * z = if (wneg y != wneg z) then - dv ds else dv ds := by
  rw [h, dv_wlimbs, dv_wlimbs]
  by_cases h1 : y < 0
  · by_cases h2 : z < 0
    · rw [wneg_true h1, wneg_true h2, show (y.natAbs : Int) = -y by omega, show (z.natAbs : Int) = -z by omega]
      simp [Int.neg_mul_neg]
    · rw [wneg_true h1, wneg_false h2, show (y.natAbs : Int) = -y by omega, show (z.natAbs : Int) = z by omega]
      simp [Int.neg_mul]
  · by_cases h2 : z < 0
    · rw [wneg_false h1, wneg_true h2, show (y.natAbs : Int) = y by omega, show (z.natAbs : Int) = -z by omega]
      simp [Int.mul_neg]
    · rw [wneg_false h1, wneg_false h2, show (y.natAbs : Int) = y by omega, show (z.natAbs : Int) = z by omega]
      simp
end Go.Proofs.Ytfaglhhkcgjbnaa
