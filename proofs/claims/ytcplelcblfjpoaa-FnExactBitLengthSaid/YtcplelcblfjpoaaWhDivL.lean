/- Plain laws on quotients of digits. -/
import Derived.Test.YtcplelcblfjpoaaWhSub
namespace Go.Proofs.Ytcplelcblfjpoaa
open Go.RowKit
set_option linter.unusedVariables false
set_option linter.unusedSimpArgs false
def divZ (z n : Int) : Int := z / n
def modZ (z n : Int) : Int := z % n
/-- From digit k on the quotient's digits are reckoned; r is left. -/
def DivInv (xs qs : List Int) (n : Int) (k : Nat) (r : Int) : Prop := k + qs.length = xs.length ∧ Dig qs ∧ dv qs * n + r = dv (xs.drop k) ∧ 0 ≤ r ∧ r < n
theorem DivInv.start (xs : List Int) {n : Int} (hn : 0 < n) : DivInv xs [] n xs.length 0 := ⟨rfl, Dig.nil, by simp [dv], by omega, hn⟩
theorem DivInv.next {xs qs : List Int} {n r t : Int} {k : Nat} (h : DivInv xs qs n (k + 1) r) (ht : t = r * 10000 + dig xs k) (hd : 0 ≤ dig xs k ∧ dig xs k ≤ 9999) : DivInv xs (t / n :: qs) n k (t % n) := by
  obtain ⟨a1, a2, a3, a4, a5⟩ := h
  have hn : 0 < n := by omega
  have q0 : 0 ≤ t / n := Int.ediv_nonneg (by omega) (by omega)
  have q1 : t / n < 10000 := Int.ediv_lt_of_lt_mul hn (by omega)
  refine ⟨by rw [List.length_cons]; omega, Dig.cons (by omega) a2, ?_, Int.emod_nonneg _ (by omega), Int.emod_lt_of_pos _ hn⟩
  rw [dv_dropd (xs := xs) k, ← a3, dv, Int.add_mul]
  have e := Int.emod_add_mul_ediv t n
  rw [Int.mul_comm n] at e
  rw [Int.mul_assoc, Int.mul_add]
  omega
theorem DivInv.done {xs qs : List Int} {n r : Int} (h : DivInv xs qs n 0 r) : Dig qs ∧ qs.length = xs.length ∧ dv qs * n + r = dv xs ∧ 0 ≤ r ∧ r < n := by
  obtain ⟨a1, a2, a3, a4, a5⟩ := h
  exact ⟨a2, by omega, a3, a4, a5⟩
theorem set_front {qs : List Int} {k : Nat} {d : Int} : (List.replicate (k + 1) 0 ++ qs).set k d = List.replicate k 0 ++ (d :: qs) := by
  rw [List.replicate_succ', List.append_assoc, List.set_append_right _ _ (by simp), List.length_replicate, Nat.sub_self]
  rfl
theorem at_front {qs : List Int} {k : Nat} : (List.replicate (k + 1) (0 : Int) ++ qs)[k]? = some 0 := by
  rw [List.getElem?_append_left (by simp), List.getElem?_replicate, if_pos (by omega)]
theorem div_of {z n q r : Int} (hn : 0 < n) (h : r + n * q = z) (h0 : 0 ≤ r) (h1 : r < n) : divZ z n = q ∧ modZ z n = r := (Int.ediv_emod_unique hn).2 ⟨h, h0, h1⟩
theorem div_pos' {z n Q r : Int} (hn : 0 < n) (hz : ¬ z < 0) (h : Q * n + r = (z.natAbs : Int)) (h0 : 0 ≤ r) (h1 : r < n) : divZ z n = Q ∧ modZ z n = r :=
  div_of hn (by rw [Int.mul_comm]; omega) h0 h1
theorem div_neg0 {z n Q r : Int} (hn : 0 < n) (hz : z < 0) (h : Q * n + r = (z.natAbs : Int)) (h0 : r = 0) : divZ z n = -Q ∧ modZ z n = 0 :=
  div_of hn (by rw [Int.mul_neg, Int.mul_comm]; omega) (by omega) hn
theorem div_neg1 {z n Q r : Int} (hn : 0 < n) (hz : z < 0) (h : Q * n + r = (z.natAbs : Int)) (h0 : 0 < r) (h1 : r < n) : divZ z n = -Q - 1 ∧ modZ z n = n - r :=
  div_of hn (by rw [Int.mul_sub, Int.mul_neg, Int.mul_comm, Int.mul_one]; omega) (by omega) (by omega)
theorem zq_len {neg : Bool} {ds : List Int} (h : Dig ds) {z : Int} (hz : z = if neg then - dv ds else dv ds) : (wlimbs z).length ≤ ds.length := by
  rw [(signed_neg h hz).2]; exact digs_length_le h
theorem div_len {z n : Int} (hn : 0 < n) : (wlimbs (divZ z n)).length ≤ (wlimbs z).length := by
  refine wlen_le_of_le ?_
  unfold divZ
  by_cases h : z < 0
  · have h1 : z / n < 0 := Int.ediv_neg_of_neg_of_pos h hn
    have h2 : z ≤ z / n := by
      refine Int.le_ediv_of_mul_le hn ?_
      have : z * n ≤ z * 1 := Int.mul_le_mul_of_nonpos_left (by omega) (by omega)
      omega
    omega
  · have h1 : 0 ≤ z / n := Int.ediv_nonneg (by omega) (by omega)
    have h2 : z / n ≤ z := Int.ediv_le_self _ (by omega)
    omega
end Go.Proofs.Ytcplelcblfjpoaa
