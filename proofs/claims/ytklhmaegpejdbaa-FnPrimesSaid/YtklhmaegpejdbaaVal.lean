/- Contracts of impl.valuation and spec.mdValuation: how often p divides a number that is not 0. -/
import Derived.Test.YtklhmaegpejdbaaNum
namespace Go.Proofs.Ytklhmaegpejdbaa
open Go.RowKit
set_option linter.unusedVariables false
set_option linter.unusedSimpArgs false
def valI (a p : Int) : Int := ((valN p.toNat a.natAbs : Nat) : Int)
theorem tmod_natAbs (x : Int) (P : Nat) : (x.tmod P == 0) = (x.natAbs % P == 0) := by
  rw [Bool.eq_iff_iff, beq_iff_eq, beq_iff_eq]
  have h := Int.natAbs_tmod x P
  rw [Int.natAbs_natCast] at h
  omega
theorem tdiv_natAbs (x : Int) (P : Nat) : (x.tdiv P).natAbs = x.natAbs / P := by
  have h := Int.natAbs_tdiv x P
  rw [Int.natAbs_natCast] at h
  exact h
theorem valI_le (P x : Nat) (hP : 2 ≤ P) (f : Nat) : 2 ^ valF P f x ≤ x ∨ x = 0 := by
  induction f generalizing x with
  | zero => simp [valF]; omega
  | succ f ih =>
    unfold valF
    by_cases h : x % P = 0
    · rw [if_pos h]
      rcases Nat.eq_zero_or_pos x with h0 | h0
      · exact .inr h0
      · left
        have h1 : P * (x / P) = x := Nat.mul_div_cancel' (Nat.dvd_of_mod_eq_zero h)
        rcases ih (x / P) with h2 | h2
        · rw [Nat.pow_succ]
          calc 2 ^ valF P f (x / P) * 2 ≤ (x / P) * P := Nat.mul_le_mul h2 hP
            _ = x := by rw [Nat.mul_comm]; exact h1
        · rw [h2] at h1; omega
    · rw [if_neg h]; simp; omega

set_option maxHeartbeats 1000000 in
theorem valuation_any (a p : Int) (ha : a ≠ 0) (h0 : -1000000000000 ≤ a) (h1 : a ≤ 1000000000000) (hp : 2 ≤ p ∧ p ≤ 1000000000000) (w : World) :
    Calls Try.prog 104 #[.int .i64 a, .int .i64 p] w fun e w' => e = .returned (.int .i64 (valI a p)) ∧ w = w' := by
  obtain ⟨hp0, hp1⟩ := hp
  obtain ⟨P, rfl⟩ := Int.eq_ofNat_of_zero_le (show 0 ≤ p by omega)
  have HV := Lib.hid (show valI a P = ((valN P a.natAbs : Nat) : Int) by simp [valI])
  have hz : ((P : Int) == 0) = false := by simp; omega
  go_enter Try.func104, Try.ntmps104
  go_wp2
  go_loop [0, 5] (fun x n => ∃ (y : Int) (k : Nat), -1000000000000 ≤ y ∧ y ≤ 1000000000000 ∧ 1 ≤ y.natAbs ∧ k + y.natAbs ≤ 1000000000000 ∧ x = .int .i64 y ∧ n = .int .i64 k ∧ Hid (k + valN P y.natAbs = valN P a.natAbs)) (fun x _ => (intOf x).natAbs)
  case atStart => exact ⟨a, 0, h0, h1, by omega, by omega, rfl, rfl, Nat.zero_add _⟩
  case round =>
    obtain ⟨y, k, hy0, hy1, hy2, hk, rfl, rfl, H⟩ := hrel
    have ht := tmod_natAbs y P
    by_cases hd : y.natAbs % P = 0
    · obtain ⟨v1, v2, v3⟩ := valN_div (show 2 ≤ P by omega) hy2 hd
      have hq := tdiv_natAbs y P
      rw [← hq] at v1 v2 v3
      have HN := Lib.hid (show (k + 1) + valN P (y.tdiv P).natAbs = valN P a.natAbs by rw [← H.out, v1]; omega)
      have b1 : -1000000000000 ≤ y.tdiv P := by omega
      have b2 : y.tdiv P ≤ 1000000000000 := by omega
      have ht2 : (y.tmod P == 0) = true := by rw [ht]; simp [hd]
      have M := Lib.hid v3
      have b3 : k ≤ 1000000000000 := by omega
      clear ht hd hq v1
      go_wp2
      go_round
      case rel => exact ⟨y.tdiv P, k + 1, b1, b2, v2, by omega, rfl, by go_num, HN⟩
      case measure => simp only [intOf]; exact M.out
    · have HN := Lib.hid (show ((k : Nat) : Int) = valI a P by rw [HV.out, ← H.out, valN_not hy2 hd]; simp)
      have ht2 : (y.tmod P == 0) = false := by rw [ht]; simp [hd]
      clear ht hd
      go_wp2
      go_ret
      exact ⟨ret_int HN.out, rfl⟩

set_option maxHeartbeats 1000000 in
theorem mdValuation_any (a p : Int) (ha : a ≠ 0) (h0 : -1000000000000 ≤ a) (h1 : a ≤ 1000000000000) (hp : 2 ≤ p ∧ p ≤ 1000000000000) (w : World) :
    Calls Try.prog 108 #[.int .i64 a, .int .i64 p] w fun e w' => e = .returned (.int .i64 (valI a p)) ∧ w = w' := by
  obtain ⟨hp0, hp1⟩ := hp
  obtain ⟨P, rfl⟩ := Int.eq_ofNat_of_zero_le (show 0 ≤ p by omega)
  have HV := Lib.hid (show valI a P = ((valN P a.natAbs : Nat) : Int) by simp [valI])
  have hz : ((P : Int) == 0) = false := by simp; omega
  go_enter Try.func108, Try.ntmps108
  go_wp2
  go_loop [0, 5] (fun x n => ∃ (y : Int) (k : Nat), -1000000000000 ≤ y ∧ y ≤ 1000000000000 ∧ 1 ≤ y.natAbs ∧ k + y.natAbs ≤ 1000000000000 ∧ x = .int .i64 y ∧ n = .int .i64 k ∧ Hid (k + valN P y.natAbs = valN P a.natAbs)) (fun x _ => (intOf x).natAbs)
  case atStart => exact ⟨a, 0, h0, h1, by omega, by omega, rfl, rfl, Nat.zero_add _⟩
  case round =>
    obtain ⟨y, k, hy0, hy1, hy2, hk, rfl, rfl, H⟩ := hrel
    have ht := tmod_natAbs y P
    by_cases hd : y.natAbs % P = 0
    · obtain ⟨v1, v2, v3⟩ := valN_div (show 2 ≤ P by omega) hy2 hd
      have hq := tdiv_natAbs y P
      rw [← hq] at v1 v2 v3
      have HN := Lib.hid (show (k + 1) + valN P (y.tdiv P).natAbs = valN P a.natAbs by rw [← H.out, v1]; omega)
      have b1 : -1000000000000 ≤ y.tdiv P := by omega
      have b2 : y.tdiv P ≤ 1000000000000 := by omega
      have ht2 : (y.tmod P == 0) = true := by rw [ht]; simp [hd]
      have M := Lib.hid v3
      have b3 : k ≤ 1000000000000 := by omega
      clear ht hd hq v1
      go_wp2
      go_round
      case rel => exact ⟨y.tdiv P, k + 1, b1, b2, v2, by omega, rfl, by go_num, HN⟩
      case measure => simp only [intOf]; exact M.out
    · have HN := Lib.hid (show ((k : Nat) : Int) = valI a P by rw [HV.out, ← H.out, valN_not hy2 hd]; simp)
      have ht2 : (y.tmod P == 0) = false := by rw [ht]; simp [hd]
      clear ht hd
      go_wp2
      go_ret
      exact ⟨ret_int HN.out, rfl⟩
end Go.Proofs.Ytklhmaegpejdbaa
