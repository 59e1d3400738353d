/- Contracts of impl.power and spec.mdPower, for primes up to 997 (any p from 2 to 997) and exponents up to 1000000000. -/
import Derived.Test.YtklhmaegpejdbaaRes
import Derived.Test.YtklhmaegpejdbaaNum
namespace Go.Proofs.Ytklhmaegpejdbaa
open Go.RowKit
set_option linter.unusedVariables false
set_option linter.unusedSimpArgs false
/-- a to the power n, modulo p, as numbers of int. -/
def powI (a n p : Int) : Int := (((a % p).toNat ^ n.toNat % p.toNat : Nat) : Int)

theorem prod_bound {x y : Nat} (hx : x ≤ 996) (hy : y ≤ 996) : (x : Int) * (y : Int) ≤ 992016 ∧ 0 ≤ (x : Int) * (y : Int) := by
  have : x * y ≤ 996 * 996 := Nat.mul_le_mul hx hy
  have e : ((x * y : Nat) : Int) = (x : Int) * (y : Int) := Int.natCast_mul x y
  omega

set_option maxHeartbeats 1000000 in
theorem mdPower_nat (a : Int) (k0 P : Nat) (hP : 2 ≤ P) (hP2 : P ≤ 997) (hk0 : k0 ≤ 1000000000) (w : World) :
    Calls Try.prog 96 #[.int .i64 a, .int .i64 k0, .int .i64 P] w fun e w' => e = .returned (.int .i64 (powI a k0 P)) ∧ w = w' := by
  obtain ⟨A, hA⟩ : ∃ A : Nat, a % (P : Int) = (A : Int) := Int.eq_ofNat_of_zero_le (Int.emod_nonneg a (by omega))
  have hA2 : A < P := by have := Int.emod_lt_of_pos a (show (0 : Int) < P by omega); omega
  have HP := Lib.hid (show powI a k0 P = ((A ^ k0 % P : Nat) : Int) by simp [powI, hA])
  have HA := Lib.hid hA
  clear hA
  go_enter Try.func96, Try.ntmps96
  go_wp2_with (go_at_call 81; refine (mdMod_any _ _ (by omega) (by omega) _).mono ?_; rintro e w' ⟨rfl, rfl⟩; rw [HA.out])
  go_loop [1, 7, 8] (fun n o b => ∃ k x y : Nat, k ≤ 1000000000 ∧ x < P ∧ y < P ∧ n = .int .i64 k ∧ o = .int .i64 x ∧ b = .int .i64 y ∧ Hid (x * y ^ k % P = A ^ k0 % P)) (fun n _ _ => (intOf n).toNat)
  case atStart => exact ⟨k0, 1, A, hk0, by omega, hA2, rfl, rfl, rfl, by show 1 * A ^ k0 % P = _; rw [Nat.one_mul]⟩
  case round =>
    obtain ⟨k, x, y, hk, hx, hy, rfl, rfl, rfl, H⟩ := hrel
    obtain ⟨b1, b2⟩ := prod_bound (show x ≤ 996 by omega) (show y ≤ 996 by omega)
    obtain ⟨b3, b4⟩ := prod_bound (show y ≤ 996 by omega) (show y ≤ 996 by omega)
    have hz : ((P : Int) == 0) = false := by simp; omega
    by_cases h0 : 0 < k
    · by_cases ho : k % 2 = 1
      · have h1 : ((k : Int) % 2 == 1) = true := by simp; omega
        have HO := Lib.hid (pow_odd x y k P ho)
        have m1 : x * y % P < P := Nat.mod_lt _ (by omega)
        have m2 : y * y % P < P := Nat.mod_lt _ (by omega)
        clear ho
        go_wp2
        go_round
        case rel => exact ⟨k / 2, x * y % P, y * y % P, by omega, m1, m2, by go_num, by simp, by simp, HO.out.trans H.out⟩
        case measure => simp [intOf]; omega
      · have h1 : ((k : Int) % 2 == 1) = false := by simp; omega
        have HO := Lib.hid (pow_even x y k P ho)
        have m2 : y * y % P < P := Nat.mod_lt _ (by omega)
        clear ho
        go_wp2
        go_round
        case rel => exact ⟨k / 2, x, y * y % P, by omega, hx, m2, by go_num, rfl, by simp, HO.out.trans H.out⟩
        case measure => simp [intOf]; omega
    · obtain rfl : k = 0 := by omega
      have HE := Lib.hid (show ((x % P : Nat) : Int) = powI a k0 P by rw [HP.out, ← H.out]; simp)
      go_wp2
      go_ret
      exact ⟨ret_int (by rw [← HE.out]; simp), rfl⟩
theorem mdPower_any (a n p : Int) (hp : 2 ≤ p ∧ p ≤ 997) (hn : 0 ≤ n ∧ n ≤ 1000000000) (w : World) :
    Calls Try.prog 96 #[.int .i64 a, .int .i64 n, .int .i64 p] w fun e w' => e = .returned (.int .i64 (powI a n p)) ∧ w = w' := by
  obtain ⟨k0, rfl⟩ := Int.eq_ofNat_of_zero_le hn.1
  obtain ⟨P, rfl⟩ := Int.eq_ofNat_of_zero_le (show 0 ≤ p by omega)
  exact mdPower_nat a k0 P (by omega) (by omega) (by omega) w

set_option maxHeartbeats 1000000 in
theorem power_nat (a : Int) (k0 P : Nat) (hP : 2 ≤ P) (hP2 : P ≤ 997) (hk0 : k0 ≤ 1000000000) (w : World) :
    Calls Try.prog 90 #[.int .i64 a, .int .i64 k0, .int .i64 P] w fun e w' => e = .returned (.int .i64 (powI a k0 P)) ∧ ∃ m, w' = w.drewN m := by
  obtain ⟨A, hA⟩ : ∃ A : Nat, a % (P : Int) = (A : Int) := Int.eq_ofNat_of_zero_le (Int.emod_nonneg a (by omega))
  have hA2 : A < P := by have := Int.emod_lt_of_pos a (show (0 : Int) < P by omega); omega
  have HP := Lib.hid (show powI a k0 P = ((A ^ k0 % P : Nat) : Int) by simp [powI, hA])
  have HM : Hid (∀ w : World, Calls Try.prog 83 #[.int .i64 a, .int .i64 P] w fun e w' => e = .returned (.int .i64 (A : Int)) ∧ w = w') := fun w => by
    rw [← hA]; exact modulo_any a P (by omega) (by omega) w
  have h1p : (1 : Int) % (P : Int) = 1 := by exact Int.emod_eq_of_lt (by omega) (by omega)
  have hz : ((P : Int) == 0) = false := by simp; omega
  clear hA
  go_enter Try.func90, Try.ntmps90
  go_wp2_with fail
  go_quiet ((go_at_call 83; exact quietG (HM.out _) ⟨_, rfl⟩))
  go_wp2
  go_loopw [1, 7, 8] (fun n o b wr => ∃ k x y : Nat, k ≤ 1000000000 ∧ x < P ∧ y < P ∧ n = .int .i64 k ∧ o = .int .i64 x ∧ b = .int .i64 y ∧ Hid (x * y ^ k % P = A ^ k0 % P) ∧ ∃ m, wr = w.drewN m) (fun n _ _ _ => (intOf n).toNat)
  case atStart => exact ⟨k0, 1, A, hk0, by omega, hA2, rfl, (by rw [h1p]; rfl), rfl, (by show 1 * A ^ k0 % P = _; rw [Nat.one_mul]), _, rfl⟩
  case round =>
    obtain ⟨k, x, y, hk, hx, hy, rfl, rfl, rfl, H, m, rfl⟩ := hrel
    obtain ⟨b1, b2⟩ := prod_bound (show x ≤ 996 by omega) (show y ≤ 996 by omega)
    obtain ⟨b3, b4⟩ := prod_bound (show y ≤ 996 by omega) (show y ≤ 996 by omega)
    by_cases h0 : 0 < k
    · by_cases ho : k % 2 = 1
      · have h1 : ((k : Int) % 2 == 1) = true := by simp; omega
        have HO := Lib.hid (pow_odd x y k P ho)
        have m1 : x * y % P < P := Nat.mod_lt _ (by omega)
        have m2 : y * y % P < P := Nat.mod_lt _ (by omega)
        clear ho
        go_wp2
        go_roundw
        case rel => exact ⟨k / 2, x * y % P, y * y % P, by omega, m1, m2, by go_num, by simp, by simp, HO.out.trans H.out, _, rfl⟩
        case measure => simp [intOf]; omega
      · have h1 : ((k : Int) % 2 == 1) = false := by simp; omega
        have HO := Lib.hid (pow_even x y k P ho)
        have m2 : y * y % P < P := Nat.mod_lt _ (by omega)
        clear ho
        go_wp2
        go_roundw
        case rel => exact ⟨k / 2, x, y * y % P, by omega, hx, m2, by go_num, rfl, by simp, HO.out.trans H.out, _, rfl⟩
        case measure => simp [intOf]; omega
    · obtain rfl : k = 0 := by omega
      have HE := Lib.hid (show (x : Int) = powI a k0 P by rw [HP.out, ← H.out]; simp; rw [Int.emod_eq_of_lt (by omega) (by omega)])
      go_wp2
      go_ret
      exact ⟨ret_int HE.out, _, rfl⟩
theorem power_quiet (a n p : Int) (hp : 2 ≤ p ∧ p ≤ 997) (hn : 0 ≤ n ∧ n ≤ 1000000000) (w : World) :
    Calls Try.prog 90 #[.int .i64 a, .int .i64 n, .int .i64 p] w fun e w' => e = .returned (.int .i64 (powI a n p)) ∧ ∃ m, w' = w.drewN m := by
  obtain ⟨k0, rfl⟩ := Int.eq_ofNat_of_zero_le hn.1
  obtain ⟨P, rfl⟩ := Int.eq_ofNat_of_zero_le (show 0 ≤ p by omega)
  exact power_nat a k0 P (by omega) (by omega) (by omega) w
theorem power_any (a n p : Int) (hp : 2 ≤ p ∧ p ≤ 997) (hn : 0 ≤ n ∧ n ≤ 1000000000) (w : World) :
    Calls Try.prog 90 #[.int .i64 a, .int .i64 n, .int .i64 p] w fun e w' => e = .returned (.int .i64 (powI a n p)) ∧ Below w.heap.size w w' :=
  (power_quiet a n p hp hn w).mono fun _ _ ⟨he, m, hm⟩ => ⟨he, hm ▸ below_drewN (Below.refl _ _) m⟩
end Go.Proofs.Ytklhmaegpejdbaa
