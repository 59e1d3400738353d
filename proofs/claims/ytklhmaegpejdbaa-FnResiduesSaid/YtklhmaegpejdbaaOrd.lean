/- Contracts of impl.orderOf and spec.mdOrder: the order of a residue that is not 0, modulo a prime up to 997. -/
import Derived.Test.YtklhmaegpejdbaaRes
import Derived.Test.YtklhmaegpejdbaaNumBig
namespace Go.Proofs.Ytklhmaegpejdbaa
open Go.RowKit
set_option linter.unusedVariables false
set_option linter.unusedSimpArgs false
def ordI (a p : Int) : Int := ((ordN (a % p).toNat p.toNat : Nat) : Int)
/-- What is known of a residue A that is not 0 modulo a prime P. -/
structure UnitOf (a p : Int) (A P : Nat) : Prop where
  ha : a % p = (A : Int)
  hp : p = (P : Int)
  pos : 1 ≤ A
  lt : A < P
  two : 2 ≤ P
  most : P ≤ 997
  prime : primeN P = true
  one : A ^ (P - 1) % P = 1
theorem unitOf {a p : Int} (hp : primeB p = true) (hn : a % p ≠ 0) : ∃ A P, UnitOf a p A P := by
  have hr := primeB_range hp
  obtain ⟨P, rfl⟩ := Int.eq_ofNat_of_zero_le (show 0 ≤ p by omega)
  obtain ⟨A, hA⟩ := Int.eq_ofNat_of_zero_le (Int.emod_nonneg a (show (P : Int) ≠ 0 by omega))
  have hA2 := Int.emod_lt_of_pos a (show (0 : Int) < P by omega)
  obtain ⟨h1, h2, h3⟩ := primeN_of hp
  exact ⟨A, P, hA, rfl, by omega, by omega, by omega, by omega, h1, fermat h1 h3 (by omega) (by omega)⟩

set_option maxHeartbeats 1000000 in
theorem orderOf_any (a p : Int) (hp : primeB p = true) (hn : a % p ≠ 0) (w : World) :
    Calls Try.prog 84 #[.int .i64 a, .int .i64 p] w fun e w' => e = .returned (.int .i64 (ordI a p)) ∧ w = w' := by
  obtain ⟨A, P, U⟩ := unitOf hp hn
  obtain ⟨hA, rfl, u1, u2, u3, u4, u5, u6⟩ := U
  have HP := Lib.hid (show ordI a P = ((ordN A P : Nat) : Int) by simp [ordI, hA])
  have HM : Hid (∀ w : World, Calls Try.prog 83 #[.int .i64 a, .int .i64 P] w fun e w' => e = .returned (.int .i64 (A : Int)) ∧ w = w') := fun w => by
    rw [← hA]; exact modulo_any a P (by omega) (by omega) w
  have U6 := Lib.hid u6
  have U5 := Lib.hid u5
  have hz : ((P : Int) == 0) = false := by simp; omega
  clear hA hp hn u6 u5
  go_enter Try.func84, Try.ntmps84
  go_wp2_with (go_at_call 83; refine (HM.out _).mono ?_; rintro e w' ⟨rfl, rfl⟩)
  go_loop [5, 6] (fun n x => ∃ k y : Nat, 1 ≤ k ∧ k ≤ P - 1 ∧ y < P ∧ n = .int .i64 k ∧ x = .int .i64 y ∧ Hid (y = A ^ k % P) ∧ Hid (∀ m, 1 ≤ m → m < k → A ^ m % P ≠ 1)) (fun n _ => P - (intOf n).toNat)
  case atStart => exact ⟨1, A, by omega, by omega, u2, rfl, rfl, by show A = A ^ 1 % P; rw [Nat.pow_one, Nat.mod_eq_of_lt u2], fun m h1 h2 => absurd h2 (by omega)⟩
  case round =>
    obtain ⟨k, y, hk, hk2, hy, rfl, rfl, H, HB⟩ := hrel
    obtain ⟨b1, b2⟩ := (show (y : Int) * (A : Int) ≤ 992016 ∧ 0 ≤ (y : Int) * (A : Int) by
      have : y * A ≤ 996 * 996 := Nat.mul_le_mul (by omega) (by omega)
      have e : ((y * A : Nat) : Int) = (y : Int) * (A : Int) := Int.natCast_mul y A
      omega)
    by_cases h1 : y = 1
    · have HO := Lib.hid (show k = ordN A P from ordN_unique u3 U6.out hk (by rw [← H.out, h1]) HB.out)
      have hb : ((y : Int) != 1) = false := by simp [h1]
      clear h1
      go_wp2
      go_ret
      exact ⟨ret_int (by rw [HP.out, ← HO.out]), rfl⟩
    · have hb : ((y : Int) != 1) = true := by simp; omega
      have hlt : k < P - 1 := by
        rcases Nat.lt_or_ge k (P - 1) with h2 | h2
        · exact h2
        · exact absurd (by rw [H.out, show k = P - 1 by omega, U6.out]) h1
      have HB2 : Hid (∀ m, 1 ≤ m → m < k + 1 → A ^ m % P ≠ 1) := fun m h2 h3 => by
        rcases Nat.lt_or_ge m k with h4 | h4
        · exact HB.out m h2 h4
        · obtain rfl : m = k := by omega
          exact fun h5 => h1 (by rw [H.out, h5])
      have HN := Lib.hid (show y * A % P = A ^ (k + 1) % P by rw [H.out, pow_next])
      have m1 : y * A % P < P := Nat.mod_lt _ (by omega)
      clear h1
      go_wp2_with (go_at_call 83; refine (HM.out _).mono ?_; rintro e w' ⟨rfl, rfl⟩)
      go_round
      case rel => exact ⟨k + 1, y * A % P, by omega, by omega, m1, by go_num, by simp, HN, HB2⟩
      case measure => simp [intOf]; omega

set_option maxHeartbeats 1000000 in
theorem mdOrder_any (a p : Int) (hp : primeB p = true) (hn : a % p ≠ 0) (w : World) :
    Calls Try.prog 85 #[.int .i64 a, .int .i64 p] w fun e w' => e = .returned (.int .i64 (ordI a p)) ∧ w = w' := by
  obtain ⟨A, P, U⟩ := unitOf hp hn
  obtain ⟨hA, rfl, u1, u2, u3, u4, u5, u6⟩ := U
  have HP := Lib.hid (show ordI a P = ((ordN A P : Nat) : Int) by simp [ordI, hA])
  have HM : Hid (∀ w : World, Calls Try.prog 81 #[.int .i64 a, .int .i64 P] w fun e w' => e = .returned (.int .i64 (A : Int)) ∧ w = w') := fun w => by
    rw [← hA]; exact mdMod_any a P (by omega) (by omega) w
  have U6 := Lib.hid u6
  have U5 := Lib.hid u5
  have hz : ((P : Int) == 0) = false := by simp; omega
  clear hA hp hn u6 u5
  go_enter Try.func85, Try.ntmps85
  go_wp2_with (go_at_call 81; refine (HM.out _).mono ?_; rintro e w' ⟨rfl, rfl⟩)
  go_loop [5, 6] (fun n x => ∃ k y : Nat, 1 ≤ k ∧ k ≤ P - 1 ∧ y < P ∧ n = .int .i64 k ∧ x = .int .i64 y ∧ Hid (y = A ^ k % P) ∧ Hid (∀ m, 1 ≤ m → m < k → A ^ m % P ≠ 1)) (fun n _ => P - (intOf n).toNat)
  case atStart => exact ⟨1, A, by omega, by omega, u2, rfl, rfl, by show A = A ^ 1 % P; rw [Nat.pow_one, Nat.mod_eq_of_lt u2], fun m h1 h2 => absurd h2 (by omega)⟩
  case round =>
    obtain ⟨k, y, hk, hk2, hy, rfl, rfl, H, HB⟩ := hrel
    obtain ⟨b1, b2⟩ := (show (y : Int) * (A : Int) ≤ 992016 ∧ 0 ≤ (y : Int) * (A : Int) by
      have : y * A ≤ 996 * 996 := Nat.mul_le_mul (by omega) (by omega)
      have e : ((y * A : Nat) : Int) = (y : Int) * (A : Int) := Int.natCast_mul y A
      omega)
    by_cases h1 : y = 1
    · have HO := Lib.hid (show k = ordN A P from ordN_unique u3 U6.out hk (by rw [← H.out, h1]) HB.out)
      have hb : ((y : Int) != 1) = false := by simp [h1]
      clear h1
      go_wp2
      go_ret
      exact ⟨ret_int (by rw [HP.out, ← HO.out]), rfl⟩
    · have hb : ((y : Int) != 1) = true := by simp; omega
      have hlt : k < P - 1 := by
        rcases Nat.lt_or_ge k (P - 1) with h2 | h2
        · exact h2
        · exact absurd (by rw [H.out, show k = P - 1 by omega, U6.out]) h1
      have HB2 : Hid (∀ m, 1 ≤ m → m < k + 1 → A ^ m % P ≠ 1) := fun m h2 h3 => by
        rcases Nat.lt_or_ge m k with h4 | h4
        · exact HB.out m h2 h4
        · obtain rfl : m = k := by omega
          exact fun h5 => h1 (by rw [H.out, h5])
      have HN := Lib.hid (show y * A % P = A ^ (k + 1) % P by rw [H.out, pow_next])
      have m1 : y * A % P < P := Nat.mod_lt _ (by omega)
      clear h1
      go_wp2_with (go_at_call 81; refine (HM.out _).mono ?_; rintro e w' ⟨rfl, rfl⟩)
      go_round
      case rel => exact ⟨k + 1, y * A % P, by omega, by omega, m1, by go_num, by simp, HN, HB2⟩
      case measure => simp [intOf]; omega
end Go.Proofs.Ytklhmaegpejdbaa
