/- impl.PrimitiveRoot and spec.PrimitiveRoot; the walk of FnExactPrimitiveRoot. -/
import Derived.Test.YtklhmaegpejdbaaOrd
import Derived.Test.YtklhmaegpejdbaaNumPrim
namespace Go.Proofs.Ytklhmaegpejdbaa
open Go.RowKit
set_option linter.unusedVariables false
set_option linter.unusedSimpArgs false
def primI (p : Int) : Int := if primeB p = true then ((primR p.toNat : Nat) : Int) else 0
theorem ordI_nat {k P : Nat} (h : k < P) : ordI k P = ((ordN k P : Nat) : Int) := by
  unfold ordI
  rw [Int.emod_eq_of_lt (by omega) (by omega)]
  simp
set_option maxHeartbeats 1000000 in
theorem implPrimitiveRoot_any (p : Int) (w : World) :
    Calls Try.prog 52 #[.int .i64 p] w fun e w' => e = .returned (.tuple #[.int .i64 (primI p), .bool (primeB p)]) ∧ w = w' := by
  have hf : fitsB 1 p = primeB p := by simp [fitsB, inB]
  rcases Bool.eq_false_or_eq_true (primeB p) with hc | hc
  · obtain ⟨p0, p1⟩ := primeB_range hc
    obtain ⟨P, rfl⟩ := Int.eq_ofNat_of_zero_le (show 0 ≤ p by omega)
    obtain ⟨q1, q2, q3⟩ := primeN_of hc
    obtain ⟨s1, s2, s3, s4⟩ := primR_spec q1 q3
    have HC := Lib.hid hc
    have S3 := Lib.hid s3
    have S4 := Lib.hid s4
    have HP := Lib.hid (show primI P = ((primR P : Nat) : Int) by simp [primI, hc])
    have HO : Hid (∀ (k : Nat), 1 ≤ k → k < P → ∀ w : World, Calls Try.prog 84 #[.int .i64 (k : Int), .int .i64 P] w fun e w' => e = .returned (.int .i64 ((ordN k P : Nat) : Int)) ∧ w = w') := fun k h1 h2 w => by
      rw [← ordI_nat h2]
      exact orderOf_any k P hc (by rw [Int.emod_eq_of_lt (by omega) (by omega)]; omega) w
    clear s3 s4 q1
    go_enter Try.func52, Try.ntmps52
    go_wp2_with (go_at_call 78; refine (residueFits_any _ _ _).mono ?_; rintro e w' ⟨rfl, rfl⟩)
    go_loop [4] (fun x => ∃ k : Nat, 1 ≤ k ∧ k ≤ primR P ∧ x = .int .i64 k) (fun x => P - (intOf x).toNat)
    case atStart => exact ⟨1, by omega, by omega, rfl⟩
    case round =>
      obtain ⟨k, k0, k1, rfl⟩ := hrel
      have hlt : k < P := by omega
      by_cases hk : k = primR P
      · have hb : (((ordN k P : Nat) : Int) == (P : Int) - 1) = true := by rw [hk, S3.out]; simp; omega
        have HK := Lib.hid hk
        clear hk
        go_wp2_with (go_at_call 84; refine (HO.out _ (by omega) (by omega) _).mono ?_; rintro e w' ⟨rfl, rfl⟩)
        go_ret2
        exact ⟨ret_int_bool (by rw [HP.out, HK.out]) (by first | rfl | exact HC.out.symm), rfl⟩
      · have hb : (((ordN k P : Nat) : Int) == (P : Int) - 1) = false := by
          have := S4.out k k0 (by omega)
          simp; omega
        have hk2 : k < primR P := by omega
        clear hk
        go_wp2_with (go_at_call 84; refine (HO.out _ (by omega) (by omega) _).mono ?_; rintro e w' ⟨rfl, rfl⟩)
        go_round
        case rel => exact ⟨k + 1, by omega, by omega, by go_num⟩
        case measure => simp [intOf]; omega
  · have HC := Lib.hid hc
    have HP := Lib.hid (show primI p = 0 by simp [primI, hc])
    go_enter Try.func52, Try.ntmps52
    go_wp2_with (go_at_call 78; refine (residueFits_any _ _ _).mono ?_; rintro e w' ⟨rfl, rfl⟩)
    go_ret2
    exact ⟨ret_int_bool HP.out.symm (by first | rfl | exact HC.out.symm), rfl⟩
set_option maxHeartbeats 1000000 in
theorem specPrimitiveRoot_any (p : Int) (w : World) :
    Calls Try.prog 53 #[.int .i64 p] w fun e w' => e = .returned (.tuple #[.int .i64 (primI p), .bool (primeB p)]) ∧ w = w' := by
  rcases Bool.eq_false_or_eq_true (primeB p) with hc | hc
  · obtain ⟨p0, p1⟩ := primeB_range hc
    obtain ⟨P, rfl⟩ := Int.eq_ofNat_of_zero_le (show 0 ≤ p by omega)
    obtain ⟨q1, q2, q3⟩ := primeN_of hc
    obtain ⟨s1, s2, s3, s4⟩ := primR_spec q1 q3
    have HC := Lib.hid hc
    have S3 := Lib.hid s3
    have S4 := Lib.hid s4
    have HP := Lib.hid (show primI P = ((primR P : Nat) : Int) by simp [primI, hc])
    have HO : Hid (∀ (k : Nat), 1 ≤ k → k < P → ∀ w : World, Calls Try.prog 85 #[.int .i64 (k : Int), .int .i64 P] w fun e w' => e = .returned (.int .i64 ((ordN k P : Nat) : Int)) ∧ w = w') := fun k h1 h2 w => by
      rw [← ordI_nat h2]
      exact mdOrder_any k P hc (by rw [Int.emod_eq_of_lt (by omega) (by omega)]; omega) w
    clear s3 s4 q1
    go_enter Try.func53, Try.ntmps53
    go_wp2_with (go_at_call 107; refine (mdPrime_any _ _).mono ?_; rintro e w' ⟨rfl, rfl⟩)
    go_loop [4] (fun x => ∃ k : Nat, 1 ≤ k ∧ k ≤ primR P ∧ x = .int .i64 k) (fun x => P - (intOf x).toNat)
    case atStart => exact ⟨1, by omega, by omega, rfl⟩
    case round =>
      obtain ⟨k, k0, k1, rfl⟩ := hrel
      have hlt : k < P := by omega
      by_cases hk : k = primR P
      · have hb : (((ordN k P : Nat) : Int) != (P : Int) - 1) = false := by rw [hk, S3.out]; simp; omega
        have HK := Lib.hid hk
        clear hk
        go_wp2_with (go_at_call 85; refine (HO.out _ (by omega) (by omega) _).mono ?_; rintro e w' ⟨rfl, rfl⟩)
        go_ret2
        exact ⟨ret_int_bool (by rw [HP.out, HK.out]) (by first | rfl | exact HC.out.symm), rfl⟩
      · have hb : (((ordN k P : Nat) : Int) != (P : Int) - 1) = true := by
          have := S4.out k k0 (by omega)
          simp; omega
        have hk2 : k < primR P := by omega
        clear hk
        go_wp2_with (go_at_call 85; refine (HO.out _ (by omega) (by omega) _).mono ?_; rintro e w' ⟨rfl, rfl⟩)
        go_round
        case rel => exact ⟨k + 1, by omega, by omega, by go_num⟩
        case measure => simp [intOf]; omega
  · have HC := Lib.hid hc
    have HP := Lib.hid (show primI p = 0 by simp [primI, hc])
    go_enter Try.func53, Try.ntmps53
    go_wp2_with (go_at_call 107; refine (mdPrime_any _ _).mono ?_; rintro e w' ⟨rfl, rfl⟩)
    go_ret2
    exact ⟨ret_int_bool HP.out.symm (by first | rfl | exact HC.out.symm), rfl⟩
end Go.Proofs.Ytklhmaegpejdbaa
