/- impl.LogarithmOf and spec.LogarithmOf; the walk of FnExactLogarithmOf. -/
import Derived.Test.YtklhmaegpejdbaaOrd
namespace Go.Proofs.Ytklhmaegpejdbaa
open Go.RowKit
set_option linter.unusedVariables false
set_option linter.unusedSimpArgs false
def logN (A G P : Nat) : Option Nat := (List.range (P - 1)).find? fun n => G ^ n % P == A
def logO (a g p : Int) : Option Nat := logN (a % p).toNat (g % p).toNat p.toNat
def logA (a g p : Int) : Bool := fitsB a p && unitB g p
def logB (a g p : Int) : Bool := logA a g p && (logO a g p).isSome
def logR (a g p : Int) : Int := if logB a g p = true then (((logO a g p).getD 0 : Nat) : Int) else 0
set_option maxHeartbeats 2000000 in
theorem implLogarithmOf_any (a g p : Int) (w : World) :
    Calls Try.prog 55 #[.int .i64 a, .int .i64 g, .int .i64 p] w fun e w' => e = .returned (.tuple #[.int .i64 (logR a g p), .bool (logB a g p)]) ∧ w = w' := by
  rcases Bool.eq_false_or_eq_true (fitsB a p) with hc | hc
  · rcases Bool.eq_false_or_eq_true (fitsB g p) with hg | hg
    · obtain ⟨hpr, ⟨hp0, hp1⟩, _⟩ := fitsB_range hc
      have ht := tmod_zero g p
      have hz : (p == 0) = false := by simp; omega
      rcases Bool.eq_false_or_eq_true (g % p == 0) with hn | hn
      · rw [hn] at ht
        have HN := Lib.hid hn
        clear hn hpr
        go_enter Try.func55, Try.ntmps55
        go_wp2_with (go_at_call 78; refine (residueFits_any _ _ _).mono ?_; rintro e w' ⟨rfl, rfl⟩)
        go_ret2
        exact ⟨ret_int_bool (by simp [logR, logB, logA, unitB, hc, hg, bne, HN.out]) (by simp [logB, logA, unitB, hc, hg, bne, HN.out]), rfl⟩
      · rw [hn] at ht
        have HN := Lib.hid hn
        obtain ⟨G, P, U⟩ := unitOf hpr (show g % p ≠ 0 by simpa using hn)
        obtain ⟨hG, rfl, u1, u2, u3, u4, _, u6⟩ := U
        obtain ⟨A, hA⟩ := Int.eq_ofNat_of_zero_le (Int.emod_nonneg a (show (P : Int) ≠ 0 by omega))
        have hA2 : A < P := by have := Int.emod_lt_of_pos a (show (0 : Int) < P by omega); omega
        have HP := Lib.hid (show logO a g P = logN A G P by simp [logO, hA, hG])
        have U6 := Lib.hid u6
        clear hn hpr u6
        go_enter Try.func55, Try.ntmps55
        go_wp2_with (go_at_call 78; refine (residueFits_any _ _ _).mono ?_; rintro e w' ⟨rfl, rfl⟩)
        go_loop [8, 27] (fun x n => ∃ k y : Nat, k ≤ P ∧ y < P ∧ n = .int .i64 k ∧ x = .int .i64 y ∧ Hid (y = G ^ k % P) ∧ Hid (∀ j, j < k → (G ^ j % P == A) = false)) (fun _ n => P - (intOf n).toNat)
        case atStart => exact ⟨0, 1, by omega, by omega, rfl, rfl, by show 1 = G ^ 0 % P; rw [Nat.pow_zero, Nat.mod_eq_of_lt (by omega)], fun j hj => absurd hj (by omega)⟩
        case round =>
          obtain ⟨k, y, hk, hy, rfl, rfl, H, HB⟩ := hrel
          obtain ⟨b1, b2⟩ := (show (y : Int) * (G : Int) ≤ 992016 ∧ 0 ≤ (y : Int) * (G : Int) by
            have : y * G ≤ 996 * 996 := Nat.mul_le_mul (by omega) (by omega)
            have e : ((y * G : Nat) : Int) = (y : Int) * (G : Int) := Int.natCast_mul y G
            omega)
          by_cases hlt : k < P
          · by_cases hq : y = A
            · have hb : ((y : Int) == (A : Int)) = true := by simp [hq]
              have hlt2 : k < P - 1 := by
                rcases Nat.lt_or_ge k (P - 1) with h2 | h2
                · exact h2
                · have h0 := HB.out 0 (by omega)
                  have e1 : y = 1 := by rw [H.out, show k = P - 1 by omega, U6.out]
                  rw [Nat.pow_zero, Nat.mod_eq_of_lt (show 1 < P by omega), ← hq, e1] at h0
                  simp at h0
              have HE := Lib.hid (show logN A G P = some k from find_range hlt2 (by rw [← H.out, hq]; simp) HB.out)
              clear hq
              go_wp2_with (go_at_call 83; refine (modulo_any _ _ (by omega) (by omega) _).mono ?_; rintro e w' ⟨rfl, rfl⟩)
              go_ret2
              exact ⟨ret_int_bool (by simp [logR, logB, logA, unitB, hc, hg, bne, HN.out, HP.out, HE.out]) (by simp [logB, logA, unitB, hc, hg, bne, HN.out, HP.out, HE.out]), rfl⟩
            · have hb : ((y : Int) == (A : Int)) = false := by simp; omega
              have HB2 : Hid (∀ j, j < k + 1 → (G ^ j % P == A) = false) := fun j hj => by
                rcases Nat.lt_or_ge j k with h4 | h4
                · exact HB.out j h4
                · obtain rfl : j = k := by omega
                  rw [← H.out]; simp [hq]
              have HN2 := Lib.hid (show y * G % P = G ^ (k + 1) % P by rw [H.out, pow_next])
              have m1 : y * G % P < P := Nat.mod_lt _ (by omega)
              clear hq
              go_wp2_with (go_at_call 83; refine (modulo_any _ _ (by omega) (by omega) _).mono ?_; rintro e w' ⟨rfl, rfl⟩)
              go_round
              case rel => exact ⟨k + 1, y * G % P, by omega, m1, by go_num, by simp, HN2, HB2⟩
              case measure => simp [intOf]; omega
          · obtain rfl : k = P := by omega
            have HE := Lib.hid (show logN A G k = none from find_range_none fun j hj => HB.out j (by omega))
            go_wp2
            go_ret2
            exact ⟨ret_int_bool (by simp [logR, logB, logA, unitB, hc, hg, bne, HN.out, HP.out, HE.out]) (by simp [logB, logA, unitB, hc, hg, bne, HN.out, HP.out, HE.out]), rfl⟩
    · go_enter Try.func55, Try.ntmps55
      go_wp2_with (go_at_call 78; refine (residueFits_any _ _ _).mono ?_; rintro e w' ⟨rfl, rfl⟩)
      go_ret2
      exact ⟨ret_int_bool (by simp [logR, logB, logA, unitB, hc, hg]) (by simp [logB, logA, unitB, hc, hg]), rfl⟩
  · go_enter Try.func55, Try.ntmps55
    go_wp2_with (go_at_call 78; refine (residueFits_any _ _ _).mono ?_; rintro e w' ⟨rfl, rfl⟩)
    go_ret2
    exact ⟨ret_int_bool (by simp [logR, logB, logA, hc]) (by simp [logB, logA, hc]), rfl⟩
set_option maxHeartbeats 2000000 in
theorem specLogarithmOf_any (a g p : Int) (w : World) :
    Calls Try.prog 56 #[.int .i64 a, .int .i64 g, .int .i64 p] w fun e w' => e = .returned (.tuple #[.int .i64 (logR a g p), .bool (logB a g p)]) ∧ Below w.heap.size w w' := by
  rcases Bool.eq_false_or_eq_true (fitsB a p) with hc | hc
  · rcases Bool.eq_false_or_eq_true (fitsB g p) with hg | hg
    · obtain ⟨hpr, ⟨hp0, hp1⟩, _⟩ := fitsB_range hc
      rcases Bool.eq_false_or_eq_true (g % p == 0) with hn | hn
      · have HN := Lib.hid hn
        clear hpr
        go_enter Try.func56, Try.ntmps56
        go_wp2_with (first | (go_at_call 80; refine (mdAsked_any _ _ _).mono ?_; rintro e w' ⟨rfl, rfl⟩) | (go_at_call 81; refine (mdMod_any _ _ (by omega) (by omega) _).mono ?_; rintro e w' ⟨rfl, rfl⟩))
        go_ret2
        exact ⟨ret_int_bool (by simp [logR, logB, logA, unitB, hc, hg, bne, HN.out]) (by simp [logB, logA, unitB, hc, hg, bne, HN.out]), Below.refl _ _⟩
      · have HN := Lib.hid hn
        obtain ⟨G, P, U⟩ := unitOf hpr (show g % p ≠ 0 by simpa using hn)
        obtain ⟨hG, rfl, u1, u2, u3, u4, _, u6⟩ := U
        obtain ⟨A, hA⟩ := Int.eq_ofNat_of_zero_le (Int.emod_nonneg a (show (P : Int) ≠ 0 by omega))
        have hA2 : A < P := by have := Int.emod_lt_of_pos a (show (0 : Int) < P by omega); omega
        have HP := Lib.hid (show logO a g P = logN A G P by simp [logO, hA, hG])
        have hG0 : ((G : Int) == 0) = false := by simp; omega
        have hz : ((P : Int) == 0) = false := by simp; omega
        clear hn hpr u6
        go_enter Try.func56, Try.ntmps56
        go_wp2_with (first | (go_at_call 80; refine (mdAsked_any _ _ _).mono ?_; rintro e w' ⟨rfl, rfl⟩) | (go_at_call 81; refine (mdMod_any _ _ (by omega) (by omega) _).mono ?_; rintro e w' ⟨rfl, rfl⟩))
        go_loopw [8, 9] (fun x n wr => ∃ k y : Nat, k ≤ P - 1 ∧ y < P ∧ n = .int .i64 k ∧ x = .int .i64 y ∧ Hid (y = G ^ k % P) ∧ Hid (∀ j, j < k → (G ^ j % P == A) = false) ∧ ∃ m, wr = w.drewN m) (fun _ n _ => P - (intOf n).toNat)
        case atStart => exact ⟨0, 1, by omega, by omega, rfl, rfl, (by show 1 = G ^ 0 % P; rw [Nat.pow_zero, Nat.mod_eq_of_lt (by omega)]), fun j hj => absurd hj (by omega), 0, rfl⟩
        case round =>
          obtain ⟨k, y, hk, hy, rfl, rfl, H, HB, m, rfl⟩ := hrel
          obtain ⟨b1, b2⟩ := (show (y : Int) * (G : Int) ≤ 992016 ∧ 0 ≤ (y : Int) * (G : Int) by
            have : y * G ≤ 996 * 996 := Nat.mul_le_mul (by omega) (by omega)
            have e : ((y * G : Nat) : Int) = (y : Int) * (G : Int) := Int.natCast_mul y G
            omega)
          have hym : (y : Int) % (P : Int) = (y : Int) := Int.emod_eq_of_lt (by omega) (by omega)
          by_cases hlt : k < P - 1
          · by_cases hq : y = A
            · have hb : ((y : Int) == (A : Int)) = true := by simp [hq]
              have HE := Lib.hid (show logN A G P = some k from find_range hlt (by rw [← H.out, hq]; simp) HB.out)
              clear hq
              go_wp2_with fail
              go_quiet ((go_at_call 81; exact quietG (mdMod_any _ _ (by omega) (by omega) _) ⟨_, rfl⟩))
              go_wp2
              go_ret2
              exact ⟨ret_int_bool (by simp [logR, logB, logA, unitB, hc, hg, bne, HN.out, HP.out, HE.out]) (by simp [logB, logA, unitB, hc, hg, bne, HN.out, HP.out, HE.out]), by repeat' (first | (with_reducible exact Below.refl _ _) | (with_reducible assumption) | (with_reducible refine Below.alloc ?_ ?_ _) | (with_reducible refine Below.drew ?_) | (with_reducible refine below_drewN ?_ _) | (with_reducible refine Below.setCell ?_ ?_ _) | go_size)⟩
            · have hb : ((y : Int) == (A : Int)) = false := by simp; omega
              have HB2 : Hid (∀ j, j < k + 1 → (G ^ j % P == A) = false) := fun j hj => by
                rcases Nat.lt_or_ge j k with h4 | h4
                · exact HB.out j h4
                · obtain rfl : j = k := by omega
                  rw [← H.out]; simp [hq]
              have HN2 := Lib.hid (show y * G % P = G ^ (k + 1) % P by rw [H.out, pow_next])
              have m1 : y * G % P < P := Nat.mod_lt _ (by omega)
              clear hq
              go_wp2_with fail
              go_quiet ((go_at_call 81; exact quietG (mdMod_any _ _ (by omega) (by omega) _) ⟨_, rfl⟩))
              go_wp2_with (go_at_call 81; refine (mdMod_any _ _ (by omega) (by omega) _).mono ?_; rintro e w' ⟨rfl, rfl⟩)
              go_roundw
              case rel => exact ⟨k + 1, y * G % P, by omega, m1, by go_num, by simp, HN2, HB2, _, rfl⟩
              case measure => simp [intOf]; omega
          · obtain rfl : k = P - 1 := by omega
            have HE := Lib.hid (show logN A G P = none from find_range_none fun j hj => HB.out j (by omega))
            go_wp2
            go_ret2
            exact ⟨ret_int_bool (by simp [logR, logB, logA, unitB, hc, hg, bne, HN.out, HP.out, HE.out]) (by simp [logB, logA, unitB, hc, hg, bne, HN.out, HP.out, HE.out]), by repeat' (first | (with_reducible exact Below.refl _ _) | (with_reducible assumption) | (with_reducible refine Below.alloc ?_ ?_ _) | (with_reducible refine Below.drew ?_) | (with_reducible refine below_drewN ?_ _) | (with_reducible refine Below.setCell ?_ ?_ _) | go_size)⟩
    · go_enter Try.func56, Try.ntmps56
      go_wp2_with (go_at_call 80; refine (mdAsked_any _ _ _).mono ?_; rintro e w' ⟨rfl, rfl⟩)
      go_ret2
      exact ⟨ret_int_bool (by simp [logR, logB, logA, unitB, hc, hg]) (by simp [logB, logA, unitB, hc, hg]), Below.refl _ _⟩
  · go_enter Try.func56, Try.ntmps56
    go_wp2_with (go_at_call 80; refine (mdAsked_any _ _ _).mono ?_; rintro e w' ⟨rfl, rfl⟩)
    go_ret2
    exact ⟨ret_int_bool (by simp [logR, logB, logA, hc]) (by simp [logB, logA, hc]), Below.refl _ _⟩
end Go.Proofs.Ytklhmaegpejdbaa
