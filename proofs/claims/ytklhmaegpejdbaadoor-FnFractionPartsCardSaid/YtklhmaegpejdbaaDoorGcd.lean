/- Contracts of spec.bgCommon and impl.gcd: for numbers of at most 4000000000000000000. -/
import Derived.Test.YtklhmaegpejdbaaDoorInside
import Derived.Test.YtklhmaegpejdbaaDoorAbs
namespace Go.Proofs.YtklhmaegpejdbaaDoor
open Go.RowKit
set_option linter.unusedVariables false
/-- The greatest common divisor, as a number of int. -/
def gcdI (a b : Int) : Int := (Int.gcd a b : Nat)
theorem gcdI_step (x y : Int) : gcdI y (x.tmod y) = gcdI x y := by
  unfold gcdI
  rw [Int.gcd_eq_natAbs_gcd_natAbs, Int.gcd_eq_natAbs_gcd_natAbs, Int.natAbs_tmod, Nat.gcd_comm y.natAbs, ← Nat.gcd_rec, Nat.gcd_comm]
theorem gcdI_zero (x : Int) : gcdI x 0 = absI x := by simp [gcdI, absI]
theorem gcdI_abs (x y : Int) : gcdI (absI x) y = gcdI x y := by
  unfold gcdI absI
  rw [Int.gcd_eq_natAbs_gcd_natAbs, Int.gcd_eq_natAbs_gcd_natAbs, Int.natAbs_natCast]
theorem gcdI_comm (x y : Int) : gcdI x y = gcdI y x := by unfold gcdI; rw [Int.gcd_comm]
theorem gcdI_abs2 (x y : Int) : gcdI (absI x) (absI y) = gcdI x y := by rw [gcdI_abs, gcdI_comm, gcdI_abs, gcdI_comm]
theorem gcdI_nonneg (x y : Int) : 0 ≤ gcdI x y := by unfold gcdI; omega
theorem tmod_small (x y : Int) (h : y ≠ 0) : (x.tmod y).natAbs < y.natAbs := by
  rw [Int.natAbs_tmod]; exact Nat.mod_lt _ (by omega)

set_option maxHeartbeats 400000 in
theorem bgCommon_any (a b : Int) (ha : 0 ≤ a) (ha2 : a ≤ 4000000000000000000) (hb : 0 ≤ b) (hb2 : b ≤ 4000000000000000000) (w : World) :
    Calls Tryd.prog 102 #[.int .i64 a, .int .i64 b] w fun e w' => e = .returned (.int .i64 (gcdI a b)) ∧ w = w' := by
  go_enter Tryd.func102, Tryd.ntmps102
  go_wp2
  go_loop [0, 1] (fun t u => ∃ x y : Int, 0 ≤ x ∧ x ≤ 4000000000000000000 ∧ 0 ≤ y ∧ y ≤ 4000000000000000000 ∧ t = .int .i64 x ∧ u = .int .i64 y ∧ Hid (gcdI x y = gcdI a b)) (fun _ u => (intOf u).toNat)
  case atStart => exact ⟨a, b, ha, ha2, hb, hb2, rfl, rfl, rfl⟩
  case round =>
    obtain ⟨x, y, hx, hx2, hy, hy2, rfl, rfl, H⟩ := hrel
    by_cases h : 0 < y
    · have e := gcdI_step x y
      rw [Int.tmod_eq_emod_of_nonneg hx] at e
      have HE := Lib.hid (e.trans H.out)
      have m0 := Int.emod_nonneg x (show y ≠ 0 by omega)
      have m1 := Int.emod_lt_of_pos x h
      have hz : (y == 0) = false := by simp; omega
      clear e
      go_wp2
      go_round
      case rel => exact ⟨y, x % y, hy, hy2, m0, by omega, rfl, rfl, HE⟩
      case measure => simp [intOf]; omega
    · obtain rfl : y = 0 := by omega
      have HE := Lib.hid (((gcdI_zero x).symm.trans H.out).symm.trans (absI_of x hx))
      go_wp2
      go_ret
      exact ⟨ret_int HE.out.symm, rfl⟩

set_option maxHeartbeats 400000 in
theorem gcd_quiet (a b : Int) (ha : -4000000000000000000 ≤ a) (ha2 : a ≤ 4000000000000000000) (hb : -4000000000000000000 ≤ b) (hb2 : b ≤ 4000000000000000000) (w : World) :
    Calls Tryd.prog 101 #[.int .i64 a, .int .i64 b] w fun e w' => e = .returned (.int .i64 (gcdI a b)) ∧ ∃ m, w' = w.drewN m := by
  go_enter Tryd.func101, Tryd.ntmps101
  go_wp2
  go_loopw [0, 1] (fun t u wr => ∃ x y : Int, -4000000000000000000 ≤ x ∧ x ≤ 4000000000000000000 ∧ -4000000000000000000 ≤ y ∧ y ≤ 4000000000000000000 ∧ t = .int .i64 x ∧ u = .int .i64 y ∧ Hid (gcdI x y = gcdI a b) ∧ ∃ m, wr = w.drewN m) (fun _ u _ => (intOf u).natAbs)
  case atStart => exact ⟨a, b, ha, ha2, hb, hb2, rfl, rfl, rfl, 0, rfl⟩
  case round =>
    obtain ⟨x, y, hx, hx2, hy, hy2, rfl, rfl, H, m, rfl⟩ := hrel
    by_cases h : y = 0
    · subst h
      have HE := Lib.hid ((gcdI_zero x).symm.trans H.out)
      go_wp2
      all_goals
        go_ret
        exact ⟨ret_int (by rw [← HE.out]; unfold absI; omega), m, rfl⟩
    · have HE := Lib.hid ((gcdI_step x y).trans H.out)
      have m1 := tmod_small x y h
      have m2 : -4000000000000000000 ≤ x.tmod y ∧ x.tmod y ≤ 4000000000000000000 := by omega
      obtain ⟨m2, m3⟩ := m2
      have hz : (y == 0) = false := by simp [h]
      have hz2 : (y != 0) = true := by simp [h]
      clear m1
      go_wp2
      go_quiet (fail)
      go_wp2
      go_roundw
      case rel => exact ⟨y, x.tmod y, hy, hy2, m2, m3, rfl, rfl, HE, _, World.drewN_drewN _ _ _⟩
      case measure => simp [intOf]; exact Nat.mod_lt _ (by omega)
theorem gcd_any (a b : Int) (ha : -4000000000000000000 ≤ a) (ha2 : a ≤ 4000000000000000000) (hb : -4000000000000000000 ≤ b) (hb2 : b ≤ 4000000000000000000) (w : World) :
    Calls Tryd.prog 101 #[.int .i64 a, .int .i64 b] w fun e w' => e = .returned (.int .i64 (gcdI a b)) ∧ Below w.heap.size w w' :=
  (gcd_quiet a b ha ha2 hb hb2 w).mono fun _ _ ⟨he, m, hm⟩ => ⟨he, hm ▸ below_drewN (Below.refl _ _) m⟩
end Go.Proofs.YtklhmaegpejdbaaDoor
