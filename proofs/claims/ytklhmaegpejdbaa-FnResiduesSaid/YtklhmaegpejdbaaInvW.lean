/- impl.InverseOf and spec.InverseOf; the walk of FnExactInverseOf. -/
import Derived.Test.YtklhmaegpejdbaaPow
namespace Go.Proofs.Ytklhmaegpejdbaa
open Go.RowKit
set_option linter.unusedVariables false
set_option linter.unusedSimpArgs false
def inverseR (a p : Int) : Int := if unitB a p = true then powI a (p - 2) p else 0
theorem inverse_any (a p : Int) (hp : 2 ≤ p ∧ p ≤ 997) (w : World) :
    Calls Try.prog 79 #[.int .i64 a, .int .i64 p] w fun e w' => e = .returned (.int .i64 (powI a (p - 2) p)) ∧ Below w.heap.size w w' := by
  obtain ⟨p0, p1⟩ := hp
  go_enter Try.func79, Try.ntmps79
  go_wp2_with (go_at_call 90; refine (power_any _ _ _ (by omega) (by omega) _).mono ?_; rintro e w1 ⟨rfl, hb1⟩; obtain ⟨hc1, hf1⟩ := bcell hb1; have hB1 : Below w.heap.size w w1 := Below.trans (by repeat' (first | (with_reducible exact Below.refl _ _) | (with_reducible assumption) | (with_reducible refine Below.alloc ?_ ?_ _) | (with_reducible refine Below.drew ?_) | (with_reducible refine below_drewN ?_ _) | (with_reducible refine Below.setCell ?_ ?_ _) | go_size)) (hb1.mono (by go_size)); (have hs1 := hb1.size); (try simp at hs1); (try (have hl1 := Nat.lt_of_succ_le hs1)); (first | (have hz1 : w.heap.size < w1.heap.size := by omega) | (have hz1 : w.heap.size ≤ w1.heap.size := by omega)); (try (have hz2_1 : w2.heap.size < w1.heap.size := by omega)); (try (have hz3_1 : w3.heap.size < w1.heap.size := by omega)); (try (have hz4_1 : w4.heap.size < w1.heap.size := by omega)); (try (have hz5_1 : w5.heap.size < w1.heap.size := by omega)); (try (have hzc_1 : wc.heap.size < w1.heap.size := by omega)); (try (have hy1_1 : w.heap.size + 1 < w1.heap.size := by omega)); (try (have hy2_1 : w.heap.size + 2 < w1.heap.size := by omega)); (try (have hy3_1 : w.heap.size + 3 < w1.heap.size := by omega)))
  go_ret
  exact ⟨rfl, by repeat' (first | (with_reducible exact Below.refl _ _) | (with_reducible assumption) | (with_reducible refine Below.alloc ?_ ?_ _) | (with_reducible refine Below.drew ?_) | (with_reducible refine below_drewN ?_ _) | (with_reducible refine Below.setCell ?_ ?_ _) | go_size)⟩
theorem mdInverse_any (a p : Int) (hp : 2 ≤ p ∧ p ≤ 997) (w : World) :
    Calls Try.prog 82 #[.int .i64 a, .int .i64 p] w fun e w' => e = .returned (.int .i64 (powI a (p - 2) p)) ∧ w = w' := by
  obtain ⟨p0, p1⟩ := hp
  go_enter Try.func82, Try.ntmps82
  go_wp2_with (go_at_call 96; refine (mdPower_any _ _ _ (by omega) (by omega) _).mono ?_; rintro e w' ⟨rfl, rfl⟩)
  go_ret
  exact ⟨rfl, rfl⟩
theorem implInverseOf_any (a p : Int) (w : World) :
    Calls Try.prog 16 #[.int .i64 a, .int .i64 p] w fun e w' => e = .returned (.tuple #[.int .i64 (inverseR a p), .bool (unitB a p)]) ∧ Below w.heap.size w w' := by
  rcases Bool.eq_false_or_eq_true (fitsB a p) with hc | hc
  · obtain ⟨_, p0, _⟩ := fitsB_range hc
    have HP := Lib.hid p0
    obtain ⟨p0, p1⟩ := p0
    have ht := tmod_zero a p
    have hz : (p == 0) = false := by simp; omega
    have hz2 : p ≠ 0 := by omega
    rcases Bool.eq_false_or_eq_true (a % p == 0) with hn | hn
    all_goals
      rw [hn] at ht
      have HN := Lib.hid hn
      clear hn
      go_enter Try.func16, Try.ntmps16
      go_wp2_with (first | (go_at_call 78; refine (residueFits_any _ _ _).mono ?_; rintro e w' ⟨rfl, rfl⟩) | (go_at_call 79; refine (inverse_any _ _ HP.out _).mono ?_; rintro e w1 ⟨rfl, hb1⟩; obtain ⟨hc1, hf1⟩ := bcell hb1; have hB1 : Below w.heap.size w w1 := Below.trans (by repeat' (first | (with_reducible exact Below.refl _ _) | (with_reducible assumption) | (with_reducible refine Below.alloc ?_ ?_ _) | (with_reducible refine Below.drew ?_) | (with_reducible refine below_drewN ?_ _) | (with_reducible refine Below.setCell ?_ ?_ _) | go_size)) (hb1.mono (by go_size)); (have hs1 := hb1.size); (try simp at hs1); (try (have hl1 := Nat.lt_of_succ_le hs1)); (first | (have hz1 : w.heap.size < w1.heap.size := by omega) | (have hz1 : w.heap.size ≤ w1.heap.size := by omega)); (try (have hz2_1 : w2.heap.size < w1.heap.size := by omega)); (try (have hz3_1 : w3.heap.size < w1.heap.size := by omega)); (try (have hz4_1 : w4.heap.size < w1.heap.size := by omega)); (try (have hz5_1 : w5.heap.size < w1.heap.size := by omega)); (try (have hzc_1 : wc.heap.size < w1.heap.size := by omega)); (try (have hy1_1 : w.heap.size + 1 < w1.heap.size := by omega)); (try (have hy2_1 : w.heap.size + 2 < w1.heap.size := by omega)); (try (have hy3_1 : w.heap.size + 3 < w1.heap.size := by omega))))
      go_ret2
      exact ⟨ret_int_bool (by simp [inverseR, unitB, hc, bne, HN.out]) (by simp [unitB, hc, bne, HN.out]), by repeat' (first | (with_reducible exact Below.refl _ _) | (with_reducible assumption) | (with_reducible refine Below.alloc ?_ ?_ _) | (with_reducible refine Below.drew ?_) | (with_reducible refine below_drewN ?_ _) | (with_reducible refine Below.setCell ?_ ?_ _) | go_size)⟩
  · go_enter Try.func16, Try.ntmps16
    go_wp2_with (first | (go_at_call 78; refine (residueFits_any _ _ _).mono ?_; rintro e w' ⟨rfl, rfl⟩))
    go_ret2
    exact ⟨ret_int_bool (by simp [inverseR, unitB, hc]) (by simp [unitB, hc]), by repeat' (first | (with_reducible exact Below.refl _ _) | (with_reducible assumption) | (with_reducible refine Below.alloc ?_ ?_ _) | (with_reducible refine Below.drew ?_) | (with_reducible refine below_drewN ?_ _) | (with_reducible refine Below.setCell ?_ ?_ _) | go_size)⟩
theorem specInverseOf_any (a p : Int) (w : World) :
    Calls Try.prog 17 #[.int .i64 a, .int .i64 p] w fun e w' => e = .returned (.tuple #[.int .i64 (inverseR a p), .bool (unitB a p)]) ∧ w = w' := by
  rcases Bool.eq_false_or_eq_true (fitsB a p) with hc | hc
  · obtain ⟨_, ⟨p0, p1⟩, _⟩ := fitsB_range hc
    rcases Bool.eq_false_or_eq_true (a % p == 0) with hn | hn
    all_goals
      go_enter Try.func17, Try.ntmps17
      go_wp2_with (first | (go_at_call 80; refine (mdAsked_any _ _ _).mono ?_; rintro e w' ⟨rfl, rfl⟩) | (go_at_call 81; refine (mdMod_any _ _ (by omega) (by omega) _).mono ?_; rintro e w' ⟨rfl, rfl⟩) | (go_at_call 82; refine (mdInverse_any _ _ ⟨p0, p1⟩ _).mono ?_; rintro e w' ⟨rfl, rfl⟩))
      go_ret2
      exact ⟨ret_int_bool (by simp only [inverseR, unitB, hc, bne, hn]; rfl) (by simp only [unitB, hc, bne, hn]; rfl), rfl⟩
  · go_enter Try.func17, Try.ntmps17
    go_wp2_with (first | (go_at_call 80; refine (mdAsked_any _ _ _).mono ?_; rintro e w' ⟨rfl, rfl⟩))
    go_ret2
    exact ⟨ret_int_bool (by simp [inverseR, unitB, hc]) (by simp [unitB, hc]), rfl⟩
end Go.Proofs.Ytklhmaegpejdbaa
