/- Contracts on fractions: spec.frGood, impl.isFraction, laws.toFraction. No conditions. -/
import Derived.Test.YtklhmaegpejdbaaDoorGcd
namespace Go.Proofs.YtklhmaegpejdbaaDoor
open Go.RowKit
set_option linter.unusedVariables false
def fracB (n d : Int) : Bool := inB d 1 1000000000 && inB n (-1000000000) 1000000000 && gcdI n d == 1
theorem fracB_range {n d : Int} (h : fracB n d = true) : 1 ≤ d ∧ d ≤ 1000000000 ∧ -1000000000 ≤ n ∧ n ≤ 1000000000 ∧ gcdI n d = 1 := by
  simp only [fracB, Bool.and_eq_true, inB_iff, beq_iff_eq] at h
  exact ⟨h.1.1.1, h.1.1.2, h.1.2.1, h.1.2.2, h.2⟩
theorem toFraction_any (a b : Int) (w : World) :
    Calls Tryd.prog 22 #[.agg #[.int .i64 a, .int .i64 b]] w fun e w' => e = .returned (.agg #[.int .i64 a, .int .i64 b]) ∧ Below w.heap.size w w' := by
  go_enter Tryd.func22, Tryd.ntmps22
  go_wp2
  go_returns
  exact ⟨rfl, by repeat' (first | (with_reducible exact Below.refl _ _) | (with_reducible assumption) | (with_reducible refine Below.alloc ?_ ?_ _) | (with_reducible refine Below.drew ?_) | (with_reducible refine below_drewN ?_ _) | (with_reducible refine Below.setCell ?_ ?_ _) | go_size)⟩
set_option maxHeartbeats 2000000 in
theorem frGood_any (n d : Int) (w : World) :
    Calls Tryd.prog 61 #[.agg #[.int .i64 n, .int .i64 d]] w fun e w' => e = .returned (.bool (fracB n d)) ∧ Below w.heap.size w w' := by
  rcases Bool.eq_false_or_eq_true (inB d 1 1000000000) with h1 | h1
  · rcases Bool.eq_false_or_eq_true (inB n (-1000000000) 1000000000) with h2 | h2
    · obtain ⟨d0, d1⟩ := inB_iff.1 h1
      obtain ⟨n0, n1⟩ := inB_iff.1 h2
      have HG := Lib.hid (gcdI_abs n d)
      have a0 := absI_nonneg n
      have a1 : absI n ≤ 1000000000 := by unfold absI; omega
      go_enter Tryd.func61, Tryd.ntmps61
      go_wp2_with fail
      go_quiet ((first | (go_at_call 43; exact quietG (l1In_any _ _ _ _) ⟨_, rfl⟩) | (go_at_call 71; exact quietG (l1Abs_any _ (by omega) (by omega) _) ⟨_, rfl⟩) | (go_at_call 102; exact quietG (bgCommon_any _ _ (by omega) (by omega) (by omega) (by omega) _) ⟨_, rfl⟩)))
      go_wp2
      go_ret
      exact ⟨ret_bool (by rw [HG.out]; simp [fracB, h1, h2]), by repeat' (first | (with_reducible exact Below.refl _ _) | (with_reducible assumption) | (with_reducible refine Below.alloc ?_ ?_ _) | (with_reducible refine Below.drew ?_) | (with_reducible refine below_drewN ?_ _) | (with_reducible refine Below.setCell ?_ ?_ _) | go_size)⟩
    · go_enter Tryd.func61, Tryd.ntmps61
      go_wp2_with fail
      go_quiet ((first | (go_at_call 43; exact quietG (l1In_any _ _ _ _) ⟨_, rfl⟩)))
      go_wp2
      go_ret
      exact ⟨ret_bool (by simp [fracB, h1, h2]), by repeat' (first | (with_reducible exact Below.refl _ _) | (with_reducible assumption) | (with_reducible refine Below.alloc ?_ ?_ _) | (with_reducible refine Below.drew ?_) | (with_reducible refine below_drewN ?_ _) | (with_reducible refine Below.setCell ?_ ?_ _) | go_size)⟩
  · go_enter Tryd.func61, Tryd.ntmps61
    go_wp2_with fail
    go_quiet ((first | (go_at_call 43; exact quietG (l1In_any _ _ _ _) ⟨_, rfl⟩)))
    go_wp2
    go_ret
    exact ⟨ret_bool (by simp [fracB, h1]), by repeat' (first | (with_reducible exact Below.refl _ _) | (with_reducible assumption) | (with_reducible refine Below.alloc ?_ ?_ _) | (with_reducible refine Below.drew ?_) | (with_reducible refine below_drewN ?_ _) | (with_reducible refine Below.setCell ?_ ?_ _) | go_size)⟩
set_option maxHeartbeats 2000000 in
theorem isFraction_any (n d : Int) (w : World) :
    Calls Tryd.prog 59 #[.agg #[.int .i64 n, .int .i64 d]] w fun e w' => e = .returned (.bool (fracB n d)) ∧ Below w.heap.size w w' := by
  rcases Bool.eq_false_or_eq_true (inB d 1 1000000000) with h1 | h1
  · rcases Bool.eq_false_or_eq_true (inB n (-1000000000) 1000000000) with h2 | h2
    · obtain ⟨d0, d1⟩ := inB_iff.1 h1
      obtain ⟨n0, n1⟩ := inB_iff.1 h2
      go_enter Tryd.func59, Tryd.ntmps59
      go_wp2_with (first | (go_at_call 90; refine (inside_any _ _ _ _).mono ?_; rintro e w' ⟨rfl, rfl⟩) | (go_at_call 101; refine (gcd_any _ _ (by omega) (by omega) (by omega) (by omega) _).mono ?_; rintro e w1 ⟨rfl, hb1⟩; obtain ⟨hc1, hf1⟩ := bcell hb1; have hB1 : Below w.heap.size w w1 := Below.trans (by repeat' (first | (with_reducible exact Below.refl _ _) | (with_reducible assumption) | (with_reducible refine Below.alloc ?_ ?_ _) | (with_reducible refine Below.drew ?_) | (with_reducible refine below_drewN ?_ _) | (with_reducible refine Below.setCell ?_ ?_ _) | go_size)) (hb1.mono (by go_size)); (have hs1 := hb1.size); (try simp at hs1); (try (have hl1 := Nat.lt_of_succ_le hs1)); (first | (have hz1 : w.heap.size < w1.heap.size := by omega) | (have hz1 : w.heap.size ≤ w1.heap.size := by omega)); (try (have hz2_1 : w2.heap.size < w1.heap.size := by omega)); (try (have hz3_1 : w3.heap.size < w1.heap.size := by omega)); (try (have hz4_1 : w4.heap.size < w1.heap.size := by omega)); (try (have hz5_1 : w5.heap.size < w1.heap.size := by omega)); (try (have hzc_1 : wc.heap.size < w1.heap.size := by omega)); (try (have hy1_1 : w.heap.size + 1 < w1.heap.size := by omega)); (try (have hy2_1 : w.heap.size + 2 < w1.heap.size := by omega)); (try (have hy3_1 : w.heap.size + 3 < w1.heap.size := by omega))))
      go_ret
      exact ⟨ret_bool (by simp [fracB, h1, h2]), by repeat' (first | (with_reducible exact Below.refl _ _) | (with_reducible assumption) | (with_reducible refine Below.alloc ?_ ?_ _) | (with_reducible refine Below.drew ?_) | (with_reducible refine below_drewN ?_ _) | (with_reducible refine Below.setCell ?_ ?_ _) | go_size)⟩
    · go_enter Tryd.func59, Tryd.ntmps59
      go_wp2_with (first | (go_at_call 90; refine (inside_any _ _ _ _).mono ?_; rintro e w' ⟨rfl, rfl⟩))
      go_ret
      exact ⟨ret_bool (by simp [fracB, h1, h2]), by repeat' (first | (with_reducible exact Below.refl _ _) | (with_reducible assumption) | (with_reducible refine Below.alloc ?_ ?_ _) | (with_reducible refine Below.drew ?_) | (with_reducible refine below_drewN ?_ _) | (with_reducible refine Below.setCell ?_ ?_ _) | go_size)⟩
  · go_enter Tryd.func59, Tryd.ntmps59
    go_wp2_with (first | (go_at_call 90; refine (inside_any _ _ _ _).mono ?_; rintro e w' ⟨rfl, rfl⟩))
    go_ret
    exact ⟨ret_bool (by simp [fracB, h1]), by repeat' (first | (with_reducible exact Below.refl _ _) | (with_reducible assumption) | (with_reducible refine Below.alloc ?_ ?_ _) | (with_reducible refine Below.drew ?_) | (with_reducible refine below_drewN ?_ _) | (with_reducible refine Below.setCell ?_ ?_ _) | go_size)⟩
end Go.Proofs.YtklhmaegpejdbaaDoor
