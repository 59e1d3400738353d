/- The walk of FnExactFractionHeight. -/
import Derived.Test.YtjikiimdjemnbaaFrac
import Derived.WalkLawsBesides
namespace Go.Proofs.Ytjikiimdjemnbaa
open Go.RowKit
set_option linter.unusedVariables false
/-- What FractionHeight returns. -/
def heightR (n d : Int) : Int := if fracB n d = true then max (absI n) d else 0
theorem specFractionHeight_any (a b : Int) (w : World) :
    Calls Try.prog 38 #[.agg #[.int .i64 a, .int .i64 b]] w fun e w' => e = .returned (.tuple #[.int .i64 (heightR a b), .bool (fracB a b)]) ∧ Below w.heap.size w w' := by
  rcases Bool.eq_false_or_eq_true (fracB a b) with h | h
  · obtain ⟨d0, d1, n0, n1, _⟩ := fracB_range h
    go_enter Try.func38, Try.ntmps38
    go_wp2_with (first | (go_at_call 55; refine (frGood_any _ _ _).mono ?_; rintro e w1 ⟨rfl, hb1⟩; obtain ⟨hc1, hf1⟩ := bcell hb1; have hB1 : Below w.heap.size w w1 := Below.trans (by repeat' (first | (with_reducible exact Below.refl _ _) | (with_reducible assumption) | (with_reducible refine Below.alloc ?_ ?_ _) | (with_reducible refine Below.drew ?_) | (with_reducible refine below_drewN ?_ _) | (with_reducible refine Below.setCell ?_ ?_ _) | go_size)) (hb1.mono (by go_size)); (have hs1 := hb1.size); (try simp at hs1); (first | (have hz1 : w.heap.size < w1.heap.size := by omega) | (have hz1 : w.heap.size ≤ w1.heap.size := by omega))))
    go_quiet ((first | (go_at_call 62; exact quietG (l1Abs_any _ (by omega) (by omega) _) ⟨_, rfl⟩) | (go_at_call 61; exact quietG (l1Most_any _ _ _) ⟨_, rfl⟩)))
    go_wp2
    go_ret2
    exact ⟨ret_int_bool (by simp [heightR, h]) h.symm, by repeat' (first | (with_reducible exact Below.refl _ _) | (with_reducible assumption) | (with_reducible refine Below.alloc ?_ ?_ _) | (with_reducible refine Below.drew ?_) | (with_reducible refine below_drewN ?_ _) | (with_reducible refine Below.setCell ?_ ?_ _) | go_size)⟩
  · go_enter Try.func38, Try.ntmps38
    go_wp2_with (first | (go_at_call 55; refine (frGood_any _ _ _).mono ?_; rintro e w1 ⟨rfl, hb1⟩; obtain ⟨hc1, hf1⟩ := bcell hb1; have hB1 : Below w.heap.size w w1 := Below.trans (by repeat' (first | (with_reducible exact Below.refl _ _) | (with_reducible assumption) | (with_reducible refine Below.alloc ?_ ?_ _) | (with_reducible refine Below.drew ?_) | (with_reducible refine below_drewN ?_ _) | (with_reducible refine Below.setCell ?_ ?_ _) | go_size)) (hb1.mono (by go_size)); (have hs1 := hb1.size); (try simp at hs1); (first | (have hz1 : w.heap.size < w1.heap.size := by omega) | (have hz1 : w.heap.size ≤ w1.heap.size := by omega))))
    go_ret2
    exact ⟨ret_int_bool (by simp [heightR, h]) h.symm, by repeat' (first | (with_reducible exact Below.refl _ _) | (with_reducible assumption) | (with_reducible refine Below.alloc ?_ ?_ _) | (with_reducible refine Below.drew ?_) | (with_reducible refine below_drewN ?_ _) | (with_reducible refine Below.setCell ?_ ?_ _) | go_size)⟩
theorem heightR_of {n d : Int} (hc : fracB n d = true) : heightR n d = max (absI n) d := by rw [heightR, if_pos hc]
theorem implFractionHeight_any (a b : Int) (w : World) :
    Calls Try.prog 39 #[.agg #[.int .i64 a, .int .i64 b]] w fun e w' => e = .returned (.tuple #[.int .i64 (heightR a b), .bool (fracB a b)]) ∧ Below w.heap.size w w' := by
  rcases Bool.eq_false_or_eq_true (fracB a b) with hc | hc
  · obtain ⟨d0, d1, n0, n1, _⟩ := fracB_range hc
    by_cases h1 : a < -a
    · go_enter Try.func39, Try.ntmps39
      go_wp2_with (first | (go_at_call 56; refine (isFraction_any _ _ _).mono ?_; rintro e w1 ⟨rfl, hb1⟩; obtain ⟨hc1, hf1⟩ := bcell hb1; have hB1 : Below w.heap.size w w1 := Below.trans (by repeat' (first | (with_reducible exact Below.refl _ _) | (with_reducible assumption) | (with_reducible refine Below.alloc ?_ ?_ _) | (with_reducible refine Below.drew ?_) | (with_reducible refine below_drewN ?_ _) | (with_reducible refine Below.setCell ?_ ?_ _) | go_size)) (hb1.mono (by go_size)); (have hs1 := hb1.size); (try simp at hs1); (first | (have hz1 : w.heap.size < w1.heap.size := by omega) | (have hz1 : w.heap.size ≤ w1.heap.size := by omega))))
      all_goals
        go_ret2
        exact ⟨ret_int_bool (by rw [heightR_of hc]; unfold absI; omega) (by first | rfl | exact hc.symm), by repeat' (first | (with_reducible exact Below.refl _ _) | (with_reducible assumption) | (with_reducible refine Below.alloc ?_ ?_ _) | (with_reducible refine Below.drew ?_) | (with_reducible refine below_drewN ?_ _) | (with_reducible refine Below.setCell ?_ ?_ _) | go_size)⟩
    · go_enter Try.func39, Try.ntmps39
      go_wp2_with (first | (go_at_call 56; refine (isFraction_any _ _ _).mono ?_; rintro e w1 ⟨rfl, hb1⟩; obtain ⟨hc1, hf1⟩ := bcell hb1; have hB1 : Below w.heap.size w w1 := Below.trans (by repeat' (first | (with_reducible exact Below.refl _ _) | (with_reducible assumption) | (with_reducible refine Below.alloc ?_ ?_ _) | (with_reducible refine Below.drew ?_) | (with_reducible refine below_drewN ?_ _) | (with_reducible refine Below.setCell ?_ ?_ _) | go_size)) (hb1.mono (by go_size)); (have hs1 := hb1.size); (try simp at hs1); (first | (have hz1 : w.heap.size < w1.heap.size := by omega) | (have hz1 : w.heap.size ≤ w1.heap.size := by omega))))
      all_goals
        go_ret2
        exact ⟨ret_int_bool (by rw [heightR_of hc]; unfold absI; omega) (by first | rfl | exact hc.symm), by repeat' (first | (with_reducible exact Below.refl _ _) | (with_reducible assumption) | (with_reducible refine Below.alloc ?_ ?_ _) | (with_reducible refine Below.drew ?_) | (with_reducible refine below_drewN ?_ _) | (with_reducible refine Below.setCell ?_ ?_ _) | go_size)⟩
  · go_enter Try.func39, Try.ntmps39
    go_wp2_with (first | (go_at_call 56; refine (isFraction_any _ _ _).mono ?_; rintro e w1 ⟨rfl, hb1⟩; obtain ⟨hc1, hf1⟩ := bcell hb1; have hB1 : Below w.heap.size w w1 := Below.trans (by repeat' (first | (with_reducible exact Below.refl _ _) | (with_reducible assumption) | (with_reducible refine Below.alloc ?_ ?_ _) | (with_reducible refine Below.drew ?_) | (with_reducible refine below_drewN ?_ _) | (with_reducible refine Below.setCell ?_ ?_ _) | go_size)) (hb1.mono (by go_size)); (have hs1 := hb1.size); (try simp at hs1); (first | (have hz1 : w.heap.size < w1.heap.size := by omega) | (have hz1 : w.heap.size ≤ w1.heap.size := by omega))))
    go_ret2
    exact ⟨ret_int_bool (by simp [heightR, hc]) hc.symm, by repeat' (first | (with_reducible exact Below.refl _ _) | (with_reducible assumption) | (with_reducible refine Below.alloc ?_ ?_ _) | (with_reducible refine Below.drew ?_) | (with_reducible refine below_drewN ?_ _) | (with_reducible refine Below.setCell ?_ ?_ _) | go_size)⟩
namespace Fh
theorem walk (a b : Int) (_ : (Lit.int .i64 a).wf = true) (_ : (Lit.int .i64 b).wf = true) (w : World) :
    Calls Try.prog 14 #[.agg #[.int .i64 a, .int .i64 b]] w fun e w' => e = .returned (.bool true) ∧ Below w.heap.size w w' := by
  go_enter Try.func14, Try.ntmps14
  go_wp2_with (first | (go_at_call 32; refine (toFraction_any _ _ _).mono ?_; rintro e w1 ⟨rfl, hb1⟩; obtain ⟨hc1, hf1⟩ := bcell hb1; have hB1 : Below w.heap.size w w1 := Below.trans (by repeat' (first | (with_reducible exact Below.refl _ _) | (with_reducible assumption) | (with_reducible refine Below.alloc ?_ ?_ _) | (with_reducible refine Below.drew ?_) | (with_reducible refine below_drewN ?_ _) | (with_reducible refine Below.setCell ?_ ?_ _) | go_size)) (hb1.mono (by go_size)); (have hs1 := hb1.size); (try simp at hs1); (first | (have hz1 : w.heap.size < w1.heap.size := by omega) | (have hz1 : w.heap.size ≤ w1.heap.size := by omega))) | (go_at_call 38; refine (specFractionHeight_any _ _ _).mono ?_; rintro e w2 ⟨rfl, hb2⟩; obtain ⟨hc2, hf2⟩ := bcell hb2; have hB2 : Below w.heap.size w w2 := Below.trans (by repeat' (first | (with_reducible exact Below.refl _ _) | (with_reducible assumption) | (with_reducible refine Below.alloc ?_ ?_ _) | (with_reducible refine Below.drew ?_) | (with_reducible refine below_drewN ?_ _) | (with_reducible refine Below.setCell ?_ ?_ _) | go_size)) (hb2.mono (by go_size)); (have hs2 := hb2.size); (try simp at hs2); (first | (have hz2 : w.heap.size < w2.heap.size := by omega) | (have hz2 : w.heap.size ≤ w2.heap.size := by omega)); try (have hz1_2 : w1.heap.size < w2.heap.size := by omega)) | (go_at_call 39; refine (implFractionHeight_any _ _ _).mono ?_; rintro e w3 ⟨rfl, hb3⟩; obtain ⟨hc3, hf3⟩ := bcell hb3; have hB3 : Below w.heap.size w w3 := Below.trans (by repeat' (first | (with_reducible exact Below.refl _ _) | (with_reducible assumption) | (with_reducible refine Below.alloc ?_ ?_ _) | (with_reducible refine Below.drew ?_) | (with_reducible refine below_drewN ?_ _) | (with_reducible refine Below.setCell ?_ ?_ _) | go_size)) (hb3.mono (by go_size)); (have hs3 := hb3.size); (try simp at hs3); (first | (have hz3 : w.heap.size < w3.heap.size := by omega) | (have hz3 : w.heap.size ≤ w3.heap.size := by omega)); try (have hz1_3 : w1.heap.size < w3.heap.size := by omega); try (have hz2_3 : w2.heap.size < w3.heap.size := by omega)))
  go_ret
  exact ⟨rfl, by repeat' (first | (with_reducible exact Below.refl _ _) | (with_reducible assumption) | (with_reducible refine Below.alloc ?_ ?_ _) | (with_reducible refine Below.drew ?_) | (with_reducible refine below_drewN ?_ _) | (with_reducible refine Below.setCell ?_ ?_ _) | go_size)⟩
end Fh
end Go.Proofs.Ytjikiimdjemnbaa
