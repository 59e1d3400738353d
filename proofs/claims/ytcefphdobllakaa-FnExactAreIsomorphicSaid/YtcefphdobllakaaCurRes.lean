/- Contracts of laws.eqCurve at one and the same curve, and of impl.curveResult. -/
import Derived.Test.YtcefphdobllakaaCurve
namespace Go.Proofs.Ytcefphdobllakaa
open Go.RowKit
set_option linter.unusedVariables false
set_option linter.unusedSimpArgs false
def crA (a b : Int) : Int := if curveB a b = true then a else 0
def crB (a b : Int) : Int := if curveB a b = true then b else 0
theorem ret_two_bool {a b x y : Int} {p q : Bool} (h1 : a = x) (h2 : b = y) (h3 : p = q) : Ending.returned (.tuple #[.agg #[.int .i64 a, .int .i64 b], .bool p]) = .returned (.tuple #[.agg #[.int .i64 x, .int .i64 y], .bool q]) := by rw [h1, h2, h3]
theorem eqCurve_same (a b : Int) (w : World) :
    Calls Try.prog 18 #[.agg #[.int .i64 a, .int .i64 b], .agg #[.int .i64 a, .int .i64 b]] w fun e w' => e = .returned (.bool true) ∧ Below w.heap.size w w' := by
  go_enter Try.func18, Try.ntmps18
  go_wp2
  go_ret
  exact ⟨rfl, by repeat' (first | (with_reducible exact Below.refl _ _) | (with_reducible assumption) | (with_reducible refine Below.alloc ?_ ?_ _) | (with_reducible refine Below.drew ?_) | (with_reducible refine below_drewN ?_ _) | (with_reducible refine Below.setCell ?_ ?_ _) | go_size)⟩
theorem curveResult_any (a b : Int) (w : World) :
    Calls Try.prog 48 #[.agg #[.int .i64 a, .int .i64 b]] w fun e w' => e = .returned (.tuple #[.agg #[.int .i64 (crA a b), .int .i64 (crB a b)], .bool (curveB a b)]) ∧ Below w.heap.size w w' := by
  rcases Bool.eq_false_or_eq_true (curveB a b) with hc | hc
  · go_enter Try.func48, Try.ntmps48
    go_wp2_with (go_at_call 46; refine (isCurve_any _ _ _).mono ?_; rintro e w1 ⟨rfl, hb1⟩; obtain ⟨hc1, hf1⟩ := bcell hb1; have hB1 : Below w.heap.size w w1 := Below.trans (by repeat' (first | (with_reducible exact Below.refl _ _) | (with_reducible assumption) | (with_reducible refine Below.alloc ?_ ?_ _) | (with_reducible refine Below.drew ?_) | (with_reducible refine below_drewN ?_ _) | (with_reducible refine Below.setCell ?_ ?_ _) | go_size)) (hb1.mono (by go_size)); (have hs1 := hb1.size); (try simp at hs1); (first | (have hz1 : w.heap.size < w1.heap.size := by omega) | (have hz1 : w.heap.size ≤ w1.heap.size := by omega)); (try (have hz2_1 : w2.heap.size < w1.heap.size := by omega)); (try (have hz3_1 : w3.heap.size < w1.heap.size := by omega)); (try (have hz4_1 : w4.heap.size < w1.heap.size := by omega)); (try (have hz5_1 : w5.heap.size < w1.heap.size := by omega)); (try (have hy1_1 : w.heap.size + 1 < w1.heap.size := by omega)); (try (have hy2_1 : w.heap.size + 2 < w1.heap.size := by omega)); (try (have hy3_1 : w.heap.size + 3 < w1.heap.size := by omega)))
    refine bodyPost_ret (v := .tuple #[.agg #[.int .i64 a, .int .i64 b], .bool true]) (by simp [results, Try.results48, go_sem, hc1]) rfl ?_
    exact ⟨ret_two_bool (by simp [crA, hc]) (by simp [crB, hc]) (by simp [hc]), by repeat' (first | (with_reducible exact Below.refl _ _) | (with_reducible assumption) | (with_reducible refine Below.alloc ?_ ?_ _) | (with_reducible refine Below.drew ?_) | (with_reducible refine below_drewN ?_ _) | (with_reducible refine Below.setCell ?_ ?_ _) | go_size)⟩
  · go_enter Try.func48, Try.ntmps48
    go_wp2_with (go_at_call 46; refine (isCurve_any _ _ _).mono ?_; rintro e w1 ⟨rfl, hb1⟩; obtain ⟨hc1, hf1⟩ := bcell hb1; have hB1 : Below w.heap.size w w1 := Below.trans (by repeat' (first | (with_reducible exact Below.refl _ _) | (with_reducible assumption) | (with_reducible refine Below.alloc ?_ ?_ _) | (with_reducible refine Below.drew ?_) | (with_reducible refine below_drewN ?_ _) | (with_reducible refine Below.setCell ?_ ?_ _) | go_size)) (hb1.mono (by go_size)); (have hs1 := hb1.size); (try simp at hs1); (first | (have hz1 : w.heap.size < w1.heap.size := by omega) | (have hz1 : w.heap.size ≤ w1.heap.size := by omega)); (try (have hz2_1 : w2.heap.size < w1.heap.size := by omega)); (try (have hz3_1 : w3.heap.size < w1.heap.size := by omega)); (try (have hz4_1 : w4.heap.size < w1.heap.size := by omega)); (try (have hz5_1 : w5.heap.size < w1.heap.size := by omega)); (try (have hy1_1 : w.heap.size + 1 < w1.heap.size := by omega)); (try (have hy2_1 : w.heap.size + 2 < w1.heap.size := by omega)); (try (have hy3_1 : w.heap.size + 3 < w1.heap.size := by omega)))
    refine bodyPost_ret (v := .tuple #[.agg #[.int .i64 0, .int .i64 0], .bool false]) (by simp [results, Try.results48, go_sem, hc1]) rfl ?_
    exact ⟨ret_two_bool (by simp [crA, hc]) (by simp [crB, hc]) (by simp [hc]), by repeat' (first | (with_reducible exact Below.refl _ _) | (with_reducible assumption) | (with_reducible refine Below.alloc ?_ ?_ _) | (with_reducible refine Below.drew ?_) | (with_reducible refine below_drewN ?_ _) | (with_reducible refine Below.setCell ?_ ?_ _) | go_size)⟩
end Go.Proofs.Ytcefphdobllakaa
