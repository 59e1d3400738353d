/- The walk of FnExactIsCurve. -/
import Derived.Test.YtjikiimdjemnbaaCurve
namespace Go.Proofs.Ytjikiimdjemnbaa.Ic
open Go.RowKit
set_option linter.unusedVariables false
theorem spec_any (a b : Int) (w : World) :
    Calls Try.prog 15 #[.agg #[.int .i64 a, .int .i64 b]] w fun e w' => e = .returned (.bool (curveB a b)) ∧ Below w.heap.size w w' := by
  go_enter Try.func15, Try.ntmps15
  go_wp2_with (go_at_call 40; refine (ecGood_any _ _ _).mono ?_; rintro e w1 ⟨rfl, hb1⟩; obtain ⟨hc1, hf1⟩ := bcell hb1; have hB1 : Below w.heap.size w w1 := Below.trans (by go_grown) (hb1.mono (by go_size)); first | (have hz1 : w.heap.size < w1.heap.size := by (have hzz := hb1.size; (try simp at hzz); omega)) | (have hz1 : w.heap.size ≤ w1.heap.size := by (have hzz := hb1.size; (try simp at hzz); omega)))
  go_ret
  exact ⟨rfl, by go_grown⟩
theorem impl_any (a b : Int) (w : World) :
    Calls Try.prog 17 #[.agg #[.int .i64 a, .int .i64 b]] w fun e w' => e = .returned (.bool (curveB a b)) ∧ Below w.heap.size w w' := by
  go_enter Try.func17, Try.ntmps17
  go_wp2_with (go_at_call 41; refine (isCurve_any _ _ _).mono ?_; rintro e w1 ⟨rfl, hb1⟩; obtain ⟨hc1, hf1⟩ := bcell hb1; have hB1 : Below w.heap.size w w1 := Below.trans (by go_grown) (hb1.mono (by go_size)); first | (have hz1 : w.heap.size < w1.heap.size := by (have hzz := hb1.size; (try simp at hzz); omega)) | (have hz1 : w.heap.size ≤ w1.heap.size := by (have hzz := hb1.size; (try simp at hzz); omega)))
  go_ret
  exact ⟨rfl, by go_grown⟩
theorem walk (a b : Int) (_ : (Lit.int .i64 a).wf = true) (_ : (Lit.int .i64 b).wf = true) (w : World) :
    Calls Try.prog 4 #[.agg #[.int .i64 a, .int .i64 b]] w fun e w' => e = .returned (.bool true) ∧ Below w.heap.size w w' := by
  go_enter Try.func4, Try.ntmps4
  go_wp2_with (first | (go_at_call 16; refine (toCurve_any _ _ _).mono ?_; rintro e w1 ⟨rfl, hb1⟩; obtain ⟨hc1, hf1⟩ := bcell hb1; have hB1 : Below w.heap.size w w1 := Below.trans (by go_grown) (hb1.mono (by go_size)); first | (have hz1 : w.heap.size < w1.heap.size := by (have hzz := hb1.size; (try simp at hzz); omega)) | (have hz1 : w.heap.size ≤ w1.heap.size := by (have hzz := hb1.size; (try simp at hzz); omega))) | (go_at_call 15; refine (spec_any _ _ _).mono ?_; rintro e w2 ⟨rfl, hb2⟩; obtain ⟨hc2, hf2⟩ := bcell hb2; have hB2 : Below w.heap.size w w2 := Below.trans (by go_grown) (hb2.mono (by go_size)); first | (have hz2 : w.heap.size < w2.heap.size := by (have hzz := hb2.size; (try simp at hzz); omega)) | (have hz2 : w.heap.size ≤ w2.heap.size := by (have hzz := hb2.size; (try simp at hzz); omega))) | (go_at_call 17; refine (impl_any _ _ _).mono ?_; rintro e w3 ⟨rfl, hb3⟩; obtain ⟨hc3, hf3⟩ := bcell hb3; have hB3 : Below w.heap.size w w3 := Below.trans (by go_grown) (hb3.mono (by go_size)); first | (have hz3 : w.heap.size < w3.heap.size := by (have hzz := hb3.size; (try simp at hzz); omega)) | (have hz3 : w.heap.size ≤ w3.heap.size := by (have hzz := hb3.size; (try simp at hzz); omega))))
  go_ret
  exact ⟨rfl, by go_grown⟩
end Go.Proofs.Ytjikiimdjemnbaa.Ic
