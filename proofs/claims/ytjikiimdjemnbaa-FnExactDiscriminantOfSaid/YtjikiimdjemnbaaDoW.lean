/- The walk of FnExactDiscriminantOf. -/
import Derived.Test.YtjikiimdjemnbaaCurve
namespace Go.Proofs.Ytjikiimdjemnbaa.Do
open Go.RowKit
set_option linter.unusedVariables false
def discW (a b : Int) : Int := wrap64 (-16 * coreW a b)
theorem spec_yes (a b : Int) (h : curveB a b = true) (w : World) :
    Calls Try.prog 23 #[.agg #[.int .i64 a, .int .i64 b]] w fun e w' => e = .returned (.tuple #[.int .i64 (discW a b), .bool true]) ∧ Below w.heap.size w w' := by
  go_enter Try.func23, Try.ntmps23
  go_wp2_with (first | (go_at_call 40; refine (ecGood_any _ _ _).mono ?_; rintro e w1 ⟨rfl, hb1⟩; obtain ⟨hc1, hf1⟩ := bcell hb1; have hB1 : Below w.heap.size w w1 := Below.trans (by go_grown) (hb1.mono (by go_size)); first | (have hz1 : w.heap.size < w1.heap.size := by (have hzz := hb1.size; (try simp at hzz); omega)) | (have hz1 : w.heap.size ≤ w1.heap.size := by (have hzz := hb1.size; (try simp at hzz); omega))) | (go_at_call 47; refine (ecDisc_any _ _ _).mono ?_; rintro e w2 ⟨rfl, hb2⟩; obtain ⟨hc2, hf2⟩ := bcell hb2; have hB2 : Below w.heap.size w w2 := Below.trans (by go_grown) (hb2.mono (by go_size)); first | (have hz2 : w.heap.size < w2.heap.size := by (have hzz := hb2.size; (try simp at hzz); omega)) | (have hz2 : w.heap.size ≤ w2.heap.size := by (have hzz := hb2.size; (try simp at hzz); omega))))
  go_ret2
  exact ⟨rfl, by go_grown⟩
theorem spec_no (a b : Int) (h : curveB a b = false) (w : World) :
    Calls Try.prog 23 #[.agg #[.int .i64 a, .int .i64 b]] w fun e w' => e = .returned (.tuple #[.int .i64 0, .bool false]) ∧ Below w.heap.size w w' := by
  go_enter Try.func23, Try.ntmps23
  go_wp2_with (first | (go_at_call 40; refine (ecGood_any _ _ _).mono ?_; rintro e w1 ⟨rfl, hb1⟩; obtain ⟨hc1, hf1⟩ := bcell hb1; have hB1 : Below w.heap.size w w1 := Below.trans (by go_grown) (hb1.mono (by go_size)); first | (have hz1 : w.heap.size < w1.heap.size := by (have hzz := hb1.size; (try simp at hzz); omega)) | (have hz1 : w.heap.size ≤ w1.heap.size := by (have hzz := hb1.size; (try simp at hzz); omega))) | (go_at_call 47; refine (ecDisc_any _ _ _).mono ?_; rintro e w2 ⟨rfl, hb2⟩; obtain ⟨hc2, hf2⟩ := bcell hb2; have hB2 : Below w.heap.size w w2 := Below.trans (by go_grown) (hb2.mono (by go_size)); first | (have hz2 : w.heap.size < w2.heap.size := by (have hzz := hb2.size; (try simp at hzz); omega)) | (have hz2 : w.heap.size ≤ w2.heap.size := by (have hzz := hb2.size; (try simp at hzz); omega))))
  go_ret2
  exact ⟨rfl, by go_grown⟩
theorem impl_yes (a b : Int) (h : curveB a b = true) (w : World) :
    Calls Try.prog 24 #[.agg #[.int .i64 a, .int .i64 b]] w fun e w' => e = .returned (.tuple #[.int .i64 (discW a b), .bool true]) ∧ Below w.heap.size w w' := by
  go_enter Try.func24, Try.ntmps24
  go_wp2_with (first | (go_at_call 41; refine (isCurve_any _ _ _).mono ?_; rintro e w1 ⟨rfl, hb1⟩; obtain ⟨hc1, hf1⟩ := bcell hb1; have hB1 : Below w.heap.size w w1 := Below.trans (by go_grown) (hb1.mono (by go_size)); first | (have hz1 : w.heap.size < w1.heap.size := by (have hzz := hb1.size; (try simp at hzz); omega)) | (have hz1 : w.heap.size ≤ w1.heap.size := by (have hzz := hb1.size; (try simp at hzz); omega))) | (go_at_call 48; refine (core_any _ _ _).mono ?_; rintro e w2 ⟨rfl, hb2⟩; obtain ⟨hc2, hf2⟩ := bcell hb2; have hB2 : Below w.heap.size w w2 := Below.trans (by go_grown) (hb2.mono (by go_size)); first | (have hz2 : w.heap.size < w2.heap.size := by (have hzz := hb2.size; (try simp at hzz); omega)) | (have hz2 : w.heap.size ≤ w2.heap.size := by (have hzz := hb2.size; (try simp at hzz); omega))))
  go_ret2
  exact ⟨rfl, by go_grown⟩
theorem impl_no (a b : Int) (h : curveB a b = false) (w : World) :
    Calls Try.prog 24 #[.agg #[.int .i64 a, .int .i64 b]] w fun e w' => e = .returned (.tuple #[.int .i64 0, .bool false]) ∧ Below w.heap.size w w' := by
  go_enter Try.func24, Try.ntmps24
  go_wp2_with (first | (go_at_call 41; refine (isCurve_any _ _ _).mono ?_; rintro e w1 ⟨rfl, hb1⟩; obtain ⟨hc1, hf1⟩ := bcell hb1; have hB1 : Below w.heap.size w w1 := Below.trans (by go_grown) (hb1.mono (by go_size)); first | (have hz1 : w.heap.size < w1.heap.size := by (have hzz := hb1.size; (try simp at hzz); omega)) | (have hz1 : w.heap.size ≤ w1.heap.size := by (have hzz := hb1.size; (try simp at hzz); omega))) | (go_at_call 48; refine (core_any _ _ _).mono ?_; rintro e w2 ⟨rfl, hb2⟩; obtain ⟨hc2, hf2⟩ := bcell hb2; have hB2 : Below w.heap.size w w2 := Below.trans (by go_grown) (hb2.mono (by go_size)); first | (have hz2 : w.heap.size < w2.heap.size := by (have hzz := hb2.size; (try simp at hzz); omega)) | (have hz2 : w.heap.size ≤ w2.heap.size := by (have hzz := hb2.size; (try simp at hzz); omega))))
  go_ret2
  exact ⟨rfl, by go_grown⟩
theorem walk (a b : Int) (_ : (Lit.int .i64 a).wf = true) (_ : (Lit.int .i64 b).wf = true) (w : World) :
    Calls Try.prog 7 #[.agg #[.int .i64 a, .int .i64 b]] w fun e w' => e = .returned (.bool true) ∧ Below w.heap.size w w' := by
  rcases Bool.eq_false_or_eq_true (curveB a b) with h | h
  · go_enter Try.func7, Try.ntmps7
    go_wp2_with (first | (go_at_call 16; refine (toCurve_any _ _ _).mono ?_; rintro e w1 ⟨rfl, hb1⟩; obtain ⟨hc1, hf1⟩ := bcell hb1; have hB1 : Below w.heap.size w w1 := Below.trans (by go_grown) (hb1.mono (by go_size)); first | (have hz1 : w.heap.size < w1.heap.size := by (have hzz := hb1.size; (try simp at hzz); omega)) | (have hz1 : w.heap.size ≤ w1.heap.size := by (have hzz := hb1.size; (try simp at hzz); omega))) | (go_at_call 23; refine (spec_yes _ _ h _).mono ?_; rintro e w2 ⟨rfl, hb2⟩; obtain ⟨hc2, hf2⟩ := bcell hb2; have hB2 : Below w.heap.size w w2 := Below.trans (by go_grown) (hb2.mono (by go_size)); first | (have hz2 : w.heap.size < w2.heap.size := by (have hzz := hb2.size; (try simp at hzz); omega)) | (have hz2 : w.heap.size ≤ w2.heap.size := by (have hzz := hb2.size; (try simp at hzz); omega))) | (go_at_call 24; refine (impl_yes _ _ h _).mono ?_; rintro e w3 ⟨rfl, hb3⟩; obtain ⟨hc3, hf3⟩ := bcell hb3; have hB3 : Below w.heap.size w w3 := Below.trans (by go_grown) (hb3.mono (by go_size)); first | (have hz3 : w.heap.size < w3.heap.size := by (have hzz := hb3.size; (try simp at hzz); omega)) | (have hz3 : w.heap.size ≤ w3.heap.size := by (have hzz := hb3.size; (try simp at hzz); omega))))
    go_ret
    exact ⟨rfl, by go_grown⟩
  · go_enter Try.func7, Try.ntmps7
    go_wp2_with (first | (go_at_call 16; refine (toCurve_any _ _ _).mono ?_; rintro e w1 ⟨rfl, hb1⟩; obtain ⟨hc1, hf1⟩ := bcell hb1; have hB1 : Below w.heap.size w w1 := Below.trans (by go_grown) (hb1.mono (by go_size)); first | (have hz1 : w.heap.size < w1.heap.size := by (have hzz := hb1.size; (try simp at hzz); omega)) | (have hz1 : w.heap.size ≤ w1.heap.size := by (have hzz := hb1.size; (try simp at hzz); omega))) | (go_at_call 23; refine (spec_no _ _ h _).mono ?_; rintro e w2 ⟨rfl, hb2⟩; obtain ⟨hc2, hf2⟩ := bcell hb2; have hB2 : Below w.heap.size w w2 := Below.trans (by go_grown) (hb2.mono (by go_size)); first | (have hz2 : w.heap.size < w2.heap.size := by (have hzz := hb2.size; (try simp at hzz); omega)) | (have hz2 : w.heap.size ≤ w2.heap.size := by (have hzz := hb2.size; (try simp at hzz); omega))) | (go_at_call 24; refine (impl_no _ _ h _).mono ?_; rintro e w3 ⟨rfl, hb3⟩; obtain ⟨hc3, hf3⟩ := bcell hb3; have hB3 : Below w.heap.size w w3 := Below.trans (by go_grown) (hb3.mono (by go_size)); first | (have hz3 : w.heap.size < w3.heap.size := by (have hzz := hb3.size; (try simp at hzz); omega)) | (have hz3 : w.heap.size ≤ w3.heap.size := by (have hzz := hb3.size; (try simp at hzz); omega))))
    go_ret
    exact ⟨rfl, by go_grown⟩
end Go.Proofs.Ytjikiimdjemnbaa.Do
