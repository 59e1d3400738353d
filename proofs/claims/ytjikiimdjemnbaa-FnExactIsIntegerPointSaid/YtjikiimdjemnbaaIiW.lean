/- The walk of FnExactIsIntegerPoint. -/
import Derived.Test.YtjikiimdjemnbaaCurve
namespace Go.Proofs.Ytjikiimdjemnbaa.Ii
open Go.RowKit
set_option linter.unusedVariables false
set_option maxRecDepth 100000
/-- x^3 + a x + b, as int computes it. -/
def valW (a b x : Int) : Int := wrap64 (wrap64 (wrap64 (wrap64 (x * x) * x) + wrap64 (a * x)) + b)
theorem value_any (a b x : Int) (w : World) :
    Calls Try.prog 50 #[.agg #[.int .i64 a, .int .i64 b], .int .i64 x] w fun e w' => e = .returned (.int .i64 (valW a b x)) ∧ Below w.heap.size w w' := by
  go_enter Try.func50, Try.ntmps50
  go_wp2
  go_ret
  exact ⟨rfl, by go_grown⟩
theorem spec_yes (a b x y : Int) (h : curveB a b = true) (hx : inB x (-1000000) 1000000 = true) (hy : inB y (-1000000) 1000000 = true) (w : World) :
    Calls Try.prog 25 #[.agg #[.int .i64 a, .int .i64 b], .int .i64 x, .int .i64 y] w fun e w' => e = .returned (.tuple #[.bool (wrap64 (y * y) == valW a b x), .bool true]) ∧ Below w.heap.size w w' := by
  go_enter Try.func25, Try.ntmps25
  go_wp2_with (first | (go_at_call 40; refine (ecGood_any _ _ _).mono ?_; rintro e w1 ⟨rfl, hb1⟩; obtain ⟨hc1, hf1⟩ := bcell hb1; have hB1 : Below w.heap.size w w1 := Below.trans (by go_grown) (hb1.mono (by go_size)); first | (have hz1 : w.heap.size < w1.heap.size := by (have hzz := hb1.size; (try simp at hzz); omega)) | (have hz1 : w.heap.size ≤ w1.heap.size := by (have hzz := hb1.size; (try simp at hzz); omega))) | (go_at_call 49; refine (l1In_any _ _ _ _).mono ?_; rintro e w' ⟨rfl, rfl⟩) | (go_at_call 50; refine (value_any _ _ _ _).mono ?_; rintro e w2 ⟨rfl, hb2⟩; obtain ⟨hc2, hf2⟩ := bcell hb2; have hB2 : Below w.heap.size w w2 := Below.trans (by go_grown) (hb2.mono (by go_size)); first | (have hz2 : w.heap.size < w2.heap.size := by (have hzz := hb2.size; (try simp at hzz); omega)) | (have hz2 : w.heap.size ≤ w2.heap.size := by (have hzz := hb2.size; (try simp at hzz); omega))))
  go_ret2
  exact ⟨rfl, by go_grown⟩
theorem spec_no1 (a b x y : Int) (h : curveB a b = false) (w : World) :
    Calls Try.prog 25 #[.agg #[.int .i64 a, .int .i64 b], .int .i64 x, .int .i64 y] w fun e w' => e = .returned (.tuple #[.bool false, .bool false]) ∧ Below w.heap.size w w' := by
  go_enter Try.func25, Try.ntmps25
  go_wp2_with (first | (go_at_call 40; refine (ecGood_any _ _ _).mono ?_; rintro e w1 ⟨rfl, hb1⟩; obtain ⟨hc1, hf1⟩ := bcell hb1; have hB1 : Below w.heap.size w w1 := Below.trans (by go_grown) (hb1.mono (by go_size)); first | (have hz1 : w.heap.size < w1.heap.size := by (have hzz := hb1.size; (try simp at hzz); omega)) | (have hz1 : w.heap.size ≤ w1.heap.size := by (have hzz := hb1.size; (try simp at hzz); omega))) | (go_at_call 49; refine (l1In_any _ _ _ _).mono ?_; rintro e w' ⟨rfl, rfl⟩) | (go_at_call 50; refine (value_any _ _ _ _).mono ?_; rintro e w2 ⟨rfl, hb2⟩; obtain ⟨hc2, hf2⟩ := bcell hb2; have hB2 : Below w.heap.size w w2 := Below.trans (by go_grown) (hb2.mono (by go_size)); first | (have hz2 : w.heap.size < w2.heap.size := by (have hzz := hb2.size; (try simp at hzz); omega)) | (have hz2 : w.heap.size ≤ w2.heap.size := by (have hzz := hb2.size; (try simp at hzz); omega))))
  go_ret2
  exact ⟨rfl, by go_grown⟩
theorem spec_no2 (a b x y : Int) (h : curveB a b = true) (hx : inB x (-1000000) 1000000 = false) (w : World) :
    Calls Try.prog 25 #[.agg #[.int .i64 a, .int .i64 b], .int .i64 x, .int .i64 y] w fun e w' => e = .returned (.tuple #[.bool false, .bool false]) ∧ Below w.heap.size w w' := by
  go_enter Try.func25, Try.ntmps25
  go_wp2_with (first | (go_at_call 40; refine (ecGood_any _ _ _).mono ?_; rintro e w1 ⟨rfl, hb1⟩; obtain ⟨hc1, hf1⟩ := bcell hb1; have hB1 : Below w.heap.size w w1 := Below.trans (by go_grown) (hb1.mono (by go_size)); first | (have hz1 : w.heap.size < w1.heap.size := by (have hzz := hb1.size; (try simp at hzz); omega)) | (have hz1 : w.heap.size ≤ w1.heap.size := by (have hzz := hb1.size; (try simp at hzz); omega))) | (go_at_call 49; refine (l1In_any _ _ _ _).mono ?_; rintro e w' ⟨rfl, rfl⟩) | (go_at_call 50; refine (value_any _ _ _ _).mono ?_; rintro e w2 ⟨rfl, hb2⟩; obtain ⟨hc2, hf2⟩ := bcell hb2; have hB2 : Below w.heap.size w w2 := Below.trans (by go_grown) (hb2.mono (by go_size)); first | (have hz2 : w.heap.size < w2.heap.size := by (have hzz := hb2.size; (try simp at hzz); omega)) | (have hz2 : w.heap.size ≤ w2.heap.size := by (have hzz := hb2.size; (try simp at hzz); omega))))
  go_ret2
  exact ⟨rfl, by go_grown⟩
theorem spec_no3 (a b x y : Int) (h : curveB a b = true) (hx : inB x (-1000000) 1000000 = true) (hy : inB y (-1000000) 1000000 = false) (w : World) :
    Calls Try.prog 25 #[.agg #[.int .i64 a, .int .i64 b], .int .i64 x, .int .i64 y] w fun e w' => e = .returned (.tuple #[.bool false, .bool false]) ∧ Below w.heap.size w w' := by
  go_enter Try.func25, Try.ntmps25
  go_wp2_with (first | (go_at_call 40; refine (ecGood_any _ _ _).mono ?_; rintro e w1 ⟨rfl, hb1⟩; obtain ⟨hc1, hf1⟩ := bcell hb1; have hB1 : Below w.heap.size w w1 := Below.trans (by go_grown) (hb1.mono (by go_size)); first | (have hz1 : w.heap.size < w1.heap.size := by (have hzz := hb1.size; (try simp at hzz); omega)) | (have hz1 : w.heap.size ≤ w1.heap.size := by (have hzz := hb1.size; (try simp at hzz); omega))) | (go_at_call 49; refine (l1In_any _ _ _ _).mono ?_; rintro e w' ⟨rfl, rfl⟩) | (go_at_call 50; refine (value_any _ _ _ _).mono ?_; rintro e w2 ⟨rfl, hb2⟩; obtain ⟨hc2, hf2⟩ := bcell hb2; have hB2 : Below w.heap.size w w2 := Below.trans (by go_grown) (hb2.mono (by go_size)); first | (have hz2 : w.heap.size < w2.heap.size := by (have hzz := hb2.size; (try simp at hzz); omega)) | (have hz2 : w.heap.size ≤ w2.heap.size := by (have hzz := hb2.size; (try simp at hzz); omega))))
  go_ret2
  exact ⟨rfl, by go_grown⟩
theorem impl_yes (a b x y : Int) (h : curveB a b = true) (hx : inB x (-1000000) 1000000 = true) (hy : inB y (-1000000) 1000000 = true) (w : World) :
    Calls Try.prog 26 #[.agg #[.int .i64 a, .int .i64 b], .int .i64 x, .int .i64 y] w fun e w' => e = .returned (.tuple #[.bool (wrap64 (y * y) == valW a b x), .bool true]) ∧ Below w.heap.size w w' := by
  go_enter Try.func26, Try.ntmps26
  go_wp2_with (first | (go_at_call 41; refine (isCurve_any _ _ _).mono ?_; rintro e w1 ⟨rfl, hb1⟩; obtain ⟨hc1, hf1⟩ := bcell hb1; have hB1 : Below w.heap.size w w1 := Below.trans (by go_grown) (hb1.mono (by go_size)); first | (have hz1 : w.heap.size < w1.heap.size := by (have hzz := hb1.size; (try simp at hzz); omega)) | (have hz1 : w.heap.size ≤ w1.heap.size := by (have hzz := hb1.size; (try simp at hzz); omega))) | (go_at_call 43; refine (inside_any _ _ _ _).mono ?_; rintro e w' ⟨rfl, rfl⟩))
  go_ret2
  exact ⟨rfl, by go_grown⟩
theorem impl_no1 (a b x y : Int) (h : curveB a b = false) (w : World) :
    Calls Try.prog 26 #[.agg #[.int .i64 a, .int .i64 b], .int .i64 x, .int .i64 y] w fun e w' => e = .returned (.tuple #[.bool false, .bool false]) ∧ Below w.heap.size w w' := by
  go_enter Try.func26, Try.ntmps26
  go_wp2_with (first | (go_at_call 41; refine (isCurve_any _ _ _).mono ?_; rintro e w1 ⟨rfl, hb1⟩; obtain ⟨hc1, hf1⟩ := bcell hb1; have hB1 : Below w.heap.size w w1 := Below.trans (by go_grown) (hb1.mono (by go_size)); first | (have hz1 : w.heap.size < w1.heap.size := by (have hzz := hb1.size; (try simp at hzz); omega)) | (have hz1 : w.heap.size ≤ w1.heap.size := by (have hzz := hb1.size; (try simp at hzz); omega))) | (go_at_call 43; refine (inside_any _ _ _ _).mono ?_; rintro e w' ⟨rfl, rfl⟩))
  go_ret2
  exact ⟨rfl, by go_grown⟩
theorem impl_no2 (a b x y : Int) (h : curveB a b = true) (hx : inB x (-1000000) 1000000 = false) (w : World) :
    Calls Try.prog 26 #[.agg #[.int .i64 a, .int .i64 b], .int .i64 x, .int .i64 y] w fun e w' => e = .returned (.tuple #[.bool false, .bool false]) ∧ Below w.heap.size w w' := by
  go_enter Try.func26, Try.ntmps26
  go_wp2_with (first | (go_at_call 41; refine (isCurve_any _ _ _).mono ?_; rintro e w1 ⟨rfl, hb1⟩; obtain ⟨hc1, hf1⟩ := bcell hb1; have hB1 : Below w.heap.size w w1 := Below.trans (by go_grown) (hb1.mono (by go_size)); first | (have hz1 : w.heap.size < w1.heap.size := by (have hzz := hb1.size; (try simp at hzz); omega)) | (have hz1 : w.heap.size ≤ w1.heap.size := by (have hzz := hb1.size; (try simp at hzz); omega))) | (go_at_call 43; refine (inside_any _ _ _ _).mono ?_; rintro e w' ⟨rfl, rfl⟩))
  go_ret2
  exact ⟨rfl, by go_grown⟩
theorem impl_no3 (a b x y : Int) (h : curveB a b = true) (hx : inB x (-1000000) 1000000 = true) (hy : inB y (-1000000) 1000000 = false) (w : World) :
    Calls Try.prog 26 #[.agg #[.int .i64 a, .int .i64 b], .int .i64 x, .int .i64 y] w fun e w' => e = .returned (.tuple #[.bool false, .bool false]) ∧ Below w.heap.size w w' := by
  go_enter Try.func26, Try.ntmps26
  go_wp2_with (first | (go_at_call 41; refine (isCurve_any _ _ _).mono ?_; rintro e w1 ⟨rfl, hb1⟩; obtain ⟨hc1, hf1⟩ := bcell hb1; have hB1 : Below w.heap.size w w1 := Below.trans (by go_grown) (hb1.mono (by go_size)); first | (have hz1 : w.heap.size < w1.heap.size := by (have hzz := hb1.size; (try simp at hzz); omega)) | (have hz1 : w.heap.size ≤ w1.heap.size := by (have hzz := hb1.size; (try simp at hzz); omega))) | (go_at_call 43; refine (inside_any _ _ _ _).mono ?_; rintro e w' ⟨rfl, rfl⟩))
  go_ret2
  exact ⟨rfl, by go_grown⟩
theorem walk (a b x y : Int) (_ : (Lit.int .i64 a).wf = true) (_ : (Lit.int .i64 b).wf = true) (_ : (Lit.int .i64 x).wf = true) (_ : (Lit.int .i64 y).wf = true) (w : World) :
    Calls Try.prog 8 #[.agg #[.int .i64 a, .int .i64 b], .int .i64 x, .int .i64 y] w fun e w' => e = .returned (.bool true) ∧ Below w.heap.size w w' := by
  rcases Bool.eq_false_or_eq_true (curveB a b) with h | h
  · rcases Bool.eq_false_or_eq_true (inB x (-1000000) 1000000) with hx | hx
    · rcases Bool.eq_false_or_eq_true (inB y (-1000000) 1000000) with hy | hy
      · go_enter Try.func8, Try.ntmps8
        go_wp2_with (first | (go_at_call 16; refine (toCurve_any _ _ _).mono ?_; rintro e w1 ⟨rfl, hb1⟩; obtain ⟨hc1, hf1⟩ := bcell hb1; have hB1 : Below w.heap.size w w1 := Below.trans (by go_grown) (hb1.mono (by go_size)); first | (have hz1 : w.heap.size < w1.heap.size := by (have hzz := hb1.size; (try simp at hzz); omega)) | (have hz1 : w.heap.size ≤ w1.heap.size := by (have hzz := hb1.size; (try simp at hzz); omega))) | (go_at_call 25; refine (spec_yes _ _ _ _ h hx hy _).mono ?_; rintro e w2 ⟨rfl, hb2⟩; obtain ⟨hc2, hf2⟩ := bcell hb2; have hB2 : Below w.heap.size w w2 := Below.trans (by go_grown) (hb2.mono (by go_size)); first | (have hz2 : w.heap.size < w2.heap.size := by (have hzz := hb2.size; (try simp at hzz); omega)) | (have hz2 : w.heap.size ≤ w2.heap.size := by (have hzz := hb2.size; (try simp at hzz); omega))) | (go_at_call 26; refine (impl_yes _ _ _ _ h hx hy _).mono ?_; rintro e w3 ⟨rfl, hb3⟩; obtain ⟨hc3, hf3⟩ := bcell hb3; have hB3 : Below w.heap.size w w3 := Below.trans (by go_grown) (hb3.mono (by go_size)); first | (have hz3 : w.heap.size < w3.heap.size := by (have hzz := hb3.size; (try simp at hzz); omega)) | (have hz3 : w.heap.size ≤ w3.heap.size := by (have hzz := hb3.size; (try simp at hzz); omega))))
        go_ret
        exact ⟨rfl, by go_grown⟩
      · go_enter Try.func8, Try.ntmps8
        go_wp2_with (first | (go_at_call 16; refine (toCurve_any _ _ _).mono ?_; rintro e w1 ⟨rfl, hb1⟩; obtain ⟨hc1, hf1⟩ := bcell hb1; have hB1 : Below w.heap.size w w1 := Below.trans (by go_grown) (hb1.mono (by go_size)); first | (have hz1 : w.heap.size < w1.heap.size := by (have hzz := hb1.size; (try simp at hzz); omega)) | (have hz1 : w.heap.size ≤ w1.heap.size := by (have hzz := hb1.size; (try simp at hzz); omega))) | (go_at_call 25; refine (spec_no3 _ _ _ _ h hx hy _).mono ?_; rintro e w2 ⟨rfl, hb2⟩; obtain ⟨hc2, hf2⟩ := bcell hb2; have hB2 : Below w.heap.size w w2 := Below.trans (by go_grown) (hb2.mono (by go_size)); first | (have hz2 : w.heap.size < w2.heap.size := by (have hzz := hb2.size; (try simp at hzz); omega)) | (have hz2 : w.heap.size ≤ w2.heap.size := by (have hzz := hb2.size; (try simp at hzz); omega))) | (go_at_call 26; refine (impl_no3 _ _ _ _ h hx hy _).mono ?_; rintro e w3 ⟨rfl, hb3⟩; obtain ⟨hc3, hf3⟩ := bcell hb3; have hB3 : Below w.heap.size w w3 := Below.trans (by go_grown) (hb3.mono (by go_size)); first | (have hz3 : w.heap.size < w3.heap.size := by (have hzz := hb3.size; (try simp at hzz); omega)) | (have hz3 : w.heap.size ≤ w3.heap.size := by (have hzz := hb3.size; (try simp at hzz); omega))))
        go_ret
        exact ⟨rfl, by go_grown⟩
    · go_enter Try.func8, Try.ntmps8
      go_wp2_with (first | (go_at_call 16; refine (toCurve_any _ _ _).mono ?_; rintro e w1 ⟨rfl, hb1⟩; obtain ⟨hc1, hf1⟩ := bcell hb1; have hB1 : Below w.heap.size w w1 := Below.trans (by go_grown) (hb1.mono (by go_size)); first | (have hz1 : w.heap.size < w1.heap.size := by (have hzz := hb1.size; (try simp at hzz); omega)) | (have hz1 : w.heap.size ≤ w1.heap.size := by (have hzz := hb1.size; (try simp at hzz); omega))) | (go_at_call 25; refine (spec_no2 _ _ _ _ h hx _).mono ?_; rintro e w2 ⟨rfl, hb2⟩; obtain ⟨hc2, hf2⟩ := bcell hb2; have hB2 : Below w.heap.size w w2 := Below.trans (by go_grown) (hb2.mono (by go_size)); first | (have hz2 : w.heap.size < w2.heap.size := by (have hzz := hb2.size; (try simp at hzz); omega)) | (have hz2 : w.heap.size ≤ w2.heap.size := by (have hzz := hb2.size; (try simp at hzz); omega))) | (go_at_call 26; refine (impl_no2 _ _ _ _ h hx _).mono ?_; rintro e w3 ⟨rfl, hb3⟩; obtain ⟨hc3, hf3⟩ := bcell hb3; have hB3 : Below w.heap.size w w3 := Below.trans (by go_grown) (hb3.mono (by go_size)); first | (have hz3 : w.heap.size < w3.heap.size := by (have hzz := hb3.size; (try simp at hzz); omega)) | (have hz3 : w.heap.size ≤ w3.heap.size := by (have hzz := hb3.size; (try simp at hzz); omega))))
      go_ret
      exact ⟨rfl, by go_grown⟩
  · go_enter Try.func8, Try.ntmps8
    go_wp2_with (first | (go_at_call 16; refine (toCurve_any _ _ _).mono ?_; rintro e w1 ⟨rfl, hb1⟩; obtain ⟨hc1, hf1⟩ := bcell hb1; have hB1 : Below w.heap.size w w1 := Below.trans (by go_grown) (hb1.mono (by go_size)); first | (have hz1 : w.heap.size < w1.heap.size := by (have hzz := hb1.size; (try simp at hzz); omega)) | (have hz1 : w.heap.size ≤ w1.heap.size := by (have hzz := hb1.size; (try simp at hzz); omega))) | (go_at_call 25; refine (spec_no1 _ _ _ _ h _).mono ?_; rintro e w2 ⟨rfl, hb2⟩; obtain ⟨hc2, hf2⟩ := bcell hb2; have hB2 : Below w.heap.size w w2 := Below.trans (by go_grown) (hb2.mono (by go_size)); first | (have hz2 : w.heap.size < w2.heap.size := by (have hzz := hb2.size; (try simp at hzz); omega)) | (have hz2 : w.heap.size ≤ w2.heap.size := by (have hzz := hb2.size; (try simp at hzz); omega))) | (go_at_call 26; refine (impl_no1 _ _ _ _ h _).mono ?_; rintro e w3 ⟨rfl, hb3⟩; obtain ⟨hc3, hf3⟩ := bcell hb3; have hB3 : Below w.heap.size w w3 := Below.trans (by go_grown) (hb3.mono (by go_size)); first | (have hz3 : w.heap.size < w3.heap.size := by (have hzz := hb3.size; (try simp at hzz); omega)) | (have hz3 : w.heap.size ≤ w3.heap.size := by (have hzz := hb3.size; (try simp at hzz); omega))))
    go_ret
    exact ⟨rfl, by go_grown⟩
end Go.Proofs.Ytjikiimdjemnbaa.Ii
