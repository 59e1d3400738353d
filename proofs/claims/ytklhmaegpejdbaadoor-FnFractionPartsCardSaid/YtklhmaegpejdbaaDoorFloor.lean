/- Contracts of impl.floorOf, spec.frDown and spec.frFloor: a quotient rounded down, for a positive divisor. -/
import Derived.Test.YtklhmaegpejdbaaDoorFrac
namespace Go.Proofs.YtklhmaegpejdbaaDoor
open Go.RowKit
set_option linter.unusedVariables false
set_option linter.unusedSimpArgs false
theorem floor_cases (a b : Int) (h : 1 ≤ b) : (a.tmod b < 0 ∧ a.tdiv b - 1 = a / b) ∨ (¬ a.tmod b < 0 ∧ a.tdiv b = a / b) := by
  obtain ⟨t0, t1⟩ : -b < a.tmod b ∧ a.tmod b < b := by
    have : (a.tmod b).natAbs < b.natAbs := by rw [Int.natAbs_tmod]; exact Nat.mod_lt _ (by omega)
    omega
  have e := Int.tmod_add_mul_tdiv a b
  by_cases h1 : a.tmod b < 0
  · refine .inl ⟨h1, ?_⟩
    have := (Int.ediv_emod_unique (a := a) (b := b) (r := a.tmod b + b) (q := a.tdiv b - 1) (by omega)).2 ⟨by rw [Int.mul_sub]; omega, by omega, by omega⟩
    exact this.1.symm
  · refine .inr ⟨h1, ?_⟩
    have := (Int.ediv_emod_unique (a := a) (b := b) (r := a.tmod b) (q := a.tdiv b) (by omega)).2 ⟨by omega, by omega, by omega⟩
    exact this.1.symm
theorem tdiv_small (a b M : Int) (h : -M ≤ a ∧ a ≤ M) : -M ≤ a.tdiv b ∧ a.tdiv b ≤ M := by
  have h1 : (a.tdiv b).natAbs = a.natAbs / b.natAbs := Int.natAbs_tdiv a b
  have h2 := Nat.div_le_self a.natAbs b.natAbs
  omega
theorem floorOf_any (a b : Int) (hb : 1 ≤ b) (hb2 : b ≤ 4000000000000000000) (h0 : -4000000000000000000 ≤ a) (h1 : a ≤ 4000000000000000000) (w : World) :
    Calls Tryd.prog 68 #[.int .i64 a, .int .i64 b] w fun e w' => e = .returned (.int .i64 (a / b)) ∧ w = w' := by
  obtain ⟨t0, t1⟩ := tdiv_small a b 4000000000000000000 ⟨h0, h1⟩
  have hz : (b == 0) = false := by simp; omega
  rcases floor_cases a b hb with ⟨h2, h3⟩ | ⟨h2, h3⟩
  all_goals
    have H3 := Lib.hid h3
    clear h3
    go_enter Tryd.func68, Tryd.ntmps68
    go_wp2
    go_ret
    exact ⟨ret_int H3.out, rfl⟩
theorem frDown_any (a b : Int) (hb : 1 ≤ b) (hb2 : b ≤ 4000000000000000000) (h0 : -4000000000000000000 ≤ a) (h1 : a ≤ 4000000000000000000) (w : World) :
    Calls Tryd.prog 82 #[.int .i64 a, .int .i64 b] w fun e w' => e = .returned (.int .i64 (a / b)) ∧ w = w' := by
  obtain ⟨t0, t1⟩ := tdiv_small a b 4000000000000000000 ⟨h0, h1⟩
  have hz : (b == 0) = false := by simp; omega
  rcases floor_cases a b hb with ⟨h2, h3⟩ | ⟨h2, h3⟩
  all_goals
    have H3 := Lib.hid h3
    clear h3
    go_enter Tryd.func82, Tryd.ntmps82
    go_wp2
    go_ret
    exact ⟨ret_int H3.out, rfl⟩
theorem frFloor_any (a b : Int) (hb : 1 ≤ b) (hb2 : b ≤ 4000000000000000000) (h0 : -4000000000000000000 ≤ a) (h1 : a ≤ 4000000000000000000) (w : World) :
    Calls Tryd.prog 70 #[.agg #[.int .i64 a, .int .i64 b]] w fun e w' => e = .returned (.int .i64 (a / b)) ∧ Below w.heap.size w w' := by
  go_enter Tryd.func70, Tryd.ntmps70
  go_wp2_with (go_at_call 82; refine (frDown_any _ _ hb hb2 h0 h1 _).mono ?_; rintro e w' ⟨rfl, rfl⟩)
  go_ret
  exact ⟨rfl, by repeat' (first | (with_reducible exact Below.refl _ _) | (with_reducible assumption) | (with_reducible refine Below.alloc ?_ ?_ _) | (with_reducible refine Below.drew ?_) | (with_reducible refine below_drewN ?_ _) | (with_reducible refine Below.setCell ?_ ?_ _) | go_size)⟩
end Go.Proofs.YtklhmaegpejdbaaDoor
