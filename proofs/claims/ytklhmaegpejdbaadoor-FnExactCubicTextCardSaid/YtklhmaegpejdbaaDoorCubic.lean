/- Contracts on cubics: laws.toCubic, spec.cuGood, impl.isCubic, spec.cuValue, impl's at. No conditions but where they are said. -/
import Derived.Test.YtklhmaegpejdbaaDoorAll
namespace Go.Proofs.YtklhmaegpejdbaaDoor
open Go.RowKit
set_option linter.unusedVariables false
def cubB (a b c d : Int) : Bool := a != 0 && inB a (-1000) 1000 && inB b (-1000) 1000 && inB c (-1000) 1000 && inB d (-1000) 1000
theorem cubB_range {a b c d : Int} (h : cubB a b c d = true) : a ≠ 0 ∧ (-1000 ≤ a ∧ a ≤ 1000) ∧ (-1000 ≤ b ∧ b ≤ 1000) ∧ (-1000 ≤ c ∧ c ≤ 1000) ∧ (-1000 ≤ d ∧ d ≤ 1000) := by
  simp only [cubB, Bool.and_eq_true, inB_iff, bne_iff_ne] at h
  exact ⟨h.1.1.1.1, h.1.1.1.2, h.1.1.2, h.1.2, h.2⟩
theorem toCubic_any (a b c d : Int) (w : World) :
    Calls Tryd.prog 25 #[.agg #[.int .i64 a, .int .i64 b, .int .i64 c, .int .i64 d]] w fun e w' => e = .returned (.agg #[.int .i64 a, .int .i64 b, .int .i64 c, .int .i64 d]) ∧ Below w.heap.size w w' := by
  go_enter Tryd.func25, Tryd.ntmps25
  go_wp2
  go_returns
  exact ⟨rfl, by repeat' (first | (with_reducible exact Below.refl _ _) | (with_reducible assumption) | (with_reducible refine Below.alloc ?_ ?_ _) | (with_reducible refine Below.drew ?_) | (with_reducible refine below_drewN ?_ _) | (with_reducible refine Below.setCell ?_ ?_ _) | go_size)⟩
/-- Four ints in a block of their own read as a list. -/
theorem four_at (w : World) (a b c d : Int) (t : TypeId) : IntsAt (w.alloc (.cells #[.int .i64 a, .int .i64 b, .int .i64 c, .int .i64 d] t)) (some ⟨w.heap.size, 0, none⟩) [a, b, c, d] := by
  refine .inr ⟨_, rfl, fun k x hx => ?_⟩
  match k, hx with
  | 0, hx => simp at hx; subst hx; simp [Addr.add, World.cell?_alloc_at]
  | 1, hx => simp at hx; subst hx; simp [Addr.add, World.cell?_alloc_at]
  | 2, hx => simp at hx; subst hx; simp [Addr.add, World.cell?_alloc_at]
  | 3, hx => simp at hx; subst hx; simp [Addr.add, World.cell?_alloc_at]
theorem cuGood_any (a b c d : Int) (w : World) :
    Calls Tryd.prog 63 #[.agg #[.int .i64 a, .int .i64 b, .int .i64 c, .int .i64 d]] w fun e w' => e = .returned (.bool (cubB a b c d)) ∧ Below w.heap.size w w' := by
  by_cases h0 : a = 0
  · subst h0
    go_enter Tryd.func63, Tryd.ntmps63
    go_wp2
    go_ret
    exact ⟨ret_bool (by simp [cubB]), by repeat' (first | (with_reducible exact Below.refl _ _) | (with_reducible assumption) | (with_reducible refine Below.alloc ?_ ?_ _) | (with_reducible refine Below.drew ?_) | (with_reducible refine below_drewN ?_ _) | (with_reducible refine Below.setCell ?_ ?_ _) | go_size)⟩
  · have h1 : (a != 0) = true := by simp [h0]
    have HF := Lib.hid (four_at (w.alloc (.cells #[.int .i64 a, .int .i64 b, .int .i64 c, .int .i64 d] 48)) a b c d 3)
    clear h0
    go_enter Tryd.func63, Tryd.ntmps63
    go_wp2_with (go_at_call 95; refine (l1All_any [a, b, c, d] _ _ _ _ _ (by simp) (by simpa using HF.out)).mono ?_; rintro e w' ⟨rfl, rfl⟩)
    go_ret
    exact ⟨ret_bool (by simp [cubB, allB, h1, Bool.and_assoc]), by repeat' (first | (with_reducible exact Below.refl _ _) | (with_reducible assumption) | (with_reducible refine Below.alloc ?_ ?_ _) | (with_reducible refine Below.drew ?_) | (with_reducible refine below_drewN ?_ _) | (with_reducible refine Below.setCell ?_ ?_ _) | go_size)⟩
set_option maxHeartbeats 1000000 in
theorem isCubic_any (a b c d : Int) (w : World) :
    Calls Tryd.prog 65 #[.agg #[.int .i64 a, .int .i64 b, .int .i64 c, .int .i64 d]] w fun e w' => e = .returned (.bool (cubB a b c d)) ∧ Below w.heap.size w w' := by
  by_cases h0 : a = 0
  · subst h0
    go_enter Tryd.func65, Tryd.ntmps65
    go_wp2
    go_ret
    exact ⟨ret_bool (by simp [cubB]), by repeat' (first | (with_reducible exact Below.refl _ _) | (with_reducible assumption) | (with_reducible refine Below.alloc ?_ ?_ _) | (with_reducible refine Below.drew ?_) | (with_reducible refine below_drewN ?_ _) | (with_reducible refine Below.setCell ?_ ?_ _) | go_size)⟩
  · have h1 : (a != 0) = true := by simp [h0]
    clear h0
    rcases Bool.eq_false_or_eq_true (inB a (-1000) 1000) with h2 | h2
    · rcases Bool.eq_false_or_eq_true (inB b (-1000) 1000) with h3 | h3
      · rcases Bool.eq_false_or_eq_true (inB c (-1000) 1000) with h4 | h4
        all_goals
          go_enter Tryd.func65, Tryd.ntmps65
          go_wp2_with (go_at_call 90; refine (inside_any _ _ _ _).mono ?_; rintro e w' ⟨rfl, rfl⟩)
          go_ret
          exact ⟨ret_bool (by simp [cubB, h1, h2, h3, h4]), by repeat' (first | (with_reducible exact Below.refl _ _) | (with_reducible assumption) | (with_reducible refine Below.alloc ?_ ?_ _) | (with_reducible refine Below.drew ?_) | (with_reducible refine below_drewN ?_ _) | (with_reducible refine Below.setCell ?_ ?_ _) | go_size)⟩
      · go_enter Tryd.func65, Tryd.ntmps65
        go_wp2_with (go_at_call 90; refine (inside_any _ _ _ _).mono ?_; rintro e w' ⟨rfl, rfl⟩)
        go_ret
        exact ⟨ret_bool (by simp [cubB, h1, h2, h3]), by repeat' (first | (with_reducible exact Below.refl _ _) | (with_reducible assumption) | (with_reducible refine Below.alloc ?_ ?_ _) | (with_reducible refine Below.drew ?_) | (with_reducible refine below_drewN ?_ _) | (with_reducible refine Below.setCell ?_ ?_ _) | go_size)⟩
    · go_enter Tryd.func65, Tryd.ntmps65
      go_wp2_with (go_at_call 90; refine (inside_any _ _ _ _).mono ?_; rintro e w' ⟨rfl, rfl⟩)
      go_ret
      exact ⟨ret_bool (by simp [cubB, h1, h2]), by repeat' (first | (with_reducible exact Below.refl _ _) | (with_reducible assumption) | (with_reducible refine Below.alloc ?_ ?_ _) | (with_reducible refine Below.drew ?_) | (with_reducible refine below_drewN ?_ _) | (with_reducible refine Below.setCell ?_ ?_ _) | go_size)⟩
end Go.Proofs.YtklhmaegpejdbaaDoor
