/- Contracts of impl.smallest and spec.ecSmallest: the smallest model of a valid curve. -/
import Derived.Test.YtcefphdobllakaaCurRes
import Derived.BigRegion
namespace Go.Proofs.Ytcefphdobllakaa
open Go.RowKit
set_option linter.unusedVariables false
set_option linter.unusedSimpArgs false
theorem ret_two_int {a b x y n m : Int} (h1 : a = x) (h2 : b = y) (h3 : n = m) : Ending.returned (.tuple #[.agg #[.int .i64 a, .int .i64 b], .int .i64 n]) = .returned (.tuple #[.agg #[.int .i64 x, .int .i64 y], .int .i64 m]) := by rw [h1, h2, h3]
theorem ret_two_int_bool {a b x y n m : Int} {p q : Bool} (h1 : a = x) (h2 : b = y) (h3 : n = m) (h4 : p = q) : Ending.returned (.tuple #[.agg #[.int .i64 a, .int .i64 b], .int .i64 n, .bool p]) = .returned (.tuple #[.agg #[.int .i64 x, .int .i64 y], .int .i64 m, .bool q]) := by rw [h1, h2, h3, h4]
/-- u^4 divides a and u^6 divides b. -/
def dB (a b u : Int) : Bool := (a.tmod (u * u * u * u) == 0) && (b.tmod (u * u * u * u * u * u) == 0)
def smU (a b : Int) : Int := if dB a b 5 = true then 5 else if dB a b 4 = true then 4 else if dB a b 3 = true then 3 else if dB a b 2 = true then 2 else 1
def smA (a b : Int) : Int := a.tdiv (smU a b * smU a b * smU a b * smU a b)
def smB (a b : Int) : Int := b.tdiv (smU a b * smU a b * smU a b * smU a b * smU a b * smU a b)
theorem dB_one (a b : Int) : dB a b 1 = true := by simp [dB]
theorem dB_big {a b : Int} (h : curveB a b = true) (u : Int) (h0 : 6 ≤ u) (h1 : u ≤ 10) : dB a b u = false := by
  obtain ⟨⟨a0, a1⟩, ⟨b0, b1⟩, hc⟩ := curveB_range h
  rw [← Bool.not_eq_true]
  intro hd
  simp only [dB, Bool.and_eq_true, beq_iff_eq] at hd
  obtain ⟨ha, hb⟩ := hd
  refine hc ?_
  have e : a = 0 ∧ b = 0 := by
    have ha := Int.dvd_of_tmod_eq_zero ha
    have hb := Int.dvd_of_tmod_eq_zero hb
    rcases (show u = 6 ∨ u = 7 ∨ u = 8 ∨ u = 9 ∨ u = 10 by omega) with rfl | rfl | rfl | rfl | rfl <;> omega
  obtain ⟨rfl, rfl⟩ := e
  simp [coreW, wrap64]
theorem smU_of {a b u : Int} (h0 : 1 ≤ u) (h1 : u ≤ 5) (hd : dB a b u = true) (hb : ∀ v : Int, u < v → v ≤ 5 → dB a b v = false) : smU a b = u := by
  unfold smU
  rcases (show u = 1 ∨ u = 2 ∨ u = 3 ∨ u = 4 ∨ u = 5 by omega) with rfl | rfl | rfl | rfl | rfl
  · rw [hb 5 (by omega) (by omega), hb 4 (by omega) (by omega), hb 3 (by omega) (by omega), hb 2 (by omega) (by omega)]; rfl
  · rw [hb 5 (by omega) (by omega), hb 4 (by omega) (by omega), hb 3 (by omega) (by omega), hd]; rfl
  · rw [hb 5 (by omega) (by omega), hb 4 (by omega) (by omega), hd]; rfl
  · rw [hb 5 (by omega) (by omega), hd]; rfl
  · rw [hd]; rfl

set_option maxHeartbeats 6000000 in
theorem smallest_any (a b : Int) (h : curveB a b = true) (w : World) :
    Calls Try.prog 62 #[.agg #[.int .i64 a, .int .i64 b]] w fun e w' => e = .returned (.tuple #[.agg #[.int .i64 (smA a b), .int .i64 (smB a b)], .int .i64 (smU a b)]) ∧ Below w.heap.size w w' := by
  obtain ⟨⟨a0, a1⟩, ⟨b0, b1⟩, _⟩ := curveB_range h
  have HB := Lib.hid (dB_big h)
  clear h
  go_enter Try.func62, Try.ntmps62
  go_wp2
  go_loop [4] (fun x => ∃ u : Int, 1 ≤ u ∧ u ≤ 10 ∧ x = .int .i64 u ∧ Hid (∀ v : Int, u < v → v ≤ 10 → dB a b v = false)) (fun x => (intOf x).toNat)
  case atStart => exact ⟨10, by omega, by omega, rfl, fun v h1 h2 => absurd h1 (by omega)⟩
  case round =>
    obtain ⟨u, hu0, hu1, rfl, H⟩ := hrel
    have HD := Lib.hid (show dB a b u = true → u ≤ 5 ∧ smU a b = u from fun hd => by
      have h5 : u ≤ 5 := by
        rcases Int.lt_or_le 5 u with h1 | h1
        · rw [HB.out u (by omega) hu1] at hd; cases hd
        · exact h1
      exact ⟨h5, smU_of hu0 h5 hd fun v h1 h2 => H.out v h1 (by omega)⟩)
    have HN := Lib.hid (show dB a b u = false → Hid (∀ v : Int, u - 1 < v → v ≤ 10 → dB a b v = false) from fun hd v h1 h2 => by
      rcases Int.lt_or_le u v with h3 | h3
      · exact H.out v h3 h2
      · rw [show v = u by omega]; exact hd)
    rcases Bool.eq_false_or_eq_true (dB a b u) with hd | hd
    · obtain ⟨h5, hu⟩ := HD.out hd
      have HU := Lib.hid hu
      clear hu HD HN H HB
      simp only [dB, Bool.and_eq_true] at hd
      obtain ⟨t1, t2⟩ := hd
      rcases (show u = 1 ∨ u = 2 ∨ u = 3 ∨ u = 4 ∨ u = 5 by omega) with rfl | rfl | rfl | rfl | rfl
      all_goals
        simp only [Int.reduceMul] at t1 t2
        go_wp2
        go_region
        go_wp2
        refine bodyPost_ret (by simp [results, Try.results62, go_sem, *]; try rfl) rfl ?_
        exact ⟨ret_two_int (by rw [smA, HU.out]; first | rfl | (simp; done)) (by rw [smB, HU.out]; first | rfl | (simp; done)) HU.out.symm, by repeat' (first | (with_reducible exact Below.refl _ _) | (with_reducible assumption) | (with_reducible refine Below.alloc ?_ ?_ _) | (with_reducible refine Below.drew ?_) | (with_reducible refine below_drewN ?_ _) | (with_reducible refine Below.setCell ?_ ?_ _) | go_size)⟩
    · have HM := Lib.hid (HN.out hd)
      have hu2 : 2 ≤ u := by
        rcases Int.lt_or_le 1 u with h1 | h1
        · omega
        · rw [show u = 1 by omega, dB_one] at hd; cases hd
      clear HD HN H HB
      rcases Bool.eq_false_or_eq_true (a.tmod (u * u * u * u) == 0) with t1 | t1
      · have t2 : (b.tmod (u * u * u * u * u * u) == 0) = false := by simpa [dB, t1] using hd
        clear hd
        rcases (show u = 2 ∨ u = 3 ∨ u = 4 ∨ u = 5 ∨ u = 6 ∨ u = 7 ∨ u = 8 ∨ u = 9 ∨ u = 10 by omega) with rfl | rfl | rfl | rfl | rfl | rfl | rfl | rfl | rfl
        all_goals
          simp only [Int.reduceMul] at t1 t2
          go_wp2
          go_round
          case rel => exact ⟨_, by omega, by omega, rfl, HM.out⟩
          case measure => simp [intOf]
      · clear hd
        rcases (show u = 2 ∨ u = 3 ∨ u = 4 ∨ u = 5 ∨ u = 6 ∨ u = 7 ∨ u = 8 ∨ u = 9 ∨ u = 10 by omega) with rfl | rfl | rfl | rfl | rfl | rfl | rfl | rfl | rfl
        all_goals
          simp only [Int.reduceMul] at t1
          go_wp2
          go_round
          case rel => exact ⟨_, by omega, by omega, rfl, HM.out⟩
          case measure => simp [intOf]
set_option maxHeartbeats 6000000 in
theorem ecSmallest_any (a b : Int) (h : curveB a b = true) (w : World) :
    Calls Try.prog 65 #[.agg #[.int .i64 a, .int .i64 b]] w fun e w' => e = .returned (.tuple #[.agg #[.int .i64 (smA a b), .int .i64 (smB a b)], .int .i64 (smU a b)]) ∧ Below w.heap.size w w' := by
  obtain ⟨⟨a0, a1⟩, ⟨b0, b1⟩, _⟩ := curveB_range h
  clear h
  go_enter Try.func65, Try.ntmps65
  go_wp2
  go_loop [4, 5] (fun y x => ∃ u v : Int, 2 ≤ u ∧ u ≤ 6 ∧ 1 ≤ v ∧ v < u ∧ x = .int .i64 u ∧ y = .int .i64 v ∧ Hid (dB a b v = true) ∧ Hid (∀ z : Int, v < z → z < u → dB a b z = false)) (fun _ x => (6 - intOf x).toNat)
  case atStart => exact ⟨2, 1, by omega, by omega, by omega, by omega, rfl, rfl, dB_one a b, fun v h1 h2 => absurd h1 (by omega)⟩
  case round =>
    obtain ⟨u, v, hu0, hu1, hv0, hv1, rfl, rfl, HV, H⟩ := hrel
    by_cases h6 : u = 6
    · subst h6
      have HU := Lib.hid (smU_of (a := a) (b := b) (u := v) (by omega) (by omega) HV.out fun z h1 h2 => H.out z h1 (by omega))
      clear HV H
      rcases (show v = 1 ∨ v = 2 ∨ v = 3 ∨ v = 4 ∨ v = 5 by omega) with rfl | rfl | rfl | rfl | rfl
      all_goals
        go_wp2
        go_region
        go_wp2
        refine bodyPost_ret (by simp [results, Try.results65, go_sem, *]; try rfl) rfl ?_
        exact ⟨ret_two_int (by rw [smA, HU.out]; first | rfl | (simp; done)) (by rw [smB, HU.out]; first | rfl | (simp; done)) HU.out.symm, by repeat' (first | (with_reducible exact Below.refl _ _) | (with_reducible assumption) | (with_reducible refine Below.alloc ?_ ?_ _) | (with_reducible refine Below.drew ?_) | (with_reducible refine below_drewN ?_ _) | (with_reducible refine Below.setCell ?_ ?_ _) | go_size)⟩
    · have hu5 : u ≤ 5 := by omega
      clear h6
      rcases Bool.eq_false_or_eq_true (dB a b u) with hd | hd
      · have HD := Lib.hid hd
        clear HV H
        simp only [dB, Bool.and_eq_true] at hd
        obtain ⟨t1, t2⟩ := hd
        rcases (show u = 2 ∨ u = 3 ∨ u = 4 ∨ u = 5 by omega) with rfl | rfl | rfl | rfl
        all_goals
          simp only [Int.reduceMul] at t1 t2
          go_wp2
          go_round
          case rel => exact ⟨_, _, by omega, by omega, by omega, by omega, rfl, rfl, HD.out, fun z h1 h2 => absurd h1 (by omega)⟩
          case measure => simp [intOf]
      · have HN : Hid (∀ z : Int, v < z → z < u + 1 → dB a b z = false) := fun z h1 h2 => by
          rcases Int.lt_or_le z u with h3 | h3
          · exact H.out z h1 h3
          · rw [show z = u by omega]; exact hd
        clear H
        rcases Bool.eq_false_or_eq_true (a.tmod (u * u * u * u) == 0) with t1 | t1
        · have t2 : (b.tmod (u * u * u * u * u * u) == 0) = false := by simpa [dB, t1] using hd
          clear hd
          rcases (show u = 2 ∨ u = 3 ∨ u = 4 ∨ u = 5 by omega) with rfl | rfl | rfl | rfl
          all_goals
            simp only [Int.reduceMul] at t1 t2
            go_wp2
            go_round
            case rel => exact ⟨_, v, by omega, by omega, by omega, by omega, rfl, rfl, HV.out, HN.out⟩
            case measure => simp [intOf]
        · clear hd
          rcases (show u = 2 ∨ u = 3 ∨ u = 4 ∨ u = 5 by omega) with rfl | rfl | rfl | rfl
          all_goals
            simp only [Int.reduceMul] at t1
            go_wp2
            go_round
            case rel => exact ⟨_, v, by omega, by omega, by omega, by omega, rfl, rfl, HV.out, HN.out⟩
            case measure => simp [intOf]
end Go.Proofs.Ytcefphdobllakaa
