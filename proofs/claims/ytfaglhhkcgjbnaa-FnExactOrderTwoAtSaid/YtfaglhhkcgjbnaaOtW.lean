/- impl.OrderTwoAt and spec.OrderTwoAt; the walk of FnExactOrderTwoAt. -/
import Derived.Test.YtfaglhhkcgjbnaaInts
import Derived.Test.YtfaglhhkcgjbnaaCurve
namespace Go.Proofs.Ytfaglhhkcgjbnaa.Ot
open Go.RowKit
set_option linter.unusedVariables false
set_option linter.unusedSimpArgs false
def rtV (a b X : Int) : Int := X * X * X + a * X + b
def rtP (a b s : Int) (j : Nat) : Bool := rtV a b ((j : Int) + s) == 0
def rtF (s : Int) (j : Nat) : Int := (j : Int) + s
def otL (a b : Int) : List Int := if curveB a b = true then gath (rtP a b (-100)) (rtF (-100)) 201 else []
theorem rt_bd {a X : Int} (ha : -1000 ≤ a ∧ a ≤ 1000) (hX : -201 ≤ X ∧ X ≤ 201) : (-40401 ≤ X * X ∧ X * X ≤ 40401) ∧ (-8120601 ≤ X * X * X ∧ X * X * X ≤ 8120601) ∧ (-201000 ≤ a * X ∧ a * X ≤ 201000) := by
  have h1 : (X * X).natAbs ≤ 201 * 201 := by rw [Int.natAbs_mul]; exact Nat.mul_le_mul (by omega) (by omega)
  have h2 : (X * X * X).natAbs ≤ 201 * 201 * 201 := by rw [Int.natAbs_mul]; exact Nat.mul_le_mul h1 (by omega)
  have h3 : (a * X).natAbs ≤ 1000 * 201 := by rw [Int.natAbs_mul]; exact Nat.mul_le_mul (by omega) (by omega)
  omega
/-- Far from 0 there is no root. -/
theorem rt_far {a b X : Int} (ha : -1000 ≤ a ∧ a ≤ 1000) (hb : -10000 ≤ b ∧ b ≤ 10000) (hX : 101 ≤ X ∨ X ≤ -101) : (rtV a b X == 0) = false := by
  have h0 : rtV a b X ≠ 0 := by
    intro h
    unfold rtV at h
    have h1 : (X * X * X).natAbs = X.natAbs * X.natAbs * X.natAbs := by rw [Int.natAbs_mul, Int.natAbs_mul]
    have h2 : (a * X).natAbs ≤ 1000 * X.natAbs := by rw [Int.natAbs_mul]; exact Nat.mul_le_mul (by omega) (Nat.le_refl _)
    have h3 : 101 * 101 * X.natAbs ≤ X.natAbs * X.natAbs * X.natAbs := Nat.mul_le_mul (Nat.mul_le_mul (by omega) (by omega)) (Nat.le_refl _)
    generalize X * X * X = u at *
    generalize a * X = v at *
    omega
  simpa using h0
theorem gath_hi {P : Nat → Bool} {f : Nat → Int} {m : Nat} : ∀ l : Nat, (∀ j, m ≤ j → j < m + l → P j = false) → gath P f (m + l) = gath P f m
  | 0, _ => rfl
  | l + 1, h => by
    show gath P f (m + l + 1) = _
    rw [gath_no (h (m + l) (by omega) (by omega)), gath_hi l fun j h1 h2 => h j h1 (by omega)]
theorem gath_lo {P : Nat → Bool} {f : Nat → Int} {n : Nat} (h : ∀ j, j < n → P j = false) : ∀ m : Nat, gath P f (n + m) = gath (fun j => P (n + j)) (fun j => f (n + j)) m
  | 0 => by
    have := gath_hi (P := P) (f := f) (m := 0) n (fun j _ h2 => h j (by omega))
    rw [Nat.zero_add] at this
    rw [Nat.add_zero, this]
    rfl
  | m + 1 => by
    show gath P f (n + m + 1) = _
    rcases Bool.eq_false_or_eq_true (P (n + m)) with hp | hp
    · rw [gath_yes hp, gath_yes (P := fun j => P (n + j)) (k := m) hp, gath_lo h m]
    · rw [gath_no hp, gath_no (P := fun j => P (n + j)) (k := m) hp, gath_lo h m]
theorem rt_same {a b : Int} (ha : -1000 ≤ a ∧ a ≤ 1000) (hb : -10000 ≤ b ∧ b ≤ 10000) : gath (rtP a b (-200)) (rtF (-200)) 401 = gath (rtP a b (-100)) (rtF (-100)) 201 := by
  have h1 := gath_hi (P := rtP a b (-200)) (f := rtF (-200)) (m := 301) 100 (fun j h1 h2 => rt_far ha hb (by omega))
  have h2 := gath_lo (P := rtP a b (-200)) (f := rtF (-200)) (n := 100) (fun j h1 => rt_far ha hb (by omega)) 201
  show gath _ _ (301 + 100) = _
  rw [h1]
  show gath _ _ (100 + 201) = _
  rw [h2]
  congr 1
  · funext j; simp only [rtP]; congr 2; omega
  · funext j; simp only [rtF]; omega
theorem otL_short (a b : Int) : (otL a b).length ≤ 201 := by
  unfold otL
  split
  · exact gath_length _ _ _
  · simp
theorem ecValue_at (a b X : Int) (ha : -1000 ≤ a ∧ a ≤ 1000) (hb : -10000 ≤ b ∧ b ≤ 10000) (hX : -201 ≤ X ∧ X ≤ 201) (w : World) :
    Calls Try.prog 88 #[.agg #[.int .i64 a, .int .i64 b], .int .i64 X] w fun e w' => e = .returned (.int .i64 (rtV a b X)) ∧ Below w.heap.size w w' := by
  obtain ⟨⟨c0, c1⟩, ⟨c2, c3⟩, ⟨c4, c5⟩⟩ := rt_bd ha hX
  obtain ⟨b0, b1⟩ := hb
  clear ha hX
  go_enter Try.func88, Try.ntmps88
  go_wp2
  go_ret
  exact ⟨rfl, by repeat' (first | (with_reducible exact Below.refl _ _) | (with_reducible assumption) | (with_reducible refine Below.alloc ?_ ?_ _) | (with_reducible refine Below.drew ?_) | (with_reducible refine below_drewN ?_ _) | (with_reducible refine Below.setCell ?_ ?_ _) | go_size)⟩
set_option maxHeartbeats 4000000 in
theorem ecRoots_any (a b : Int) (hc : curveB a b = true) (w : World) :
    Calls Try.prog 57 #[.agg #[.int .i64 a, .int .i64 b]] w fun e w' => ∃ v, e = .returned v ∧ Nums w' w.heap.size v (otL a b) ∧ Below w.heap.size w w' := by
  obtain ⟨i0, hi, hz0, hz1, hz2⟩ := info_parts infoInt
  have HP := Lib.hid (show otL a b = gath (rtP a b (-100)) (rtF (-100)) 201 by unfold otL; rw [if_pos hc])
  obtain ⟨HA, HB2, _⟩ := curveB_range hc
  have HA := Lib.hid HA
  have HB2 := Lib.hid HB2
  clear hc
  go_enter Try.func57, Try.ntmps57
  go_wp2_with fail
  go_loopw [3, 4] (fun v p wr => ∃ (k : Nat) (X : Int), k ≤ 201 ∧ Hid (X = (k : Int) + -100) ∧ -100 ≤ X ∧ X ≤ 101 ∧ p = .int .i64 X ∧ Hid (Nums wr (w.heap.size + 1) v (gath (rtP a b (-100)) (rtF (-100)) k)) ∧ Hid (Below w.heap.size w wr) ∧ w.heap.size < wr.heap.size ∧ wr.cell? ⟨w.heap.size, 0, none⟩ = some (.int .i64 a) ∧ wr.cell? ⟨w.heap.size, 1, none⟩ = some (.int .i64 b)) (fun _ p _ => (101 - intOf p).toNat)
  case atStart => exact ⟨0, -100, by omega, Lib.hid rfl, by omega, by omega, rfl, Nums.nil _ _, (Below.refl _ _).alloc (Nat.le_refl _) _, by simp, by simp [go_sem], by simp [go_sem]⟩
  case round =>
    obtain ⟨k, X, hk, HX, x0, x1, rfl, HN, HB, hsz, ca, cb⟩ := hrel
    have hbw := HB.out
    have hlen := gath_length (rtP a b (-100)) (rtF (-100)) k
    by_cases hlt : X < 101
    · have HP1 := Lib.hid (show (rtP a b (-100)) k = (rtV a b X == 0) by rw [HX.out]; rfl)
      have HF1 := Lib.hid (show (rtF (-100)) k = X by rw [HX.out]; rfl)
      have HX2 : Hid (X + 1 = ((k + 1 : Nat) : Int) + -100) := by show _ = _; rw [HX.out]; omega
      have hk2 : k + 1 ≤ 201 := by have := HX.out; omega
      rcases Bool.eq_false_or_eq_true (rtV a b X == 0) with hp | hp
      · have HG := Lib.hid (gath_yes (P := (rtP a b (-100))) (f := (rtF (-100))) (k := k) (HP1.out.trans hp))
        have hp2 : (X * X * X + a * X + b == 0) = true := hp
        go_wp2_with (first | ((go_at_call 88; refine (ecValue_at a b X HA.out HB2.out (by omega) _).mono ?_; rintro e w5 ⟨rfl, hb5⟩; obtain ⟨hc5, hf5⟩ := bcell hb5; have hB5 : Below w.heap.size w w5 := Below.trans (by repeat' (first | (with_reducible exact Below.refl _ _) | (with_reducible assumption) | (with_reducible refine Below.alloc ?_ ?_ _) | (with_reducible refine Below.drew ?_) | (with_reducible refine below_drewN ?_ _) | (with_reducible refine Below.setCell ?_ ?_ _) | go_size)) (hb5.mono (by go_size)); (have hs5 := hb5.size); (try simp at hs5); (try (have hl5 := Nat.lt_of_succ_le hs5)); (first | (have hz5 : w.heap.size < w5.heap.size := by omega) | (have hz5 : w.heap.size ≤ w5.heap.size := by omega)); (try (have hz1_5 : w1.heap.size < w5.heap.size := by omega)); (try (have hz2_5 : w2.heap.size < w5.heap.size := by omega)); (try (have hz3_5 : w3.heap.size < w5.heap.size := by omega)); (try (have hz4_5 : w4.heap.size < w5.heap.size := by omega)); (try (have hzc_5 : wc.heap.size < w5.heap.size := by omega)); (try (have hy1_5 : w.heap.size + 1 < w5.heap.size := by omega)); (try (have hy2_5 : w.heap.size + 2 < w5.heap.size := by omega)); (try (have hy3_5 : w.heap.size + 3 < w5.heap.size := by omega))); have N5 := Lib.hid (HN.out.below hb5); have z5 := hb5.size) | (at_builtin; refine wpList_append_own _ rfl _ _ 22 rfl (w.heap.size + 1) 3 i0 (.int .i64 0) 1 8 underInts hi hz0 hz1 hz2 rfl (by decide) _ _ _ rfl (World.ownsRow.alloc N5.out _) ⟨w5.heap.size, 0, none⟩ 1 1 [.int .i64 (X)] rfl rfl (one_at _ _ rfl) (one_cell _) (by unfold maxLen; omega) (by omega) (by simp; omega) ?_; intro v' w1 hown' hgrow _))
        have R := nums_step N5.out (HB.out.trans (hb5.mono HB.out.size)) (Nat.le_succ _) (by omega) hown' hgrow
        have R1 := Lib.hid R.1
        have R2 := Lib.hid R.2
        have Y1 : w.heap.size < w1.heap.size := by have := hgrow.size; simp at this; omega
        have Y2 : w1.cell? ⟨w.heap.size, 0, none⟩ = some (.int .i64 a) := cell_step N5.out (Nat.lt_succ_self _) (by omega) hgrow ((hb5.cell hsz).trans ca)
        have Y3 : w1.cell? ⟨w.heap.size, 1, none⟩ = some (.int .i64 b) := cell_step N5.out (Nat.lt_succ_self _) (by omega) hgrow ((hb5.cell hsz).trans cb)
        clear R hown' hgrow
        go_wp2
        go_roundw
        case rel => exact ⟨k + 1, X + 1, hk2, HX2, by omega, by omega, by go_num, by rw [HG.out, HF1.out]; exact R1.out, R2, Y1, Y2, Y3⟩
        case measure => simp [intOf]; omega
      · have HG := Lib.hid (gath_no (P := (rtP a b (-100))) (f := (rtF (-100))) (k := k) (HP1.out.trans hp))
        have hp2 : (X * X * X + a * X + b == 0) = false := hp
        go_wp2_with (first | ((go_at_call 88; refine (ecValue_at a b X HA.out HB2.out (by omega) _).mono ?_; rintro e w5 ⟨rfl, hb5⟩; obtain ⟨hc5, hf5⟩ := bcell hb5; have hB5 : Below w.heap.size w w5 := Below.trans (by repeat' (first | (with_reducible exact Below.refl _ _) | (with_reducible assumption) | (with_reducible refine Below.alloc ?_ ?_ _) | (with_reducible refine Below.drew ?_) | (with_reducible refine below_drewN ?_ _) | (with_reducible refine Below.setCell ?_ ?_ _) | go_size)) (hb5.mono (by go_size)); (have hs5 := hb5.size); (try simp at hs5); (try (have hl5 := Nat.lt_of_succ_le hs5)); (first | (have hz5 : w.heap.size < w5.heap.size := by omega) | (have hz5 : w.heap.size ≤ w5.heap.size := by omega)); (try (have hz1_5 : w1.heap.size < w5.heap.size := by omega)); (try (have hz2_5 : w2.heap.size < w5.heap.size := by omega)); (try (have hz3_5 : w3.heap.size < w5.heap.size := by omega)); (try (have hz4_5 : w4.heap.size < w5.heap.size := by omega)); (try (have hzc_5 : wc.heap.size < w5.heap.size := by omega)); (try (have hy1_5 : w.heap.size + 1 < w5.heap.size := by omega)); (try (have hy2_5 : w.heap.size + 2 < w5.heap.size := by omega)); (try (have hy3_5 : w.heap.size + 3 < w5.heap.size := by omega))); have N5 := Lib.hid (HN.out.below hb5); have z5 := hb5.size) | fail)
        go_roundw
        case rel => exact ⟨k + 1, X + 1, hk2, HX2, by omega, by omega, by go_num, by rw [HG.out]; exact N5.out, (HB.out.trans (hb5.mono HB.out.size)), by omega, (hb5.cell hsz).trans ca, (hb5.cell hsz).trans cb⟩
        case measure => simp [intOf]; omega
    · have HK := Lib.hid (show k = 201 by have := HX.out; omega)
      go_wp2
      go_ret
      exact ⟨_, rfl, by rw [HP.out, ← HK.out]; exact HN.out.mono (Nat.le_succ _), HB.out⟩
set_option maxHeartbeats 4000000 in
theorem impl_any (a b : Int) (w : World) :
    Calls Try.prog 22 #[.agg #[.int .i64 a, .int .i64 b]] w fun e w' => ∃ v, e = .returned (.tuple #[v, .bool (curveB a b)]) ∧ Nums w' w.heap.size v (otL a b) ∧ Below w.heap.size w w' := by
  obtain ⟨i0, hi, hz0, hz1, hz2⟩ := info_parts infoInt
  rcases Bool.eq_false_or_eq_true (curveB a b) with hc | hc
  · obtain ⟨HA, HB2, _⟩ := curveB_range hc
    have HP := Lib.hid (show otL a b = gath (rtP a b (-200)) (rtF (-200)) 401 by unfold otL; rw [if_pos hc, rt_same HA HB2])
    have HC := Lib.hid hc
    have HA := Lib.hid HA
    have HB2 := Lib.hid HB2
    go_enter Try.func22, Try.ntmps22
    go_wp2_with fail
    (go_at_call 58; refine (isCurve_any _ _ _).mono ?_; rintro e w4 ⟨rfl, hb4⟩; obtain ⟨hc4, hf4⟩ := bcell hb4; have hB4 : Below w.heap.size w w4 := Below.trans (by repeat' (first | (with_reducible exact Below.refl _ _) | (with_reducible assumption) | (with_reducible refine Below.alloc ?_ ?_ _) | (with_reducible refine Below.drew ?_) | (with_reducible refine below_drewN ?_ _) | (with_reducible refine Below.setCell ?_ ?_ _) | go_size)) (hb4.mono (by go_size)); (have hs4 := hb4.size); (try simp at hs4); (try (have hl4 := Nat.lt_of_succ_le hs4)); (first | (have hz4 : w.heap.size < w4.heap.size := by omega) | (have hz4 : w.heap.size ≤ w4.heap.size := by omega)); (try (have hz1_4 : w1.heap.size < w4.heap.size := by omega)); (try (have hz2_4 : w2.heap.size < w4.heap.size := by omega)); (try (have hz3_4 : w3.heap.size < w4.heap.size := by omega)); (try (have hz5_4 : w5.heap.size < w4.heap.size := by omega)); (try (have hzc_4 : wc.heap.size < w4.heap.size := by omega)); (try (have hy1_4 : w.heap.size + 1 < w4.heap.size := by omega)); (try (have hy2_4 : w.heap.size + 2 < w4.heap.size := by omega)); (try (have hy3_4 : w.heap.size + 3 < w4.heap.size := by omega)); (have k4_0 : w4.cell? ⟨w.heap.size, 0, none⟩ = some (.int .i64 a) := by (rw [hb4.cell (by first | (simp; done) | (simp; omega) | omega)]; first | assumption | (simp [go_sem]; done) | (simp [*, go_sem]; done))); (have k4_1 : w4.cell? ⟨w.heap.size, 1, none⟩ = some (.int .i64 b) := by (rw [hb4.cell (by first | (simp; done) | (simp; omega) | omega)]; first | assumption | (simp [go_sem]; done) | (simp [*, go_sem]; done))))
    go_wp2_with fail
    go_loopw [4, 5] (fun v p wr => ∃ (k : Nat) (X : Int), k ≤ 401 ∧ Hid (X = (k : Int) + -200) ∧ -200 ≤ X ∧ X ≤ 201 ∧ p = .int .i64 X ∧ Hid (Nums wr (w.heap.size + 1) v (gath (rtP a b (-200)) (rtF (-200)) k)) ∧ Hid (Below w.heap.size w wr) ∧ w.heap.size < wr.heap.size ∧ wr.cell? ⟨w.heap.size, 0, none⟩ = some (.int .i64 a) ∧ wr.cell? ⟨w.heap.size, 1, none⟩ = some (.int .i64 b)) (fun _ p _ => (201 - intOf p).toNat)
    case atStart => exact ⟨0, -200, by omega, Lib.hid rfl, by omega, by omega, rfl, Nums.nil _ _, hB4, by omega, k4_0, k4_1⟩
    case round =>
      obtain ⟨k, X, hk, HX, x0, x1, rfl, HN, HB, hsz, ca, cb⟩ := hrel
      have hbw := HB.out
      have hlen := gath_length (rtP a b (-200)) (rtF (-200)) k
      obtain ⟨⟨f0, f1⟩, ⟨f2, f3⟩, ⟨f4, f5⟩⟩ := rt_bd (a := a) (X := X) HA.out (by omega)
      obtain ⟨g0, g1⟩ := HB2.out
      by_cases hlt : X < 201
      · have HP1 := Lib.hid (show (rtP a b (-200)) k = (rtV a b X == 0) by rw [HX.out]; rfl)
        have HF1 := Lib.hid (show (rtF (-200)) k = X by rw [HX.out]; rfl)
        have HX2 : Hid (X + 1 = ((k + 1 : Nat) : Int) + -200) := by show _ = _; rw [HX.out]; omega
        have hk2 : k + 1 ≤ 401 := by have := HX.out; omega
        rcases Bool.eq_false_or_eq_true (rtV a b X == 0) with hp | hp
        · have HG := Lib.hid (gath_yes (P := (rtP a b (-200))) (f := (rtF (-200))) (k := k) (HP1.out.trans hp))
          have hp2 : (X * X * X + a * X + b == 0) = true := hp
          go_wp2_with (first | (at_builtin; refine wpList_append_own _ rfl _ _ 22 rfl (w.heap.size + 1) 3 i0 (.int .i64 0) 1 8 underInts hi hz0 hz1 hz2 rfl (by decide) _ _ _ rfl (World.ownsRow.alloc HN.out _) ⟨wr.heap.size, 0, none⟩ 1 1 [.int .i64 (X)] rfl rfl (one_at _ _ rfl) (one_cell _) (by unfold maxLen; omega) (by omega) (by simp; omega) ?_; intro v' w1 hown' hgrow _))
          have R := nums_step HN.out HB.out (Nat.le_succ _) (by omega) hown' hgrow
          have R1 := Lib.hid R.1
          have R2 := Lib.hid R.2
          have Y1 : w.heap.size < w1.heap.size := by have := hgrow.size; simp at this; omega
          have Y2 : w1.cell? ⟨w.heap.size, 0, none⟩ = some (.int .i64 a) := cell_step HN.out (Nat.lt_succ_self _) (by omega) hgrow (ca)
          have Y3 : w1.cell? ⟨w.heap.size, 1, none⟩ = some (.int .i64 b) := cell_step HN.out (Nat.lt_succ_self _) (by omega) hgrow (cb)
          clear R hown' hgrow
          go_wp2
          go_roundw
          case rel => exact ⟨k + 1, X + 1, hk2, HX2, by omega, by omega, by go_num, by rw [HG.out, HF1.out]; exact R1.out, R2, Y1, Y2, Y3⟩
          case measure => simp [intOf]; omega
        · have HG := Lib.hid (gath_no (P := (rtP a b (-200))) (f := (rtF (-200))) (k := k) (HP1.out.trans hp))
          have hp2 : (X * X * X + a * X + b == 0) = false := hp
          go_wp2_with (first | fail)
          go_roundw
          case rel => exact ⟨k + 1, X + 1, hk2, HX2, by omega, by omega, by go_num, by rw [HG.out]; exact HN.out, HB.out, by omega, ca, cb⟩
          case measure => simp [intOf]; omega
      · have HK := Lib.hid (show k = 401 by have := HX.out; omega)
        go_wp2
        go_ret2
        exact ⟨_, ret_v_bool (by simp [HC.out]), by rw [HP.out, ← HK.out]; exact HN.out.mono (Nat.le_succ _), HB.out⟩
  · have HP := Lib.hid (show otL a b = [] by unfold otL; rw [hc]; rfl)
    have HC := Lib.hid hc
    go_enter Try.func22, Try.ntmps22
    go_wp2_with (go_at_call 58; refine (isCurve_any _ _ _).mono ?_; rintro e w1 ⟨rfl, hb1⟩; obtain ⟨hc1, hf1⟩ := bcell hb1; have hB1 : Below w.heap.size w w1 := Below.trans (by repeat' (first | (with_reducible exact Below.refl _ _) | (with_reducible assumption) | (with_reducible refine Below.alloc ?_ ?_ _) | (with_reducible refine Below.drew ?_) | (with_reducible refine below_drewN ?_ _) | (with_reducible refine Below.setCell ?_ ?_ _) | go_size)) (hb1.mono (by go_size)); (have hs1 := hb1.size); (try simp at hs1); (try (have hl1 := Nat.lt_of_succ_le hs1)); (first | (have hz1 : w.heap.size < w1.heap.size := by omega) | (have hz1 : w.heap.size ≤ w1.heap.size := by omega)); (try (have hz2_1 : w2.heap.size < w1.heap.size := by omega)); (try (have hz3_1 : w3.heap.size < w1.heap.size := by omega)); (try (have hz4_1 : w4.heap.size < w1.heap.size := by omega)); (try (have hz5_1 : w5.heap.size < w1.heap.size := by omega)); (try (have hzc_1 : wc.heap.size < w1.heap.size := by omega)); (try (have hy1_1 : w.heap.size + 1 < w1.heap.size := by omega)); (try (have hy2_1 : w.heap.size + 2 < w1.heap.size := by omega)); (try (have hy3_1 : w.heap.size + 3 < w1.heap.size := by omega)))
    go_ret2
    exact ⟨_, ret_v_bool (by simp [HC.out]), by rw [HP.out]; exact Nums.nil _ _, by repeat' (first | (with_reducible exact Below.refl _ _) | (with_reducible assumption) | (with_reducible refine Below.alloc ?_ ?_ _) | (with_reducible refine Below.drew ?_) | (with_reducible refine below_drewN ?_ _) | (with_reducible refine Below.setCell ?_ ?_ _) | go_size)⟩
theorem spec_any (a b : Int) (w : World) :
    Calls Try.prog 20 #[.agg #[.int .i64 a, .int .i64 b]] w fun e w' => ∃ v, e = .returned (.tuple #[v, .bool (curveB a b)]) ∧ Nums w' w.heap.size v (otL a b) ∧ Below w.heap.size w w' := by
  rcases Bool.eq_false_or_eq_true (curveB a b) with hc | hc
  · have HC := Lib.hid hc
    go_enter Try.func20, Try.ntmps20
    go_wp2_with fail
    (go_at_call 56; refine (ecGood_any _ _ _).mono ?_; rintro e w4 ⟨rfl, hb4⟩; obtain ⟨hc4, hf4⟩ := bcell hb4; have hB4 : Below w.heap.size w w4 := Below.trans (by repeat' (first | (with_reducible exact Below.refl _ _) | (with_reducible assumption) | (with_reducible refine Below.alloc ?_ ?_ _) | (with_reducible refine Below.drew ?_) | (with_reducible refine below_drewN ?_ _) | (with_reducible refine Below.setCell ?_ ?_ _) | go_size)) (hb4.mono (by go_size)); (have hs4 := hb4.size); (try simp at hs4); (try (have hl4 := Nat.lt_of_succ_le hs4)); (first | (have hz4 : w.heap.size < w4.heap.size := by omega) | (have hz4 : w.heap.size ≤ w4.heap.size := by omega)); (try (have hz1_4 : w1.heap.size < w4.heap.size := by omega)); (try (have hz2_4 : w2.heap.size < w4.heap.size := by omega)); (try (have hz3_4 : w3.heap.size < w4.heap.size := by omega)); (try (have hz5_4 : w5.heap.size < w4.heap.size := by omega)); (try (have hzc_4 : wc.heap.size < w4.heap.size := by omega)); (try (have hy1_4 : w.heap.size + 1 < w4.heap.size := by omega)); (try (have hy2_4 : w.heap.size + 2 < w4.heap.size := by omega)); (try (have hy3_4 : w.heap.size + 3 < w4.heap.size := by omega)); (have k4_0 : w4.cell? ⟨w.heap.size, 0, none⟩ = some (.int .i64 a) := by (rw [hb4.cell (by first | (simp; done) | (simp; omega) | omega)]; first | assumption | (simp [go_sem]; done) | (simp [*, go_sem]; done))); (have k4_1 : w4.cell? ⟨w.heap.size, 1, none⟩ = some (.int .i64 b) := by (rw [hb4.cell (by first | (simp; done) | (simp; omega) | omega)]; first | assumption | (simp [go_sem]; done) | (simp [*, go_sem]; done))))
    go_wp2_with fail
    (go_at_call 57; refine (ecRoots_any a b HC.out _).mono ?_; rintro e w2 ⟨v2, rfl, n2, hb2⟩)
    have N2 := Lib.hid (n2.mono (C := w.heap.size) (by omega))
    clear n2
    go_wp2
    go_ret2
    exact ⟨_, ret_v_bool (by simp [HC.out]), N2.out, hB4.trans (hb2.mono (by omega))⟩
  · have HP := Lib.hid (show otL a b = [] by unfold otL; rw [hc]; rfl)
    have HC := Lib.hid hc
    go_enter Try.func20, Try.ntmps20
    go_wp2_with (go_at_call 56; refine (ecGood_any _ _ _).mono ?_; rintro e w1 ⟨rfl, hb1⟩; obtain ⟨hc1, hf1⟩ := bcell hb1; have hB1 : Below w.heap.size w w1 := Below.trans (by repeat' (first | (with_reducible exact Below.refl _ _) | (with_reducible assumption) | (with_reducible refine Below.alloc ?_ ?_ _) | (with_reducible refine Below.drew ?_) | (with_reducible refine below_drewN ?_ _) | (with_reducible refine Below.setCell ?_ ?_ _) | go_size)) (hb1.mono (by go_size)); (have hs1 := hb1.size); (try simp at hs1); (try (have hl1 := Nat.lt_of_succ_le hs1)); (first | (have hz1 : w.heap.size < w1.heap.size := by omega) | (have hz1 : w.heap.size ≤ w1.heap.size := by omega)); (try (have hz2_1 : w2.heap.size < w1.heap.size := by omega)); (try (have hz3_1 : w3.heap.size < w1.heap.size := by omega)); (try (have hz4_1 : w4.heap.size < w1.heap.size := by omega)); (try (have hz5_1 : w5.heap.size < w1.heap.size := by omega)); (try (have hzc_1 : wc.heap.size < w1.heap.size := by omega)); (try (have hy1_1 : w.heap.size + 1 < w1.heap.size := by omega)); (try (have hy2_1 : w.heap.size + 2 < w1.heap.size := by omega)); (try (have hy3_1 : w.heap.size + 3 < w1.heap.size := by omega)))
    go_ret2
    exact ⟨_, ret_v_bool (by simp [HC.out]), by rw [HP.out]; exact Nums.nil _ _, by repeat' (first | (with_reducible exact Below.refl _ _) | (with_reducible assumption) | (with_reducible refine Below.alloc ?_ ?_ _) | (with_reducible refine Below.drew ?_) | (with_reducible refine below_drewN ?_ _) | (with_reducible refine Below.setCell ?_ ?_ _) | go_size)⟩
theorem otL_short2 (a b : Int) : (otL a b).length ≤ 4611686018427387904 := by have := otL_short a b; omega
theorem otL_short2' (a b : Int) : (otL a b).length ≤ 1000000000000000 := by have := otL_short a b; omega
set_option maxHeartbeats 4000000 in
theorem walk (a b : Int) (_ : (Lit.int .i64 a).wf = true) (_ : (Lit.int .i64 b).wf = true) (w : World) : Calls Try.prog 4 #[.agg #[.int .i64 a, .int .i64 b]] w fun e w' => e = .returned (.bool true) ∧ Below w.heap.size w w' := by
  go_enter Try.func4, Try.ntmps4
  go_wp2_with (go_at_call 21; refine (toCurve_any _ _ _).mono ?_; rintro e w1 ⟨rfl, hb1⟩; obtain ⟨hc1, hf1⟩ := bcell hb1; have hB1 : Below w.heap.size w w1 := Below.trans (by repeat' (first | (with_reducible exact Below.refl _ _) | (with_reducible assumption) | (with_reducible refine Below.alloc ?_ ?_ _) | (with_reducible refine Below.drew ?_) | (with_reducible refine below_drewN ?_ _) | (with_reducible refine Below.setCell ?_ ?_ _) | go_size)) (hb1.mono (by go_size)); (have hs1 := hb1.size); (try simp at hs1); (try (have hl1 := Nat.lt_of_succ_le hs1)); (first | (have hz1 : w.heap.size < w1.heap.size := by omega) | (have hz1 : w.heap.size ≤ w1.heap.size := by omega)); (try (have hz2_1 : w2.heap.size < w1.heap.size := by omega)); (try (have hz3_1 : w3.heap.size < w1.heap.size := by omega)); (try (have hz4_1 : w4.heap.size < w1.heap.size := by omega)); (try (have hz5_1 : w5.heap.size < w1.heap.size := by omega)); (try (have hzc_1 : wc.heap.size < w1.heap.size := by omega)); (try (have hy1_1 : w.heap.size + 1 < w1.heap.size := by omega)); (try (have hy2_1 : w.heap.size + 2 < w1.heap.size := by omega)); (try (have hy3_1 : w.heap.size + 3 < w1.heap.size := by omega)))
  (go_at_call 20; refine (spec_any _ _ _).mono ?_; rintro e w2 ⟨v2, rfl, n2, hb2⟩; obtain ⟨hc2, hf2⟩ := bcellB hb2; have hB2 : Below w.heap.size w w2 := Below.trans (by repeat' (first | (with_reducible exact Below.refl _ _) | (with_reducible assumption) | (with_reducible refine Below.alloc ?_ ?_ _) | (with_reducible refine Below.drew ?_) | (with_reducible refine below_drewN ?_ _) | (with_reducible refine Below.setCell ?_ ?_ _) | go_size)) (hb2.mono (by go_size)); (have hs2 := hb2.size); (try simp at hs2); (first | (have hz2 : w.heap.size < w2.heap.size := by omega) | (have hz2 : w.heap.size ≤ w2.heap.size := by omega)))
  have q2 := hb2.size
  go_wp2_with (go_at_call 21; refine (toCurve_any _ _ _).mono ?_; rintro e w3 ⟨rfl, hb3⟩; obtain ⟨hc3, hf3⟩ := bcell hb3; have hB3 : Below w.heap.size w w3 := Below.trans (by repeat' (first | (with_reducible exact Below.refl _ _) | (with_reducible assumption) | (with_reducible refine Below.alloc ?_ ?_ _) | (with_reducible refine Below.drew ?_) | (with_reducible refine below_drewN ?_ _) | (with_reducible refine Below.setCell ?_ ?_ _) | go_size)) (hb3.mono (by go_size)); (have hs3 := hb3.size); (try simp at hs3); (try (have hl3 := Nat.lt_of_succ_le hs3)); (first | (have hz3 : w.heap.size < w3.heap.size := by omega) | (have hz3 : w.heap.size ≤ w3.heap.size := by omega)); (try (have hz1_3 : w1.heap.size < w3.heap.size := by omega)); (try (have hz2_3 : w2.heap.size < w3.heap.size := by omega)); (try (have hz4_3 : w4.heap.size < w3.heap.size := by omega)); (try (have hz5_3 : w5.heap.size < w3.heap.size := by omega)); (try (have hzc_3 : wc.heap.size < w3.heap.size := by omega)); (try (have hy1_3 : w.heap.size + 1 < w3.heap.size := by omega)); (try (have hy2_3 : w.heap.size + 2 < w3.heap.size := by omega)); (try (have hy3_3 : w.heap.size + 3 < w3.heap.size := by omega)))
  (go_at_call 22; refine (impl_any _ _ _).mono ?_; rintro e w4 ⟨v4, rfl, n4, hb4⟩; obtain ⟨hc4, hf4⟩ := bcellB hb4; have hB4 : Below w.heap.size w w4 := Below.trans (by repeat' (first | (with_reducible exact Below.refl _ _) | (with_reducible assumption) | (with_reducible refine Below.alloc ?_ ?_ _) | (with_reducible refine Below.drew ?_) | (with_reducible refine below_drewN ?_ _) | (with_reducible refine Below.setCell ?_ ?_ _) | go_size)) (hb4.mono (by go_size)); (have hs4 := hb4.size); (try simp at hs4); (first | (have hz4 : w.heap.size < w4.heap.size := by omega) | (have hz4 : w.heap.size ≤ w4.heap.size := by omega)))
  have q4 := hb4.size
  have m2 : Nums w4 _ v2 _ := (n2.below hb3).below hb4
  have q3 := hb3.size
  have ap := Nums.apart n2 n4 (by omega)
  have N2 := Lib.hid m2
  have N4 := Lib.hid n4
  have AP := Lib.hid ap
  clear m2 n2 n4 ap
  go_wp2_with fail
  (go_at_call 17; refine (eqIntS_same N4.out N2.out (otL_short2 a b)).mono ?_; rintro e w5 ⟨rfl, hb5⟩; obtain ⟨hc5, hf5⟩ := bcellB hb5; have hB5 : Below w.heap.size w w5 := Below.trans (by repeat' (first | (with_reducible exact Below.refl _ _) | (with_reducible assumption) | (with_reducible refine Below.alloc ?_ ?_ _) | (with_reducible refine Below.drew ?_) | (with_reducible refine below_drewN ?_ _) | (with_reducible refine Below.setCell ?_ ?_ _) | go_size)) (hb5.mono (by go_size)); (have hs5 := hb5.size); (try simp at hs5); (first | (have hz5 : w.heap.size < w5.heap.size := by omega) | (have hz5 : w.heap.size ≤ w5.heap.size := by omega)))
  have q5 := hb5.size
  go_wp2_with fail
  (go_at_call 18; refine (markIntS_row 1 (N4.out.below hb5) (by omega) (otL_short2' a b) (by omega) (by omega)).mono ?_; rintro e w6 ⟨rfl, n6, g6, hb6⟩; obtain ⟨hc6, hf6⟩ := bcellB hb6; have hB6 : Below w.heap.size w w6 := Below.trans (by repeat' (first | (with_reducible exact Below.refl _ _) | (with_reducible assumption) | (with_reducible refine Below.alloc ?_ ?_ _) | (with_reducible refine Below.drew ?_) | (with_reducible refine below_drewN ?_ _) | (with_reducible refine Below.setCell ?_ ?_ _) | go_size)) (hb6.mono (by go_size)); (have hs6 := hb6.size); (try simp at hs6); (first | (have hz6 : w.heap.size < w6.heap.size := by omega) | (have hz6 : w.heap.size ≤ w6.heap.size := by omega)))
  have q6 := hb6.size
  have N6 := Lib.hid n6
  have N26 := Lib.hid ((N2.out.below hb5).kept g6 AP.out)
  clear n6 g6
  go_wp2_with fail
  (go_at_call 19; refine (heldIntS_any 1 N6.out (otL_short2' a b) (by omega) (by omega)).mono ?_; rintro e w' ⟨rfl, rfl⟩)
  go_wp2_with (go_at_call 21; refine (toCurve_any _ _ _).mono ?_; rintro e w7 ⟨rfl, hb7⟩; obtain ⟨hc7, hf7⟩ := bcell hb7; have hB7 : Below w.heap.size w w7 := Below.trans (by repeat' (first | (with_reducible exact Below.refl _ _) | (with_reducible assumption) | (with_reducible refine Below.alloc ?_ ?_ _) | (with_reducible refine Below.drew ?_) | (with_reducible refine below_drewN ?_ _) | (with_reducible refine Below.setCell ?_ ?_ _) | go_size)) (hb7.mono (by go_size)); (have hs7 := hb7.size); (try simp at hs7); (try (have hl7 := Nat.lt_of_succ_le hs7)); (first | (have hz7 : w.heap.size < w7.heap.size := by omega) | (have hz7 : w.heap.size ≤ w7.heap.size := by omega)); (try (have hz1_7 : w1.heap.size < w7.heap.size := by omega)); (try (have hz2_7 : w2.heap.size < w7.heap.size := by omega)); (try (have hz3_7 : w3.heap.size < w7.heap.size := by omega)); (try (have hz4_7 : w4.heap.size < w7.heap.size := by omega)); (try (have hz5_7 : w5.heap.size < w7.heap.size := by omega)); (try (have hzc_7 : wc.heap.size < w7.heap.size := by omega)); (try (have hy1_7 : w.heap.size + 1 < w7.heap.size := by omega)); (try (have hy2_7 : w.heap.size + 2 < w7.heap.size := by omega)); (try (have hy3_7 : w.heap.size + 3 < w7.heap.size := by omega)))
  (go_at_call 22; refine (impl_any _ _ _).mono ?_; rintro e w8 ⟨v8, rfl, n8, hb8⟩; obtain ⟨hc8, hf8⟩ := bcellB hb8; have hB8 : Below w.heap.size w w8 := Below.trans (by repeat' (first | (with_reducible exact Below.refl _ _) | (with_reducible assumption) | (with_reducible refine Below.alloc ?_ ?_ _) | (with_reducible refine Below.drew ?_) | (with_reducible refine below_drewN ?_ _) | (with_reducible refine Below.setCell ?_ ?_ _) | go_size)) (hb8.mono (by go_size)); (have hs8 := hb8.size); (try simp at hs8); (first | (have hz8 : w.heap.size < w8.heap.size := by omega) | (have hz8 : w.heap.size ≤ w8.heap.size := by omega)))
  have q8 := hb8.size
  have N28 := Lib.hid ((N26.out.below hb7).below hb8)
  have N68 := Lib.hid ((N6.out.below hb7).below hb8)
  have N8 := Lib.hid n8
  clear n8
  go_wp2_with fail
  (go_at_call 17; refine (eqIntS_same N8.out N28.out (otL_short2 a b)).mono ?_; rintro e w9 ⟨rfl, hb9⟩; obtain ⟨hc9, hf9⟩ := bcellB hb9; have hB9 : Below w.heap.size w w9 := Below.trans (by repeat' (first | (with_reducible exact Below.refl _ _) | (with_reducible assumption) | (with_reducible refine Below.alloc ?_ ?_ _) | (with_reducible refine Below.drew ?_) | (with_reducible refine below_drewN ?_ _) | (with_reducible refine Below.setCell ?_ ?_ _) | go_size)) (hb9.mono (by go_size)); (have hs9 := hb9.size); (try simp at hs9); (first | (have hz9 : w.heap.size < w9.heap.size := by omega) | (have hz9 : w.heap.size ≤ w9.heap.size := by omega)))
  go_wp2_with fail
  (go_at_call 19; refine (heldIntS_any 1 (N68.out.below hb9) (otL_short2' a b) (by omega) (by omega)).mono ?_; rintro e w' ⟨rfl, rfl⟩)
  go_wp2
  go_ret
  exact ⟨rfl, by repeat' (first | (with_reducible exact Below.refl _ _) | (with_reducible assumption) | (with_reducible refine Below.alloc ?_ ?_ _) | (with_reducible refine Below.drew ?_) | (with_reducible refine below_drewN ?_ _) | (with_reducible refine Below.setCell ?_ ?_ _) | go_size)⟩
end Go.Proofs.Ytfaglhhkcgjbnaa.Ot
