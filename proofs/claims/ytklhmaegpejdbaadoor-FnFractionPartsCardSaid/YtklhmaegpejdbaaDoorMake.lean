/- Contracts of spec.frMake and impl.makeFraction: a quotient in lowest terms, for a denominator that is not 0; of laws.eqFraction at one and the same fraction. -/
import Derived.Test.YtklhmaegpejdbaaDoorFrac
import Derived.BigRegion
namespace Go.Proofs.YtklhmaegpejdbaaDoor
open Go.RowKit
set_option linter.unusedVariables false
set_option linter.unusedSimpArgs false
theorem ret_fr_bool {a b x y : Int} {p q : Bool} (h1 : a = x) (h2 : b = y) (h3 : p = q) : Ending.returned (.tuple #[.agg #[.int .i64 a, .int .i64 b], .bool p]) = .returned (.tuple #[.agg #[.int .i64 x, .int .i64 y], .bool q]) := by rw [h1, h2, h3]
theorem gcdI_pos (n d : Int) (h : d ≠ 0) : 1 ≤ gcdI n d := by
  have := Int.gcd_pos_of_ne_zero_right n h
  unfold gcdI; omega
theorem gcdI_le (n d : Int) (h : d ≠ 0) : gcdI n d ≤ absI d := by
  have h1 : Int.gcd n d ∣ d.natAbs := by rw [Int.gcd_eq_natAbs_gcd_natAbs]; exact Nat.gcd_dvd_right _ _
  have := Nat.le_of_dvd (by omega) h1
  unfold gcdI absI; omega
theorem tdiv_bound (n g : Int) (M : Int) (h : -M ≤ n ∧ n ≤ M) : -M ≤ n.tdiv g ∧ n.tdiv g ≤ M := by
  have h1 : (n.tdiv g).natAbs = n.natAbs / g.natAbs := Int.natAbs_tdiv n g
  have h2 := Nat.div_le_self n.natAbs g.natAbs
  omega
/-- The divisor with the sign of the denominator. -/
def mkD (n d : Int) : Int := if d < 0 then -gcdI n d else gcdI n d
def mkB (n d : Int) : Bool := fracB (n.tdiv (mkD n d)) (d.tdiv (mkD n d))
def mkN (n d : Int) : Int := if mkB n d = true then n.tdiv (mkD n d) else 0
def mkE (n d : Int) : Int := if mkB n d = true then d.tdiv (mkD n d) else 0
theorem eqFraction_same (a b : Int) (w : World) :
    Calls Tryd.prog 20 #[.agg #[.int .i64 a, .int .i64 b], .agg #[.int .i64 a, .int .i64 b]] w fun e w' => e = .returned (.bool true) ∧ Below w.heap.size w w' := by
  go_enter Tryd.func20, Tryd.ntmps20
  go_wp2
  go_ret
  exact ⟨rfl, by repeat' (first | (with_reducible exact Below.refl _ _) | (with_reducible assumption) | (with_reducible refine Below.alloc ?_ ?_ _) | (with_reducible refine Below.drew ?_) | (with_reducible refine below_drewN ?_ _) | (with_reducible refine Below.setCell ?_ ?_ _) | go_size)⟩
set_option maxHeartbeats 4000000 in
theorem frMake_any (n d : Int) (hd : d ≠ 0) (n0 : -4000000000000000000 ≤ n) (n1 : n ≤ 4000000000000000000) (d0 : -4000000000000000000 ≤ d) (d1 : d ≤ 4000000000000000000) (w : World) :
    Calls Tryd.prog 78 #[.int .i64 n, .int .i64 d] w fun e w' => e = .returned (.tuple #[.agg #[.int .i64 (mkN n d), .int .i64 (mkE n d)], .bool (mkB n d)]) ∧ Below w.heap.size w w' := by
  have g0 := gcdI_pos n d hd
  have g1 := gcdI_le n d hd
  have g2 : gcdI n d ≤ 4000000000000000000 := by unfold absI at g1; omega
  have HG := Lib.hid (gcdI_abs2 n d)
  have a0 := absI_nonneg n
  have a1 : absI n ≤ 4000000000000000000 := by unfold absI; omega
  have a2 := absI_nonneg d
  have a3 : absI d ≤ 4000000000000000000 := by unfold absI; omega
  clear g1
  by_cases hs : d < 0
  · have HQ := Lib.hid (show n.tdiv (mkD n d) = -n.tdiv (gcdI n d) by rw [mkD, if_pos hs, Int.tdiv_neg])
    have HD := Lib.hid (show d.tdiv (mkD n d) = -d.tdiv (gcdI n d) by rw [mkD, if_pos hs, Int.tdiv_neg])
    obtain ⟨q0, q1⟩ := tdiv_bound n (gcdI n d) 4000000000000000000 ⟨n0, n1⟩
    obtain ⟨q2, q3⟩ := tdiv_bound d (gcdI n d) 4000000000000000000 ⟨d0, d1⟩
    rcases Bool.eq_false_or_eq_true (fracB (-n.tdiv (gcdI n d)) (-d.tdiv (gcdI n d))) with hb | hb
    all_goals
      have hz : (-gcdI n d == 0) = false := by simp; omega
      go_enter Tryd.func78, Tryd.ntmps78
      go_wp2_with (first | (go_at_call 71; refine (l1Abs_any _ (by omega) (by omega) _).mono ?_; rintro e w' ⟨rfl, rfl⟩) | (go_at_call 102; refine (bgCommon_any _ _ (by omega) (by omega) (by omega) (by omega) _).mono ?_; rintro e w' ⟨rfl, rfl⟩; rw [HG.out]))
      go_region
      go_wp2_with (go_at_call 61; refine (frGood_any _ _ _).mono ?_; rintro e w1 ⟨rfl, hb1⟩; obtain ⟨hc1, hf1⟩ := bcell hb1; have hB1 : Below w.heap.size w w1 := Below.trans (by repeat' (first | (with_reducible exact Below.refl _ _) | (with_reducible assumption) | (with_reducible refine Below.alloc ?_ ?_ _) | (with_reducible refine Below.drew ?_) | (with_reducible refine below_drewN ?_ _) | (with_reducible refine Below.setCell ?_ ?_ _) | go_size)) (hb1.mono (by go_size)); (have hs1 := hb1.size); (try simp at hs1); (try (have hl1 := Nat.lt_of_succ_le hs1)); (first | (have hz1 : w.heap.size < w1.heap.size := by omega) | (have hz1 : w.heap.size ≤ w1.heap.size := by omega)); (try (have hz2_1 : w2.heap.size < w1.heap.size := by omega)); (try (have hz3_1 : w3.heap.size < w1.heap.size := by omega)); (try (have hz4_1 : w4.heap.size < w1.heap.size := by omega)); (try (have hz5_1 : w5.heap.size < w1.heap.size := by omega)); (try (have hzc_1 : wc.heap.size < w1.heap.size := by omega)); (try (have hy1_1 : w.heap.size + 1 < w1.heap.size := by omega)); (try (have hy2_1 : w.heap.size + 2 < w1.heap.size := by omega)); (try (have hy3_1 : w.heap.size + 3 < w1.heap.size := by omega)); (have k1_0 : w1.cell? ⟨w.heap.size, 0, none⟩ = some (.int .i64 0) := by (rw [hb1.cell (by first | (simp; done) | (simp; omega) | omega)]; first | assumption | (simp [go_sem]; done) | (simp [*, go_sem]; done))); (have k1_1 : w1.cell? ⟨w.heap.size, 1, none⟩ = some (.int .i64 0) := by (rw [hb1.cell (by first | (simp; done) | (simp; omega) | omega)]; first | assumption | (simp [go_sem]; done) | (simp [*, go_sem]; done))))
      refine bodyPost_ret (by simp [results, Tryd.results78, go_sem, *]; try rfl) rfl ?_
      exact ⟨ret_fr_bool (by simp [mkN, mkB, HQ.out, HD.out, hb]) (by simp [mkE, mkB, HQ.out, HD.out, hb]) (by simp [mkB, HQ.out, HD.out, hb]), by repeat' (first | (with_reducible exact Below.refl _ _) | (with_reducible assumption) | (with_reducible refine Below.alloc ?_ ?_ _) | (with_reducible refine Below.drew ?_) | (with_reducible refine below_drewN ?_ _) | (with_reducible refine Below.setCell ?_ ?_ _) | go_size)⟩
  · have HQ := Lib.hid (show n.tdiv (mkD n d) = n.tdiv (gcdI n d) by rw [mkD, if_neg hs])
    have HD := Lib.hid (show d.tdiv (mkD n d) = d.tdiv (gcdI n d) by rw [mkD, if_neg hs])
    obtain ⟨q0, q1⟩ := tdiv_bound n (gcdI n d) 4000000000000000000 ⟨n0, n1⟩
    obtain ⟨q2, q3⟩ := tdiv_bound d (gcdI n d) 4000000000000000000 ⟨d0, d1⟩
    rcases Bool.eq_false_or_eq_true (fracB (n.tdiv (gcdI n d)) (d.tdiv (gcdI n d))) with hb | hb
    all_goals
      have hz : (gcdI n d == 0) = false := by simp; omega
      go_enter Tryd.func78, Tryd.ntmps78
      go_wp2_with (first | (go_at_call 71; refine (l1Abs_any _ (by omega) (by omega) _).mono ?_; rintro e w' ⟨rfl, rfl⟩) | (go_at_call 102; refine (bgCommon_any _ _ (by omega) (by omega) (by omega) (by omega) _).mono ?_; rintro e w' ⟨rfl, rfl⟩; rw [HG.out]))
      go_region
      go_wp2_with (go_at_call 61; refine (frGood_any _ _ _).mono ?_; rintro e w1 ⟨rfl, hb1⟩; obtain ⟨hc1, hf1⟩ := bcell hb1; have hB1 : Below w.heap.size w w1 := Below.trans (by repeat' (first | (with_reducible exact Below.refl _ _) | (with_reducible assumption) | (with_reducible refine Below.alloc ?_ ?_ _) | (with_reducible refine Below.drew ?_) | (with_reducible refine below_drewN ?_ _) | (with_reducible refine Below.setCell ?_ ?_ _) | go_size)) (hb1.mono (by go_size)); (have hs1 := hb1.size); (try simp at hs1); (try (have hl1 := Nat.lt_of_succ_le hs1)); (first | (have hz1 : w.heap.size < w1.heap.size := by omega) | (have hz1 : w.heap.size ≤ w1.heap.size := by omega)); (try (have hz2_1 : w2.heap.size < w1.heap.size := by omega)); (try (have hz3_1 : w3.heap.size < w1.heap.size := by omega)); (try (have hz4_1 : w4.heap.size < w1.heap.size := by omega)); (try (have hz5_1 : w5.heap.size < w1.heap.size := by omega)); (try (have hzc_1 : wc.heap.size < w1.heap.size := by omega)); (try (have hy1_1 : w.heap.size + 1 < w1.heap.size := by omega)); (try (have hy2_1 : w.heap.size + 2 < w1.heap.size := by omega)); (try (have hy3_1 : w.heap.size + 3 < w1.heap.size := by omega)); (have k1_0 : w1.cell? ⟨w.heap.size, 0, none⟩ = some (.int .i64 0) := by (rw [hb1.cell (by first | (simp; done) | (simp; omega) | omega)]; first | assumption | (simp [go_sem]; done) | (simp [*, go_sem]; done))); (have k1_1 : w1.cell? ⟨w.heap.size, 1, none⟩ = some (.int .i64 0) := by (rw [hb1.cell (by first | (simp; done) | (simp; omega) | omega)]; first | assumption | (simp [go_sem]; done) | (simp [*, go_sem]; done))))
      refine bodyPost_ret (by simp [results, Tryd.results78, go_sem, *]; try rfl) rfl ?_
      exact ⟨ret_fr_bool (by simp [mkN, mkB, HQ.out, HD.out, hb]) (by simp [mkE, mkB, HQ.out, HD.out, hb]) (by simp [mkB, HQ.out, HD.out, hb]), by repeat' (first | (with_reducible exact Below.refl _ _) | (with_reducible assumption) | (with_reducible refine Below.alloc ?_ ?_ _) | (with_reducible refine Below.drew ?_) | (with_reducible refine below_drewN ?_ _) | (with_reducible refine Below.setCell ?_ ?_ _) | go_size)⟩
set_option maxHeartbeats 4000000 in
theorem makeFraction_any (n d : Int) (hd : d ≠ 0) (n0 : -4000000000000000000 ≤ n) (n1 : n ≤ 4000000000000000000) (d0 : -4000000000000000000 ≤ d) (d1 : d ≤ 4000000000000000000) (w : World) :
    Calls Tryd.prog 69 #[.int .i64 n, .int .i64 d] w fun e w' => e = .returned (.tuple #[.agg #[.int .i64 (mkN n d), .int .i64 (mkE n d)], .bool (mkB n d)]) ∧ Below w.heap.size w w' := by
  have g0 := gcdI_pos n d hd
  have g1 := gcdI_le n d hd
  have g2 : gcdI n d ≤ 4000000000000000000 := by unfold absI at g1; omega
  clear g1
  by_cases hs : d < 0
  · have HQ := Lib.hid (show n.tdiv (mkD n d) = -n.tdiv (gcdI n d) by rw [mkD, if_pos hs, Int.tdiv_neg])
    have HD := Lib.hid (show d.tdiv (mkD n d) = -d.tdiv (gcdI n d) by rw [mkD, if_pos hs, Int.tdiv_neg])
    obtain ⟨q0, q1⟩ := tdiv_bound n (gcdI n d) 4000000000000000000 ⟨n0, n1⟩
    obtain ⟨q2, q3⟩ := tdiv_bound d (gcdI n d) 4000000000000000000 ⟨d0, d1⟩
    rcases Bool.eq_false_or_eq_true (fracB (-n.tdiv (gcdI n d)) (-d.tdiv (gcdI n d))) with hb | hb
    all_goals
      have hz : (-gcdI n d == 0) = false := by simp; omega
      go_enter Tryd.func69, Tryd.ntmps69
      go_wp2_with (go_at_call 101; refine (gcd_any _ _ (by omega) (by omega) (by omega) (by omega) _).mono ?_; rintro e w1 ⟨rfl, hb1⟩; obtain ⟨hc1, hf1⟩ := bcell hb1; have hB1 : Below w.heap.size w w1 := Below.trans (by repeat' (first | (with_reducible exact Below.refl _ _) | (with_reducible assumption) | (with_reducible refine Below.alloc ?_ ?_ _) | (with_reducible refine Below.drew ?_) | (with_reducible refine below_drewN ?_ _) | (with_reducible refine Below.setCell ?_ ?_ _) | go_size)) (hb1.mono (by go_size)); (have hs1 := hb1.size); (try simp at hs1); (try (have hl1 := Nat.lt_of_succ_le hs1)); (first | (have hz1 : w.heap.size < w1.heap.size := by omega) | (have hz1 : w.heap.size ≤ w1.heap.size := by omega)); (try (have hz2_1 : w2.heap.size < w1.heap.size := by omega)); (try (have hz3_1 : w3.heap.size < w1.heap.size := by omega)); (try (have hz4_1 : w4.heap.size < w1.heap.size := by omega)); (try (have hz5_1 : w5.heap.size < w1.heap.size := by omega)); (try (have hzc_1 : wc.heap.size < w1.heap.size := by omega)); (try (have hy1_1 : w.heap.size + 1 < w1.heap.size := by omega)); (try (have hy2_1 : w.heap.size + 2 < w1.heap.size := by omega)); (try (have hy3_1 : w.heap.size + 3 < w1.heap.size := by omega)))
      go_region
      go_wp2_with (go_at_call 59; refine (isFraction_any _ _ _).mono ?_; rintro e w2 ⟨rfl, hb2⟩; obtain ⟨hc2, hf2⟩ := bcell hb2; have hB2 : Below w.heap.size w w2 := Below.trans (by repeat' (first | (with_reducible exact Below.refl _ _) | (with_reducible assumption) | (with_reducible refine Below.alloc ?_ ?_ _) | (with_reducible refine Below.drew ?_) | (with_reducible refine below_drewN ?_ _) | (with_reducible refine Below.setCell ?_ ?_ _) | go_size)) (hb2.mono (by go_size)); (have hs2 := hb2.size); (try simp at hs2); (try (have hl2 := Nat.lt_of_succ_le hs2)); (first | (have hz2 : w.heap.size < w2.heap.size := by omega) | (have hz2 : w.heap.size ≤ w2.heap.size := by omega)); (try (have hz1_2 : w1.heap.size < w2.heap.size := by omega)); (try (have hz3_2 : w3.heap.size < w2.heap.size := by omega)); (try (have hz4_2 : w4.heap.size < w2.heap.size := by omega)); (try (have hz5_2 : w5.heap.size < w2.heap.size := by omega)); (try (have hzc_2 : wc.heap.size < w2.heap.size := by omega)); (try (have hy1_2 : w.heap.size + 1 < w2.heap.size := by omega)); (try (have hy2_2 : w.heap.size + 2 < w2.heap.size := by omega)); (try (have hy3_2 : w.heap.size + 3 < w2.heap.size := by omega)); (have k2_0 : w2.cell? ⟨w.heap.size, 0, none⟩ = some (.int .i64 0) := by (rw [hb2.cell (by first | (simp; done) | (simp; omega) | omega)]; first | assumption | (simp [go_sem]; done) | (simp [*, go_sem]; done))); (have k2_1 : w2.cell? ⟨w.heap.size, 1, none⟩ = some (.int .i64 0) := by (rw [hb2.cell (by first | (simp; done) | (simp; omega) | omega)]; first | assumption | (simp [go_sem]; done) | (simp [*, go_sem]; done))))
      refine bodyPost_ret (by simp [results, Tryd.results69, go_sem, *]; try rfl) rfl ?_
      exact ⟨ret_fr_bool (by simp [mkN, mkB, HQ.out, HD.out, hb]) (by simp [mkE, mkB, HQ.out, HD.out, hb]) (by simp [mkB, HQ.out, HD.out, hb]), by repeat' (first | (with_reducible exact Below.refl _ _) | (with_reducible assumption) | (with_reducible refine Below.alloc ?_ ?_ _) | (with_reducible refine Below.drew ?_) | (with_reducible refine below_drewN ?_ _) | (with_reducible refine Below.setCell ?_ ?_ _) | go_size)⟩
  · have HQ := Lib.hid (show n.tdiv (mkD n d) = n.tdiv (gcdI n d) by rw [mkD, if_neg hs])
    have HD := Lib.hid (show d.tdiv (mkD n d) = d.tdiv (gcdI n d) by rw [mkD, if_neg hs])
    obtain ⟨q0, q1⟩ := tdiv_bound n (gcdI n d) 4000000000000000000 ⟨n0, n1⟩
    obtain ⟨q2, q3⟩ := tdiv_bound d (gcdI n d) 4000000000000000000 ⟨d0, d1⟩
    rcases Bool.eq_false_or_eq_true (fracB (n.tdiv (gcdI n d)) (d.tdiv (gcdI n d))) with hb | hb
    all_goals
      have hz : (gcdI n d == 0) = false := by simp; omega
      go_enter Tryd.func69, Tryd.ntmps69
      go_wp2_with (go_at_call 101; refine (gcd_any _ _ (by omega) (by omega) (by omega) (by omega) _).mono ?_; rintro e w1 ⟨rfl, hb1⟩; obtain ⟨hc1, hf1⟩ := bcell hb1; have hB1 : Below w.heap.size w w1 := Below.trans (by repeat' (first | (with_reducible exact Below.refl _ _) | (with_reducible assumption) | (with_reducible refine Below.alloc ?_ ?_ _) | (with_reducible refine Below.drew ?_) | (with_reducible refine below_drewN ?_ _) | (with_reducible refine Below.setCell ?_ ?_ _) | go_size)) (hb1.mono (by go_size)); (have hs1 := hb1.size); (try simp at hs1); (try (have hl1 := Nat.lt_of_succ_le hs1)); (first | (have hz1 : w.heap.size < w1.heap.size := by omega) | (have hz1 : w.heap.size ≤ w1.heap.size := by omega)); (try (have hz2_1 : w2.heap.size < w1.heap.size := by omega)); (try (have hz3_1 : w3.heap.size < w1.heap.size := by omega)); (try (have hz4_1 : w4.heap.size < w1.heap.size := by omega)); (try (have hz5_1 : w5.heap.size < w1.heap.size := by omega)); (try (have hzc_1 : wc.heap.size < w1.heap.size := by omega)); (try (have hy1_1 : w.heap.size + 1 < w1.heap.size := by omega)); (try (have hy2_1 : w.heap.size + 2 < w1.heap.size := by omega)); (try (have hy3_1 : w.heap.size + 3 < w1.heap.size := by omega)))
      go_region
      go_wp2_with (go_at_call 59; refine (isFraction_any _ _ _).mono ?_; rintro e w2 ⟨rfl, hb2⟩; obtain ⟨hc2, hf2⟩ := bcell hb2; have hB2 : Below w.heap.size w w2 := Below.trans (by repeat' (first | (with_reducible exact Below.refl _ _) | (with_reducible assumption) | (with_reducible refine Below.alloc ?_ ?_ _) | (with_reducible refine Below.drew ?_) | (with_reducible refine below_drewN ?_ _) | (with_reducible refine Below.setCell ?_ ?_ _) | go_size)) (hb2.mono (by go_size)); (have hs2 := hb2.size); (try simp at hs2); (try (have hl2 := Nat.lt_of_succ_le hs2)); (first | (have hz2 : w.heap.size < w2.heap.size := by omega) | (have hz2 : w.heap.size ≤ w2.heap.size := by omega)); (try (have hz1_2 : w1.heap.size < w2.heap.size := by omega)); (try (have hz3_2 : w3.heap.size < w2.heap.size := by omega)); (try (have hz4_2 : w4.heap.size < w2.heap.size := by omega)); (try (have hz5_2 : w5.heap.size < w2.heap.size := by omega)); (try (have hzc_2 : wc.heap.size < w2.heap.size := by omega)); (try (have hy1_2 : w.heap.size + 1 < w2.heap.size := by omega)); (try (have hy2_2 : w.heap.size + 2 < w2.heap.size := by omega)); (try (have hy3_2 : w.heap.size + 3 < w2.heap.size := by omega)); (have k2_0 : w2.cell? ⟨w.heap.size, 0, none⟩ = some (.int .i64 0) := by (rw [hb2.cell (by first | (simp; done) | (simp; omega) | omega)]; first | assumption | (simp [go_sem]; done) | (simp [*, go_sem]; done))); (have k2_1 : w2.cell? ⟨w.heap.size, 1, none⟩ = some (.int .i64 0) := by (rw [hb2.cell (by first | (simp; done) | (simp; omega) | omega)]; first | assumption | (simp [go_sem]; done) | (simp [*, go_sem]; done))))
      refine bodyPost_ret (by simp [results, Tryd.results69, go_sem, *]; try rfl) rfl ?_
      exact ⟨ret_fr_bool (by simp [mkN, mkB, HQ.out, HD.out, hb]) (by simp [mkE, mkB, HQ.out, HD.out, hb]) (by simp [mkB, HQ.out, HD.out, hb]), by repeat' (first | (with_reducible exact Below.refl _ _) | (with_reducible assumption) | (with_reducible refine Below.alloc ?_ ?_ _) | (with_reducible refine Below.drew ?_) | (with_reducible refine below_drewN ?_ _) | (with_reducible refine Below.setCell ?_ ?_ _) | go_size)⟩
end Go.Proofs.YtklhmaegpejdbaaDoor
