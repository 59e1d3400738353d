/- The walk of FnExactContentOf. -/
import Derived.Test.YtileaagmamkdgaaEqCub
import Derived.Test.YtileaagmamkdgaaGcd
import Derived.BigRegion
import Derived.Deep.RegionWith
namespace Go.Proofs.Ytileaagmamkdgaa.Co
open Go.RowKit
set_option linter.unusedVariables false
set_option linter.unusedSimpArgs false
theorem ret_int_four_bool {k l a b c d x y z u : Int} {p q : Bool} (h0 : k = l) (h1 : a = x) (h2 : b = y) (h3 : c = z) (h4 : d = u) (h5 : p = q) :
    Ending.returned (.tuple #[.int .i64 k, .agg #[.int .i64 a, .int .i64 b, .int .i64 c, .int .i64 d], .bool p]) = .returned (.tuple #[.int .i64 l, .agg #[.int .i64 x, .int .i64 y, .int .i64 z, .int .i64 u], .bool q]) := by rw [h0, h1, h2, h3, h4, h5]
def con (a b c d : Int) : Int := gcdI (gcdI a b) (gcdI c d)
def conR (a b c d : Int) : Int := if cubB a b c d = true then con a b c d else 0
def quo (a b c d x : Int) : Int := if cubB a b c d = true then x.tdiv (con a b c d) else 0
theorem gcd_small {a b M : Int} (ha : -M ≤ a ∧ a ≤ M) (hb : -M ≤ b ∧ b ≤ M) : 0 ≤ gcdI a b ∧ gcdI a b ≤ M := by
  refine ⟨gcdI_nonneg a b, ?_⟩
  rcases Int.lt_trichotomy b 0 with h | h | h
  · have h1 : Int.gcd a b ∣ b.natAbs := by rw [Int.gcd_eq_natAbs_gcd_natAbs]; exact Nat.gcd_dvd_right _ _
    have := Nat.le_of_dvd (by omega) h1
    unfold gcdI; omega
  · subst h; rw [gcdI_zero]; unfold absI; omega
  · have h1 : Int.gcd a b ∣ b.natAbs := by rw [Int.gcd_eq_natAbs_gcd_natAbs]; exact Nat.gcd_dvd_right _ _
    have := Nat.le_of_dvd (by omega) h1
    unfold gcdI; omega
theorem con_facts {a b c d : Int} (h : cubB a b c d = true) : (0 ≤ gcdI a b ∧ gcdI a b ≤ 1000) ∧ (0 ≤ gcdI c d ∧ gcdI c d ≤ 1000) ∧ (1 ≤ con a b c d ∧ con a b c d ≤ 1000) := by
  obtain ⟨h0, ha, hb, hc, hd⟩ := cubB_range h
  have g1 := gcd_small ha hb
  have g2 := gcd_small hc hd
  have g3 := gcd_small (M := 1000) (a := gcdI a b) (b := gcdI c d) (by omega) (by omega)
  have p1 : 0 < Int.gcd a b := Int.gcd_pos_of_ne_zero_left b h0
  have p2 : gcdI a b ≠ 0 := by unfold gcdI; omega
  have p3 : 0 < Int.gcd (gcdI a b) (gcdI c d) := Int.gcd_pos_of_ne_zero_left _ p2
  refine ⟨g1, g2, ?_, g3.2⟩
  unfold con gcdI
  unfold gcdI at p3
  omega
theorem tdiv_bd (a b M : Int) (h : -M ≤ a ∧ a ≤ M) : -M ≤ a.tdiv b ∧ a.tdiv b ≤ M := by
  have h1 : (a.tdiv b).natAbs = a.natAbs / b.natAbs := Int.natAbs_tdiv a b
  have h2 := Nat.div_le_self a.natAbs b.natAbs
  omega
set_option maxHeartbeats 4000000 in
theorem spec_any (a b c d : Int) (w : World) :
    Calls Try.prog 24 #[.agg #[.int .i64 a, .int .i64 b, .int .i64 c, .int .i64 d]] w fun e w' => e = .returned (.tuple #[.int .i64 (conR a b c d), .agg #[.int .i64 (quo a b c d a), .int .i64 (quo a b c d b), .int .i64 (quo a b c d c), .int .i64 (quo a b c d d)], .bool (cubB a b c d)]) ∧ Below w.heap.size w w' := by
  rcases Bool.eq_false_or_eq_true (cubB a b c d) with hc | hc
  · obtain ⟨_, ⟨a0, a1⟩, ⟨b0, b1⟩, ⟨c0, c1⟩, ⟨d0, d1⟩⟩ := cubB_range hc
    obtain ⟨⟨g0, g1⟩, ⟨g2, g3⟩, k0, k1⟩ := con_facts hc
    obtain ⟨q0, q1⟩ := tdiv_bd a (con a b c d) 1000 ⟨a0, a1⟩
    obtain ⟨q2, q3⟩ := tdiv_bd b (con a b c d) 1000 ⟨b0, b1⟩
    obtain ⟨q4, q5⟩ := tdiv_bd c (con a b c d) 1000 ⟨c0, c1⟩
    obtain ⟨q6, q7⟩ := tdiv_bd d (con a b c d) 1000 ⟨d0, d1⟩
    have HA : Hid (∀ x y : Int, ∀ w : World, (-1000 ≤ x ∧ x ≤ 1000) → (-1000 ≤ y ∧ y ≤ 1000) → Calls Try.prog 59 #[.int .i64 (absI x), .int .i64 (absI y)] w fun e w' => e = .returned (.int .i64 (gcdI x y)) ∧ w = w') := fun x y w hx hy => by
      rw [← gcdI_abs2 x y]
      have n1 := absI_nonneg x
      have n2 := absI_nonneg y
      exact bgCommon_any _ _ n1 (by unfold absI; omega) n2 (by unfold absI; omega) w
    have HC : Hid (∀ w : World, Calls Try.prog 59 #[.int .i64 (gcdI a b), .int .i64 (gcdI c d)] w fun e w' => e = .returned (.int .i64 (con a b c d)) ∧ w = w') := fun w => bgCommon_any (gcdI a b) (gcdI c d) (by omega) (by omega) (by omega) (by omega) w
    have hz : (con a b c d == 0) = false := by simp; omega
    go_enter Try.func24, Try.ntmps24
    go_wp2_with (go_at_call 48; refine (cuGood_any _ _ _ _ _).mono ?_; rintro e w1 ⟨rfl, hb1⟩; obtain ⟨hc1, hf1⟩ := bcell hb1; have hB1 : Below w.heap.size w w1 := Below.trans (by repeat' (first | (with_reducible exact Below.refl _ _) | (with_reducible assumption) | (with_reducible refine Below.alloc ?_ ?_ _) | (with_reducible refine Below.drew ?_) | (with_reducible refine below_drewN ?_ _) | (with_reducible refine Below.setCell ?_ ?_ _) | go_size)) (hb1.mono (by go_size)); (have hs1 := hb1.size); (try simp at hs1); (try (have hl1 := Nat.lt_of_succ_le hs1)); (first | (have hz1 : w.heap.size < w1.heap.size := by omega) | (have hz1 : w.heap.size ≤ w1.heap.size := by omega)); (try (have hz2_1 : w2.heap.size < w1.heap.size := by omega)); (try (have hz3_1 : w3.heap.size < w1.heap.size := by omega)); (try (have hz4_1 : w4.heap.size < w1.heap.size := by omega)); (try (have hz5_1 : w5.heap.size < w1.heap.size := by omega)); (try (have hzc_1 : wc.heap.size < w1.heap.size := by omega)); (try (have hy1_1 : w.heap.size + 1 < w1.heap.size := by omega)); (try (have hy2_1 : w.heap.size + 2 < w1.heap.size := by omega)); (try (have hy3_1 : w.heap.size + 3 < w1.heap.size := by omega)); (have k1_0 : w1.cell? ⟨w.heap.size, 0, none⟩ = some (.int .i64 a) := by (rw [hb1.cell (by first | (simp; done) | (simp; omega) | omega)]; first | assumption | (simp [go_sem]; done) | (simp [*, go_sem]; done))); (have k1_1 : w1.cell? ⟨w.heap.size, 1, none⟩ = some (.int .i64 b) := by (rw [hb1.cell (by first | (simp; done) | (simp; omega) | omega)]; first | assumption | (simp [go_sem]; done) | (simp [*, go_sem]; done))); (have k1_2 : w1.cell? ⟨w.heap.size, 2, none⟩ = some (.int .i64 c) := by (rw [hb1.cell (by first | (simp; done) | (simp; omega) | omega)]; first | assumption | (simp [go_sem]; done) | (simp [*, go_sem]; done))); (have k1_3 : w1.cell? ⟨w.heap.size, 3, none⟩ = some (.int .i64 d) := by (rw [hb1.cell (by first | (simp; done) | (simp; omega) | omega)]; first | assumption | (simp [go_sem]; done) | (simp [*, go_sem]; done))))
    go_quiet ((first
      | (go_at_call 60; exact quietG (l1Abs_any _ (by omega) (by omega) _) ⟨_, rfl⟩)
      | (go_at_call_of 59 (absI a); exact quietG (HA.out a b _ (by omega) (by omega)) ⟨_, rfl⟩)
      | (go_at_call_of 59 (absI c); exact quietG (HA.out c d _ (by omega) (by omega)) ⟨_, rfl⟩)
      | (go_at_call_of 59 (gcdI a b); exact quietG (HC.out _) ⟨_, rfl⟩)))
    go_wp2
    go_region
    go_wp2
    refine bodyPost_ret (by simp [results, Try.results24, go_sem, *]; try rfl) rfl ?_
    exact ⟨ret_int_four_bool (by simp [conR, hc]) (by simp [quo, hc]) (by simp [quo, hc]) (by simp [quo, hc]) (by simp [quo, hc]) (by simp [hc]), by repeat' (first | (with_reducible exact Below.refl _ _) | (with_reducible assumption) | (with_reducible refine Below.alloc ?_ ?_ _) | (with_reducible refine Below.drew ?_) | (with_reducible refine below_drewN ?_ _) | (with_reducible refine Below.setCell ?_ ?_ _) | go_size)⟩
  · go_enter Try.func24, Try.ntmps24
    go_wp2_with (go_at_call 48; refine (cuGood_any _ _ _ _ _).mono ?_; rintro e w1 ⟨rfl, hb1⟩; obtain ⟨hc1, hf1⟩ := bcell hb1; have hB1 : Below w.heap.size w w1 := Below.trans (by repeat' (first | (with_reducible exact Below.refl _ _) | (with_reducible assumption) | (with_reducible refine Below.alloc ?_ ?_ _) | (with_reducible refine Below.drew ?_) | (with_reducible refine below_drewN ?_ _) | (with_reducible refine Below.setCell ?_ ?_ _) | go_size)) (hb1.mono (by go_size)); (have hs1 := hb1.size); (try simp at hs1); (try (have hl1 := Nat.lt_of_succ_le hs1)); (first | (have hz1 : w.heap.size < w1.heap.size := by omega) | (have hz1 : w.heap.size ≤ w1.heap.size := by omega)); (try (have hz2_1 : w2.heap.size < w1.heap.size := by omega)); (try (have hz3_1 : w3.heap.size < w1.heap.size := by omega)); (try (have hz4_1 : w4.heap.size < w1.heap.size := by omega)); (try (have hz5_1 : w5.heap.size < w1.heap.size := by omega)); (try (have hzc_1 : wc.heap.size < w1.heap.size := by omega)); (try (have hy1_1 : w.heap.size + 1 < w1.heap.size := by omega)); (try (have hy2_1 : w.heap.size + 2 < w1.heap.size := by omega)); (try (have hy3_1 : w.heap.size + 3 < w1.heap.size := by omega)))
    refine bodyPost_ret (by simp [results, Try.results24, go_sem, *]; try rfl) rfl ?_
    exact ⟨ret_int_four_bool (by simp [conR, hc]) (by simp [quo, hc]) (by simp [quo, hc]) (by simp [quo, hc]) (by simp [quo, hc]) (by simp [hc]), by repeat' (first | (with_reducible exact Below.refl _ _) | (with_reducible assumption) | (with_reducible refine Below.alloc ?_ ?_ _) | (with_reducible refine Below.drew ?_) | (with_reducible refine below_drewN ?_ _) | (with_reducible refine Below.setCell ?_ ?_ _) | go_size)⟩
set_option maxHeartbeats 4000000 in
theorem impl_any (a b c d : Int) (w : World) :
    Calls Try.prog 25 #[.agg #[.int .i64 a, .int .i64 b, .int .i64 c, .int .i64 d]] w fun e w' => e = .returned (.tuple #[.int .i64 (conR a b c d), .agg #[.int .i64 (quo a b c d a), .int .i64 (quo a b c d b), .int .i64 (quo a b c d c), .int .i64 (quo a b c d d)], .bool (cubB a b c d)]) ∧ Below w.heap.size w w' := by
  rcases Bool.eq_false_or_eq_true (cubB a b c d) with hc | hc
  · obtain ⟨_, ⟨a0, a1⟩, ⟨b0, b1⟩, ⟨c0, c1⟩, ⟨d0, d1⟩⟩ := cubB_range hc
    obtain ⟨⟨g0, g1⟩, ⟨g2, g3⟩, k0, k1⟩ := con_facts hc
    obtain ⟨q0, q1⟩ := tdiv_bd a (con a b c d) 1000 ⟨a0, a1⟩
    obtain ⟨q2, q3⟩ := tdiv_bd b (con a b c d) 1000 ⟨b0, b1⟩
    obtain ⟨q4, q5⟩ := tdiv_bd c (con a b c d) 1000 ⟨c0, c1⟩
    obtain ⟨q6, q7⟩ := tdiv_bd d (con a b c d) 1000 ⟨d0, d1⟩
    have hz : (con a b c d == 0) = false := by simp; omega
    have HK : Hid (∀ w : World, Calls Try.prog 58 #[.int .i64 (gcdI a b), .int .i64 (gcdI c d)] w fun e w' => e = .returned (.int .i64 (con a b c d)) ∧ ∃ m, w' = w.drewN m) := fun w => gcd_quiet _ _ (by omega) (by omega) (by omega) (by omega) w
    go_enter Try.func25, Try.ntmps25
    go_wp2_with (go_at_call 51; refine (isCubic_any _ _ _ _ _).mono ?_; rintro e w1 ⟨rfl, hb1⟩; obtain ⟨hc1, hf1⟩ := bcell hb1; have hB1 : Below w.heap.size w w1 := Below.trans (by repeat' (first | (with_reducible exact Below.refl _ _) | (with_reducible assumption) | (with_reducible refine Below.alloc ?_ ?_ _) | (with_reducible refine Below.drew ?_) | (with_reducible refine below_drewN ?_ _) | (with_reducible refine Below.setCell ?_ ?_ _) | go_size)) (hb1.mono (by go_size)); (have hs1 := hb1.size); (try simp at hs1); (try (have hl1 := Nat.lt_of_succ_le hs1)); (first | (have hz1 : w.heap.size < w1.heap.size := by omega) | (have hz1 : w.heap.size ≤ w1.heap.size := by omega)); (try (have hz2_1 : w2.heap.size < w1.heap.size := by omega)); (try (have hz3_1 : w3.heap.size < w1.heap.size := by omega)); (try (have hz4_1 : w4.heap.size < w1.heap.size := by omega)); (try (have hz5_1 : w5.heap.size < w1.heap.size := by omega)); (try (have hzc_1 : wc.heap.size < w1.heap.size := by omega)); (try (have hy1_1 : w.heap.size + 1 < w1.heap.size := by omega)); (try (have hy2_1 : w.heap.size + 2 < w1.heap.size := by omega)); (try (have hy3_1 : w.heap.size + 3 < w1.heap.size := by omega)); (have k1_0 : w1.cell? ⟨w.heap.size, 0, none⟩ = some (.int .i64 a) := by (rw [hb1.cell (by first | (simp; done) | (simp; omega) | omega)]; first | assumption | (simp [go_sem]; done) | (simp [*, go_sem]; done))); (have k1_1 : w1.cell? ⟨w.heap.size, 1, none⟩ = some (.int .i64 b) := by (rw [hb1.cell (by first | (simp; done) | (simp; omega) | omega)]; first | assumption | (simp [go_sem]; done) | (simp [*, go_sem]; done))); (have k1_2 : w1.cell? ⟨w.heap.size, 2, none⟩ = some (.int .i64 c) := by (rw [hb1.cell (by first | (simp; done) | (simp; omega) | omega)]; first | assumption | (simp [go_sem]; done) | (simp [*, go_sem]; done))); (have k1_3 : w1.cell? ⟨w.heap.size, 3, none⟩ = some (.int .i64 d) := by (rw [hb1.cell (by first | (simp; done) | (simp; omega) | omega)]; first | assumption | (simp [go_sem]; done) | (simp [*, go_sem]; done))))
    go_quiet ((first
      | (go_at_call_of 58 (gcdI a b); first | exact Calls.quiet_of (HK.out _) | exact quietDA (HK.out _))
      | (go_at_call 58; first | exact Calls.quiet_of (gcd_quiet _ _ (by omega) (by omega) (by omega) (by omega) _) | exact quietDA (gcd_quiet _ _ (by omega) (by omega) (by omega) (by omega) _))))
    go_wp2
    go_region
    go_wp2
    refine bodyPost_ret (by simp [results, Try.results25, go_sem, *]; try rfl) rfl ?_
    exact ⟨ret_int_four_bool (by simp [conR, hc]) (by simp [quo, hc]) (by simp [quo, hc]) (by simp [quo, hc]) (by simp [quo, hc]) (by simp [hc]), by repeat' (first | (with_reducible exact Below.refl _ _) | (with_reducible assumption) | (with_reducible refine Below.alloc ?_ ?_ _) | (with_reducible refine Below.drew ?_) | (with_reducible refine below_drewN ?_ _) | (with_reducible refine Below.setCell ?_ ?_ _) | go_size)⟩
  · go_enter Try.func25, Try.ntmps25
    go_wp2_with (go_at_call 51; refine (isCubic_any _ _ _ _ _).mono ?_; rintro e w1 ⟨rfl, hb1⟩; obtain ⟨hc1, hf1⟩ := bcell hb1; have hB1 : Below w.heap.size w w1 := Below.trans (by repeat' (first | (with_reducible exact Below.refl _ _) | (with_reducible assumption) | (with_reducible refine Below.alloc ?_ ?_ _) | (with_reducible refine Below.drew ?_) | (with_reducible refine below_drewN ?_ _) | (with_reducible refine Below.setCell ?_ ?_ _) | go_size)) (hb1.mono (by go_size)); (have hs1 := hb1.size); (try simp at hs1); (try (have hl1 := Nat.lt_of_succ_le hs1)); (first | (have hz1 : w.heap.size < w1.heap.size := by omega) | (have hz1 : w.heap.size ≤ w1.heap.size := by omega)); (try (have hz2_1 : w2.heap.size < w1.heap.size := by omega)); (try (have hz3_1 : w3.heap.size < w1.heap.size := by omega)); (try (have hz4_1 : w4.heap.size < w1.heap.size := by omega)); (try (have hz5_1 : w5.heap.size < w1.heap.size := by omega)); (try (have hzc_1 : wc.heap.size < w1.heap.size := by omega)); (try (have hy1_1 : w.heap.size + 1 < w1.heap.size := by omega)); (try (have hy2_1 : w.heap.size + 2 < w1.heap.size := by omega)); (try (have hy3_1 : w.heap.size + 3 < w1.heap.size := by omega)))
    refine bodyPost_ret (by simp [results, Try.results25, go_sem, *]; try rfl) rfl ?_
    exact ⟨ret_int_four_bool (by simp [conR, hc]) (by simp [quo, hc]) (by simp [quo, hc]) (by simp [quo, hc]) (by simp [quo, hc]) (by simp [hc]), by repeat' (first | (with_reducible exact Below.refl _ _) | (with_reducible assumption) | (with_reducible refine Below.alloc ?_ ?_ _) | (with_reducible refine Below.drew ?_) | (with_reducible refine below_drewN ?_ _) | (with_reducible refine Below.setCell ?_ ?_ _) | go_size)⟩
theorem walk (a b c d : Int) (_ : (Lit.int .i64 a).wf = true) (_ : (Lit.int .i64 b).wf = true) (_ : (Lit.int .i64 c).wf = true) (_ : (Lit.int .i64 d).wf = true) (w : World) :
    Calls Try.prog 6 #[.agg #[.int .i64 a, .int .i64 b, .int .i64 c, .int .i64 d]] w fun e w' => e = .returned (.bool true) ∧ Below w.heap.size w w' := by
  go_enter Try.func6, Try.ntmps6
  go_wp2_with (first | (go_at_call 18; refine (toCubic_any _ _ _ _ _).mono ?_; rintro e w1 ⟨rfl, hb1⟩; obtain ⟨hc1, hf1⟩ := bcell hb1; have hB1 : Below w.heap.size w w1 := Below.trans (by repeat' (first | (with_reducible exact Below.refl _ _) | (with_reducible assumption) | (with_reducible refine Below.alloc ?_ ?_ _) | (with_reducible refine Below.drew ?_) | (with_reducible refine below_drewN ?_ _) | (with_reducible refine Below.setCell ?_ ?_ _) | go_size)) (hb1.mono (by go_size)); (have hs1 := hb1.size); (try simp at hs1); (try (have hl1 := Nat.lt_of_succ_le hs1)); (first | (have hz1 : w.heap.size < w1.heap.size := by omega) | (have hz1 : w.heap.size ≤ w1.heap.size := by omega)); (try (have hz2_1 : w2.heap.size < w1.heap.size := by omega)); (try (have hz3_1 : w3.heap.size < w1.heap.size := by omega)); (try (have hz4_1 : w4.heap.size < w1.heap.size := by omega)); (try (have hz5_1 : w5.heap.size < w1.heap.size := by omega)); (try (have hzc_1 : wc.heap.size < w1.heap.size := by omega)); (try (have hy1_1 : w.heap.size + 1 < w1.heap.size := by omega)); (try (have hy2_1 : w.heap.size + 2 < w1.heap.size := by omega)); (try (have hy3_1 : w.heap.size + 3 < w1.heap.size := by omega))) | (go_at_call 24; refine (spec_any _ _ _ _ _).mono ?_; rintro e w2 ⟨rfl, hb2⟩; obtain ⟨hc2, hf2⟩ := bcell hb2; have hB2 : Below w.heap.size w w2 := Below.trans (by repeat' (first | (with_reducible exact Below.refl _ _) | (with_reducible assumption) | (with_reducible refine Below.alloc ?_ ?_ _) | (with_reducible refine Below.drew ?_) | (with_reducible refine below_drewN ?_ _) | (with_reducible refine Below.setCell ?_ ?_ _) | go_size)) (hb2.mono (by go_size)); (have hs2 := hb2.size); (try simp at hs2); (try (have hl2 := Nat.lt_of_succ_le hs2)); (first | (have hz2 : w.heap.size < w2.heap.size := by omega) | (have hz2 : w.heap.size ≤ w2.heap.size := by omega)); (try (have hz1_2 : w1.heap.size < w2.heap.size := by omega)); (try (have hz3_2 : w3.heap.size < w2.heap.size := by omega)); (try (have hz4_2 : w4.heap.size < w2.heap.size := by omega)); (try (have hz5_2 : w5.heap.size < w2.heap.size := by omega)); (try (have hzc_2 : wc.heap.size < w2.heap.size := by omega)); (try (have hy1_2 : w.heap.size + 1 < w2.heap.size := by omega)); (try (have hy2_2 : w.heap.size + 2 < w2.heap.size := by omega)); (try (have hy3_2 : w.heap.size + 3 < w2.heap.size := by omega))) | (go_at_call 25; refine (impl_any _ _ _ _ _).mono ?_; rintro e w3 ⟨rfl, hb3⟩; obtain ⟨hc3, hf3⟩ := bcell hb3; have hB3 : Below w.heap.size w w3 := Below.trans (by repeat' (first | (with_reducible exact Below.refl _ _) | (with_reducible assumption) | (with_reducible refine Below.alloc ?_ ?_ _) | (with_reducible refine Below.drew ?_) | (with_reducible refine below_drewN ?_ _) | (with_reducible refine Below.setCell ?_ ?_ _) | go_size)) (hb3.mono (by go_size)); (have hs3 := hb3.size); (try simp at hs3); (try (have hl3 := Nat.lt_of_succ_le hs3)); (first | (have hz3 : w.heap.size < w3.heap.size := by omega) | (have hz3 : w.heap.size ≤ w3.heap.size := by omega)); (try (have hz1_3 : w1.heap.size < w3.heap.size := by omega)); (try (have hz2_3 : w2.heap.size < w3.heap.size := by omega)); (try (have hz4_3 : w4.heap.size < w3.heap.size := by omega)); (try (have hz5_3 : w5.heap.size < w3.heap.size := by omega)); (try (have hzc_3 : wc.heap.size < w3.heap.size := by omega)); (try (have hy1_3 : w.heap.size + 1 < w3.heap.size := by omega)); (try (have hy2_3 : w.heap.size + 2 < w3.heap.size := by omega)); (try (have hy3_3 : w.heap.size + 3 < w3.heap.size := by omega))) | (go_at_call 20; refine (eqCubic_same _ _ _ _ _).mono ?_; rintro e w4 ⟨rfl, hb4⟩; obtain ⟨hc4, hf4⟩ := bcell hb4; have hB4 : Below w.heap.size w w4 := Below.trans (by repeat' (first | (with_reducible exact Below.refl _ _) | (with_reducible assumption) | (with_reducible refine Below.alloc ?_ ?_ _) | (with_reducible refine Below.drew ?_) | (with_reducible refine below_drewN ?_ _) | (with_reducible refine Below.setCell ?_ ?_ _) | go_size)) (hb4.mono (by go_size)); (have hs4 := hb4.size); (try simp at hs4); (try (have hl4 := Nat.lt_of_succ_le hs4)); (first | (have hz4 : w.heap.size < w4.heap.size := by omega) | (have hz4 : w.heap.size ≤ w4.heap.size := by omega)); (try (have hz1_4 : w1.heap.size < w4.heap.size := by omega)); (try (have hz2_4 : w2.heap.size < w4.heap.size := by omega)); (try (have hz3_4 : w3.heap.size < w4.heap.size := by omega)); (try (have hz5_4 : w5.heap.size < w4.heap.size := by omega)); (try (have hzc_4 : wc.heap.size < w4.heap.size := by omega)); (try (have hy1_4 : w.heap.size + 1 < w4.heap.size := by omega)); (try (have hy2_4 : w.heap.size + 2 < w4.heap.size := by omega)); (try (have hy3_4 : w.heap.size + 3 < w4.heap.size := by omega))))
  go_ret
  exact ⟨rfl, by repeat' (first | (with_reducible exact Below.refl _ _) | (with_reducible assumption) | (with_reducible refine Below.alloc ?_ ?_ _) | (with_reducible refine Below.drew ?_) | (with_reducible refine below_drewN ?_ _) | (with_reducible refine Below.setCell ?_ ?_ _) | go_size)⟩
end Go.Proofs.Ytileaagmamkdgaa.Co
