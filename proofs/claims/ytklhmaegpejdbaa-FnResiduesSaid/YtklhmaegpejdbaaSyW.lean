/- impl.SquareSymbol and spec.SquareSymbol; the walk of FnExactSquareSymbol. -/
import Derived.Test.YtklhmaegpejdbaaPow
import Derived.Test.YtklhmaegpejdbaaOrd
import Derived.Test.YtklhmaegpejdbaaNumRoots
namespace Go.Proofs.Ytklhmaegpejdbaa
open Go.RowKit
set_option linter.unusedVariables false
set_option linter.unusedSimpArgs false
def halfI (a p : Int) : Int := powI a ((p - 1) / 2) p
def symI (a p : Int) : Int := if halfI a p = p - 1 then -1 else halfI a p
theorem powI_of {a n p : Int} {A k P : Nat} (ha : a % p = (A : Int)) (hn : n = (k : Int)) (hp : p = (P : Int)) : powI a n p = ((A ^ k % P : Nat) : Int) := by
  subst hn hp; simp [powI, ha]
theorem half_cases {a p : Int} (hp : primeB p = true) (h3 : p ≠ 2) : halfI a p = 0 ∨ halfI a p = 1 ∨ halfI a p = p - 1 := by
  have hr := primeB_range hp
  obtain ⟨P, rfl⟩ := Int.eq_ofNat_of_zero_le (show 0 ≤ p by omega)
  obtain ⟨q1, q2, q3⟩ := primeN_of hp
  have odd : P % 2 = 1 := by
    rcases Nat.mod_two_eq_zero_or_one P with h | h
    · have h4 : primeB (P : Int) = false := primeB_not (d := 2) (by omega) (by omega) (by omega) (by omega)
      rw [hp] at h4; cases h4
    · exact h
  by_cases hz : a % (P : Int) = 0
  · left
    have e := powI_of (a := a) (n := ((P : Int) - 1) / 2) (A := 0) (k := (P - 1) / 2) (P := P) (by simpa using hz) (by omega) rfl
    rw [halfI, e, Nat.zero_pow (by omega)]; simp
  · right
    obtain ⟨A, P', U⟩ := unitOf hp hz
    obtain ⟨hA, e0, u1, u2, u3, u4, u5, u6⟩ := U
    obtain rfl : P' = P := by omega
    have e := powI_of (n := ((P' : Int) - 1) / 2) (k := (P' - 1) / 2) hA (by omega) rfl
    have h5 : (A ^ ((P' - 1) / 2) % P') * (A ^ ((P' - 1) / 2) % P') % P' = 1 := by
      rw [← Nat.mul_mod, ← Nat.pow_add, show (P' - 1) / 2 + (P' - 1) / 2 = P' - 1 by omega, u6]
    rcases roots q1 q3 (Nat.mod_lt _ (by omega)) h5 with h6 | h6
    · left; rw [halfI, e, h6]; rfl
    · right; rw [halfI, e, h6]; omega
theorem symbol_any (a p : Int) (hp : primeB p = true) (h3 : p ≠ 2) (w : World) :
    Calls Try.prog 87 #[.int .i64 a, .int .i64 p] w fun e w' => e = .returned (.int .i64 (symI a p)) ∧ Below w.heap.size w w' := by
  obtain ⟨p0, p1⟩ := primeB_range hp
  have HH : Hid (powI a ((p - 1) / 2) p = halfI a p) := rfl
  rcases half_cases (a := a) hp h3 with h | h | h
  · have H := Lib.hid (show powI a ((p - 1) / 2) p = 0 from h)
    have HS := Lib.hid (show symI a p = 0 by rw [symI, h, if_neg (by omega)])
    clear h
    go_enter Try.func87, Try.ntmps87
    go_wp2_with (go_at_call 90; refine (power_any _ _ _ (by omega) (by omega) _).mono ?_; rintro e w1 ⟨rfl, hb1⟩; rw [H.out])
    go_ret
    exact ⟨ret_int HS.out.symm, hb1⟩
  · have H := Lib.hid (show powI a ((p - 1) / 2) p = 1 from h)
    have HS := Lib.hid (show symI a p = 1 by rw [symI, h, if_neg (by omega)])
    clear h
    go_enter Try.func87, Try.ntmps87
    go_wp2_with (go_at_call 90; refine (power_any _ _ _ (by omega) (by omega) _).mono ?_; rintro e w1 ⟨rfl, hb1⟩; rw [H.out])
    go_ret
    exact ⟨ret_int HS.out.symm, hb1⟩
  · have H := Lib.hid (show powI a ((p - 1) / 2) p = p - 1 from h)
    have HS := Lib.hid (show symI a p = -1 by rw [symI, h, if_pos rfl])
    have b0 : (p - 1 == 0) = false := by simp; omega
    have b1 : (p - 1 == 1) = false := by simp; omega
    clear h
    go_enter Try.func87, Try.ntmps87
    go_wp2_with (go_at_call 90; refine (power_any _ _ _ (by omega) (by omega) _).mono ?_; rintro e w1 ⟨rfl, hb1⟩; rw [H.out])
    go_ret
    exact ⟨ret_int HS.out.symm, hb1⟩
theorem mdSymbol_any (a p : Int) (hp : primeB p = true) (h3 : p ≠ 2) (w : World) :
    Calls Try.prog 88 #[.int .i64 a, .int .i64 p] w fun e w' => e = .returned (.int .i64 (symI a p)) ∧ w = w' := by
  obtain ⟨p0, p1⟩ := primeB_range hp
  by_cases h : halfI a p = p - 1
  · have H := Lib.hid (show powI a ((p - 1) / 2) p = p - 1 from h)
    have HS := Lib.hid (show symI a p = -1 by rw [symI, if_pos h])
    clear h
    go_enter Try.func88, Try.ntmps88
    go_wp2_with (go_at_call 96; refine (mdPower_any _ _ _ (by omega) (by omega) _).mono ?_; rintro e w' ⟨rfl, rfl⟩; rw [H.out])
    go_ret
    exact ⟨ret_int HS.out.symm, rfl⟩
  · have hb : (halfI a p == p - 1) = false := by simpa using h
    have HS := Lib.hid (show symI a p = halfI a p by rw [symI, if_neg h])
    have H : Hid (powI a ((p - 1) / 2) p = halfI a p) := rfl
    clear h
    go_enter Try.func88, Try.ntmps88
    go_wp2_with (go_at_call 96; refine (mdPower_any _ _ _ (by omega) (by omega) _).mono ?_; rintro e w' ⟨rfl, rfl⟩; rw [H.out])
    go_ret
    exact ⟨ret_int HS.out.symm, rfl⟩
def symB (a p : Int) : Bool := fitsB a p && p != 2
def symR (a p : Int) : Int := if symB a p = true then symI a p else 0
theorem implSquareSymbol_any (a p : Int) (w : World) :
    Calls Try.prog 24 #[.int .i64 a, .int .i64 p] w fun e w' => e = .returned (.tuple #[.int .i64 (symR a p), .bool (symB a p)]) ∧ Below w.heap.size w w' := by
  rcases Bool.eq_false_or_eq_true (fitsB a p) with hc | hc
  · have HP := Lib.hid (fitsB_range hc).1
    rcases Bool.eq_false_or_eq_true (p == 2) with hn | hn
    all_goals
      have HN := Lib.hid hn
      have HQ : Hid ((p == 2) = false → p ≠ 2) := fun h => by simpa using h
      go_enter Try.func24, Try.ntmps24
      go_wp2_with (first | (go_at_call 78; refine (residueFits_any _ _ _).mono ?_; rintro e w' ⟨rfl, rfl⟩) | (go_at_call 87; refine (symbol_any _ _ HP.out (HQ.out HN.out) _).mono ?_; rintro e w1 ⟨rfl, hb1⟩; obtain ⟨hc1, hf1⟩ := bcell hb1; have hB1 : Below w.heap.size w w1 := Below.trans (by repeat' (first | (with_reducible exact Below.refl _ _) | (with_reducible assumption) | (with_reducible refine Below.alloc ?_ ?_ _) | (with_reducible refine Below.drew ?_) | (with_reducible refine below_drewN ?_ _) | (with_reducible refine Below.setCell ?_ ?_ _) | go_size)) (hb1.mono (by go_size)); (have hs1 := hb1.size); (try simp at hs1); (try (have hl1 := Nat.lt_of_succ_le hs1)); (first | (have hz1 : w.heap.size < w1.heap.size := by omega) | (have hz1 : w.heap.size ≤ w1.heap.size := by omega)); (try (have hz2_1 : w2.heap.size < w1.heap.size := by omega)); (try (have hz3_1 : w3.heap.size < w1.heap.size := by omega)); (try (have hz4_1 : w4.heap.size < w1.heap.size := by omega)); (try (have hz5_1 : w5.heap.size < w1.heap.size := by omega)); (try (have hzc_1 : wc.heap.size < w1.heap.size := by omega)); (try (have hy1_1 : w.heap.size + 1 < w1.heap.size := by omega)); (try (have hy2_1 : w.heap.size + 2 < w1.heap.size := by omega)); (try (have hy3_1 : w.heap.size + 3 < w1.heap.size := by omega))))
      go_ret2
      exact ⟨ret_int_bool (by simp only [symR, symB, hc, bne, HN.out]; rfl) (by simp only [symB, hc, bne, HN.out]; rfl), by repeat' (first | (with_reducible exact Below.refl _ _) | (with_reducible assumption) | (with_reducible refine Below.alloc ?_ ?_ _) | (with_reducible refine Below.drew ?_) | (with_reducible refine below_drewN ?_ _) | (with_reducible refine Below.setCell ?_ ?_ _) | go_size)⟩
  · go_enter Try.func24, Try.ntmps24
    go_wp2_with (first | (go_at_call 78; refine (residueFits_any _ _ _).mono ?_; rintro e w' ⟨rfl, rfl⟩))
    go_ret2
    exact ⟨ret_int_bool (by simp [symR, symB, hc]) (by simp [symB, hc]), by repeat' (first | (with_reducible exact Below.refl _ _) | (with_reducible assumption) | (with_reducible refine Below.alloc ?_ ?_ _) | (with_reducible refine Below.drew ?_) | (with_reducible refine below_drewN ?_ _) | (with_reducible refine Below.setCell ?_ ?_ _) | go_size)⟩
theorem specSquareSymbol_any (a p : Int) (w : World) :
    Calls Try.prog 25 #[.int .i64 a, .int .i64 p] w fun e w' => e = .returned (.tuple #[.int .i64 (symR a p), .bool (symB a p)]) ∧ w = w' := by
  rcases Bool.eq_false_or_eq_true (fitsB a p) with hc | hc
  · have HP := Lib.hid (fitsB_range hc).1
    rcases Bool.eq_false_or_eq_true (p == 2) with hn | hn
    all_goals
      have HN := Lib.hid hn
      have HQ : Hid ((p == 2) = false → p ≠ 2) := fun h => by simpa using h
      go_enter Try.func25, Try.ntmps25
      go_wp2_with (first | (go_at_call 80; refine (mdAsked_any _ _ _).mono ?_; rintro e w' ⟨rfl, rfl⟩) | (go_at_call 88; refine (mdSymbol_any _ _ HP.out (HQ.out HN.out) _).mono ?_; rintro e w' ⟨rfl, rfl⟩))
      go_ret2
      exact ⟨ret_int_bool (by simp only [symR, symB, hc, bne, HN.out]; rfl) (by simp only [symB, hc, bne, HN.out]; rfl), rfl⟩
  · go_enter Try.func25, Try.ntmps25
    go_wp2_with (first | (go_at_call 80; refine (mdAsked_any _ _ _).mono ?_; rintro e w' ⟨rfl, rfl⟩))
    go_ret2
    exact ⟨ret_int_bool (by simp [symR, symB, hc]) (by simp [symB, hc]), rfl⟩
end Go.Proofs.Ytklhmaegpejdbaa
