/- impl.SquareRoot and spec.SquareRoot (mdRoot); the walk of FnExactSquareRoot. -/
import Derived.Test.YtklhmaegpejdbaaRes
import Derived.Test.YtklhmaegpejdbaaNum
namespace Go.Proofs.Ytklhmaegpejdbaa
open Go.RowKit
set_option linter.unusedVariables false
set_option linter.unusedSimpArgs false
/-- The least square root modulo P of the residue A. -/
def sqrtN (A P : Nat) : Option Nat := (List.range P).find? fun x => x * x % P == A
def sqrtO (a p : Int) : Option Nat := sqrtN (a % p).toNat p.toNat
def sqrtB (a p : Int) : Bool := fitsB a p && (sqrtO a p).isSome
def sqrtR (a p : Int) : Int := if sqrtB a p = true then (((sqrtO a p).getD 0 : Nat) : Int) else 0
def mdRootR (a p : Int) : Int := match sqrtO a p with
  | some x => (x : Int)
  | none => -1
theorem square_test (x A P : Nat) (hP : 1 ≤ P) (hA : A < P) : (((x : Int) * (x : Int) - (A : Int)).tmod (P : Int) == 0) = (x * x % P == A) := by
  rw [tmod_zero, Bool.eq_iff_iff, beq_iff_eq, beq_iff_eq]
  have e : ((x * x : Nat) : Int) = (x : Int) * (x : Int) := Int.natCast_mul x x
  rw [← e]
  generalize x * x = q
  constructor
  · intro h
    obtain ⟨c, hc⟩ := Int.dvd_of_emod_eq_zero h
    have h3 : (q : Int) % (P : Int) = (A : Int) := by
      rw [show (q : Int) = (A : Int) + (P : Int) * c by omega, Int.add_mul_emod_self_left, Int.emod_eq_of_lt (by omega) (by omega)]
    rw [← Int.natCast_emod] at h3
    omega
  · intro h
    have h2 := Nat.div_add_mod q P
    rw [h] at h2
    refine Int.emod_eq_zero_of_dvd ⟨((q / P : Nat) : Int), ?_⟩
    rw [← Int.natCast_mul]
    omega

set_option maxHeartbeats 1000000 in
theorem mdRoot_quiet (a p : Int) (hp : 2 ≤ p ∧ p ≤ 997) (w : World) :
    Calls Try.prog 86 #[.int .i64 a, .int .i64 p] w fun e w' => e = .returned (.int .i64 (mdRootR a p)) ∧ ∃ m, w' = w.drewN m := by
  obtain ⟨hp0, hp1⟩ := hp
  obtain ⟨P, rfl⟩ := Int.eq_ofNat_of_zero_le (show 0 ≤ p by omega)
  obtain ⟨A, hA⟩ := Int.eq_ofNat_of_zero_le (Int.emod_nonneg a (show (P : Int) ≠ 0 by omega))
  have hA2 : A < P := by have := Int.emod_lt_of_pos a (show (0 : Int) < P by omega); omega
  have HP := Lib.hid (show sqrtO a P = sqrtN A P by simp [sqrtO, hA])
  have HM : Hid (∀ w : World, Calls Try.prog 81 #[.int .i64 a, .int .i64 P] w fun e w' => e = .returned (.int .i64 (A : Int)) ∧ w = w') := fun w => by
    rw [← hA]; exact mdMod_any a P (by omega) (by omega) w
  have hz : ((P : Int) == 0) = false := by simp; omega
  clear hA
  go_enter Try.func86, Try.ntmps86
  go_wp2
  go_loopw [5] (fun x wr => ∃ k : Nat, k ≤ P ∧ x = .int .i64 k ∧ Hid (∀ j, j < k → (j * j % P == A) = false) ∧ ∃ m, wr = w.drewN m) (fun x _ => P - (intOf x).toNat)
  case atStart => exact ⟨0, by omega, rfl, fun j hj => absurd hj (by omega), 0, rfl⟩
  case round =>
    obtain ⟨k, hk, rfl, H, m, rfl⟩ := hrel
    have b1 : (k : Int) * (k : Int) ≤ 997 * 997 ∧ 0 ≤ (k : Int) * (k : Int) := by
      have : k * k ≤ 997 * 997 := Nat.mul_le_mul (by omega) (by omega)
      have e : ((k * k : Nat) : Int) = (k : Int) * (k : Int) := Int.natCast_mul k k
      omega
    obtain ⟨b1, b2⟩ := b1
    by_cases hlt : k < P
    · have e : (((k : Int) * (k : Int)) % (P : Int) == (A : Int)) = (k * k % P == A) := by
        rw [Bool.eq_iff_iff, beq_iff_eq, beq_iff_eq, ← Int.natCast_mul, ← Int.natCast_emod]; omega
      rcases Bool.eq_false_or_eq_true (k * k % P == A) with hq | hq
      · rw [hq] at e
        have HE := Lib.hid (show ((k : Nat) : Int) = mdRootR a P by rw [mdRootR, HP.out, sqrtN, find_range hlt hq H.out])
        clear hq
        go_wp2_with fail
        go_quiet ((go_at_call 81; exact quietG (HM.out _) ⟨_, rfl⟩))
        go_wp2
        go_ret
        exact ⟨ret_int HE.out, _, World.drewN_drewN _ _ _⟩
      · rw [hq] at e
        have HN : Hid (∀ j, j < k + 1 → (j * j % P == A) = false) := fun j hj => by
          rcases Nat.lt_or_ge j k with h4 | h4
          · exact H.out j h4
          · obtain rfl : j = k := by omega
            exact hq
        clear hq
        go_wp2_with fail
        go_quiet ((go_at_call 81; exact quietG (HM.out _) ⟨_, rfl⟩))
        go_wp2
        go_roundw
        case rel => exact ⟨k + 1, by omega, by go_num, HN, _, rfl⟩
        case measure => simp [intOf]; omega
    · obtain rfl : k = P := by omega
      have HE := Lib.hid (show (-1 : Int) = mdRootR a k by rw [mdRootR, HP.out, sqrtN, find_range_none H.out])
      go_wp2
      go_ret
      exact ⟨ret_int HE.out, _, rfl⟩
theorem mdRoot_any (a p : Int) (hp : 2 ≤ p ∧ p ≤ 997) (w : World) :
    Calls Try.prog 86 #[.int .i64 a, .int .i64 p] w fun e w' => e = .returned (.int .i64 (mdRootR a p)) ∧ Below w.heap.size w w' :=
  (mdRoot_quiet a p hp w).mono fun _ _ ⟨he, m, hm⟩ => ⟨he, hm ▸ below_drewN (Below.refl _ _) m⟩

set_option maxHeartbeats 1000000 in
theorem implSquareRoot_any (a p : Int) (w : World) :
    Calls Try.prog 22 #[.int .i64 a, .int .i64 p] w fun e w' => e = .returned (.tuple #[.int .i64 (sqrtR a p), .bool (sqrtB a p)]) ∧ w = w' := by
  rcases Bool.eq_false_or_eq_true (fitsB a p) with hc | hc
  · obtain ⟨_, ⟨hp0, hp1⟩, _⟩ := fitsB_range hc
    obtain ⟨P, rfl⟩ := Int.eq_ofNat_of_zero_le (show 0 ≤ p by omega)
    obtain ⟨A, hA⟩ := Int.eq_ofNat_of_zero_le (Int.emod_nonneg a (show (P : Int) ≠ 0 by omega))
    have hA2 : A < P := by have := Int.emod_lt_of_pos a (show (0 : Int) < P by omega); omega
    have HP := Lib.hid (show sqrtO a P = sqrtN A P by simp [sqrtO, hA])
    have HM : Hid (∀ w : World, Calls Try.prog 83 #[.int .i64 a, .int .i64 P] w fun e w' => e = .returned (.int .i64 (A : Int)) ∧ w = w') := fun w => by
      rw [← hA]; exact modulo_any a P (by omega) (by omega) w
    have hz : ((P : Int) == 0) = false := by simp; omega
    clear hA
    go_enter Try.func22, Try.ntmps22
    go_wp2_with (go_at_call 78; refine (residueFits_any _ _ _).mono ?_; rintro e w' ⟨rfl, rfl⟩)
    go_loop [12] (fun x => ∃ k : Nat, k ≤ P ∧ x = .int .i64 k ∧ Hid (∀ j, j < k → (j * j % P == A) = false)) (fun x => P - (intOf x).toNat)
    case atStart => exact ⟨0, by omega, rfl, fun j hj => absurd hj (by omega)⟩
    case round =>
      obtain ⟨k, hk, rfl, H⟩ := hrel
      have b1 : (k : Int) * (k : Int) ≤ 997 * 997 ∧ 0 ≤ (k : Int) * (k : Int) := by
        have : k * k ≤ 997 * 997 := Nat.mul_le_mul (by omega) (by omega)
        have e : ((k * k : Nat) : Int) = (k : Int) * (k : Int) := Int.natCast_mul k k
        omega
      obtain ⟨b1, b2⟩ := b1
      by_cases hlt : k < P
      · have e := square_test k A P (by omega) hA2
        rcases Bool.eq_false_or_eq_true (k * k % P == A) with hq | hq
        · rw [hq] at e
          have HE := Lib.hid (find_range hlt hq H.out)
          clear hq
          go_wp2_with (go_at_call 83; refine (HM.out _).mono ?_; rintro e w' ⟨rfl, rfl⟩)
          go_ret2
          exact ⟨ret_int_bool (by simp [sqrtR, sqrtB, hc, HP.out, sqrtN, HE.out]) (by simp [sqrtB, hc, HP.out, sqrtN, HE.out]), rfl⟩
        · rw [hq] at e
          have HN : Hid (∀ j, j < k + 1 → (j * j % P == A) = false) := fun j hj => by
            rcases Nat.lt_or_ge j k with h4 | h4
            · exact H.out j h4
            · obtain rfl : j = k := by omega
              exact hq
          clear hq
          go_wp2_with (go_at_call 83; refine (HM.out _).mono ?_; rintro e w' ⟨rfl, rfl⟩)
          go_round
          case rel => exact ⟨k + 1, by omega, by go_num, HN⟩
          case measure => simp [intOf]; omega
      · obtain rfl : k = P := by omega
        have HE := Lib.hid (find_range_none H.out)
        go_wp2
        go_ret2
        exact ⟨ret_int_bool (by simp [sqrtR, sqrtB, hc, HP.out, sqrtN, HE.out]) (by simp [sqrtB, hc, HP.out, sqrtN, HE.out]), rfl⟩
  · go_enter Try.func22, Try.ntmps22
    go_wp2_with (go_at_call 78; refine (residueFits_any _ _ _).mono ?_; rintro e w' ⟨rfl, rfl⟩)
    go_ret2
    exact ⟨ret_int_bool (by simp [sqrtR, sqrtB, hc]) (by simp [sqrtB, hc]), rfl⟩
theorem mdRootR_cases (a p : Int) : (sqrtO a p = none ∧ mdRootR a p = -1) ∨ ∃ x : Nat, sqrtO a p = some x ∧ mdRootR a p = (x : Int) := by
  unfold mdRootR
  rcases sqrtO a p with _ | x
  · exact .inl ⟨rfl, rfl⟩
  · exact .inr ⟨x, rfl, rfl⟩
set_option maxHeartbeats 1000000 in
theorem specSquareRoot_any (a p : Int) (w : World) :
    Calls Try.prog 23 #[.int .i64 a, .int .i64 p] w fun e w' => e = .returned (.tuple #[.int .i64 (sqrtR a p), .bool (sqrtB a p)]) ∧ Below w.heap.size w w' := by
  rcases Bool.eq_false_or_eq_true (fitsB a p) with hc | hc
  · obtain ⟨_, hp, _⟩ := fitsB_range hc
    have HP := Lib.hid hp
    rcases mdRootR_cases a p with ⟨h1, h2⟩ | ⟨x, h1, h2⟩
    · have H1 := Lib.hid h1
      have h3 : (decide (mdRootR a p < 0)) = true := by rw [h2]; rfl
      have h4 : mdRootR a p < 0 := by rw [h2]; omega
      clear h1 h2
      go_enter Try.func23, Try.ntmps23
      go_wp2_with (first | (go_at_call 80; refine (mdAsked_any _ _ _).mono ?_; rintro e w' ⟨rfl, rfl⟩) | (go_at_call 86; refine (mdRoot_any _ _ HP.out _).mono ?_; rintro e w1 ⟨rfl, hb1⟩; obtain ⟨hc1, hf1⟩ := bcell hb1; have hB1 : Below w.heap.size w w1 := Below.trans (by repeat' (first | (with_reducible exact Below.refl _ _) | (with_reducible assumption) | (with_reducible refine Below.alloc ?_ ?_ _) | (with_reducible refine Below.drew ?_) | (with_reducible refine below_drewN ?_ _) | (with_reducible refine Below.setCell ?_ ?_ _) | go_size)) (hb1.mono (by go_size)); (have hs1 := hb1.size); (try simp at hs1); (try (have hl1 := Nat.lt_of_succ_le hs1)); (first | (have hz1 : w.heap.size < w1.heap.size := by omega) | (have hz1 : w.heap.size ≤ w1.heap.size := by omega)); (try (have hz2_1 : w2.heap.size < w1.heap.size := by omega)); (try (have hz3_1 : w3.heap.size < w1.heap.size := by omega)); (try (have hz4_1 : w4.heap.size < w1.heap.size := by omega)); (try (have hz5_1 : w5.heap.size < w1.heap.size := by omega)); (try (have hzc_1 : wc.heap.size < w1.heap.size := by omega)); (try (have hy1_1 : w.heap.size + 1 < w1.heap.size := by omega)); (try (have hy2_1 : w.heap.size + 2 < w1.heap.size := by omega)); (try (have hy3_1 : w.heap.size + 3 < w1.heap.size := by omega))))
      go_ret2
      exact ⟨ret_int_bool (by simp [sqrtR, sqrtB, hc, H1.out]) (by simp [sqrtB, hc, H1.out]), by repeat' (first | (with_reducible exact Below.refl _ _) | (with_reducible assumption) | (with_reducible refine Below.alloc ?_ ?_ _) | (with_reducible refine Below.drew ?_) | (with_reducible refine below_drewN ?_ _) | (with_reducible refine Below.setCell ?_ ?_ _) | go_size)⟩
    · have H1 := Lib.hid h1
      have H2 := Lib.hid h2
      have h4 : ¬ mdRootR a p < 0 := by rw [h2]; omega
      clear h1 h2
      go_enter Try.func23, Try.ntmps23
      go_wp2_with (first | (go_at_call 80; refine (mdAsked_any _ _ _).mono ?_; rintro e w' ⟨rfl, rfl⟩) | (go_at_call 86; refine (mdRoot_any _ _ HP.out _).mono ?_; rintro e w1 ⟨rfl, hb1⟩; obtain ⟨hc1, hf1⟩ := bcell hb1; have hB1 : Below w.heap.size w w1 := Below.trans (by repeat' (first | (with_reducible exact Below.refl _ _) | (with_reducible assumption) | (with_reducible refine Below.alloc ?_ ?_ _) | (with_reducible refine Below.drew ?_) | (with_reducible refine below_drewN ?_ _) | (with_reducible refine Below.setCell ?_ ?_ _) | go_size)) (hb1.mono (by go_size)); (have hs1 := hb1.size); (try simp at hs1); (try (have hl1 := Nat.lt_of_succ_le hs1)); (first | (have hz1 : w.heap.size < w1.heap.size := by omega) | (have hz1 : w.heap.size ≤ w1.heap.size := by omega)); (try (have hz2_1 : w2.heap.size < w1.heap.size := by omega)); (try (have hz3_1 : w3.heap.size < w1.heap.size := by omega)); (try (have hz4_1 : w4.heap.size < w1.heap.size := by omega)); (try (have hz5_1 : w5.heap.size < w1.heap.size := by omega)); (try (have hzc_1 : wc.heap.size < w1.heap.size := by omega)); (try (have hy1_1 : w.heap.size + 1 < w1.heap.size := by omega)); (try (have hy2_1 : w.heap.size + 2 < w1.heap.size := by omega)); (try (have hy3_1 : w.heap.size + 3 < w1.heap.size := by omega))))
      go_ret2
      exact ⟨ret_int_bool (by rw [H2.out]; simp [sqrtR, sqrtB, hc, H1.out]) (by simp [sqrtB, hc, H1.out]), by repeat' (first | (with_reducible exact Below.refl _ _) | (with_reducible assumption) | (with_reducible refine Below.alloc ?_ ?_ _) | (with_reducible refine Below.drew ?_) | (with_reducible refine below_drewN ?_ _) | (with_reducible refine Below.setCell ?_ ?_ _) | go_size)⟩
  · go_enter Try.func23, Try.ntmps23
    go_wp2_with (first | (go_at_call 80; refine (mdAsked_any _ _ _).mono ?_; rintro e w' ⟨rfl, rfl⟩))
    go_ret2
    exact ⟨ret_int_bool (by simp [sqrtR, sqrtB, hc]) (by simp [sqrtB, hc]), by repeat' (first | (with_reducible exact Below.refl _ _) | (with_reducible assumption) | (with_reducible refine Below.alloc ?_ ?_ _) | (with_reducible refine Below.drew ?_) | (with_reducible refine below_drewN ?_ _) | (with_reducible refine Below.setCell ?_ ?_ _) | go_size)⟩
end Go.Proofs.Ytklhmaegpejdbaa
