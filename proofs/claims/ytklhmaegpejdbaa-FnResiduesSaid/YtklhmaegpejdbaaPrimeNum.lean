/- Contracts of impl.isPrime and spec.mdPrime: trial division. impl.isPrime: for a number in 2..997. -/
import Derived.Test.YtklhmaegpejdbaaInside
namespace Go.Proofs.Ytklhmaegpejdbaa
open Go.RowKit
set_option linter.unusedVariables false
/-- Trial division by 2 .. 31. -/
def primeB (n : Int) : Bool := inB n 2 997 && (List.range 30).all fun d => !(decide (((d : Int) + 2) * ((d : Int) + 2) ≤ n)) || n % ((d : Int) + 2) != 0

theorem primeB_of {n d : Int} (h0 : 2 ≤ n) (h1 : n ≤ 997) (hd : 2 ≤ d) (hb : n < d * d) (h : ∀ k : Int, 2 ≤ k → k < d → n % k ≠ 0) : primeB n = true := by
  unfold primeB
  rw [Bool.and_eq_true, inB_iff, List.all_eq_true]
  refine ⟨⟨h0, h1⟩, fun e he => ?_⟩
  by_cases hk : ((e : Int) + 2) * ((e : Int) + 2) ≤ n
  · have hlt : (e : Int) + 2 < d := by
      rcases Int.lt_or_le ((e : Int) + 2) d with h2 | h2
      · exact h2
      · have : d * d ≤ ((e : Int) + 2) * ((e : Int) + 2) := Int.mul_le_mul h2 h2 (by omega) (by omega)
        omega
    have := h _ (by omega) hlt
    simp [hk, this]
  · simp [hk]

theorem primeB_not {n d : Int} (h1 : n ≤ 997) (hd : 2 ≤ d) (hb : d * d ≤ n) (h : n % d = 0) : primeB n = false := by
  rw [← Bool.not_eq_true]
  intro hp
  unfold primeB at hp
  rw [Bool.and_eq_true, inB_iff, List.all_eq_true] at hp
  have hd2 : d < 32 := by
    rcases Int.lt_or_le d 32 with h2 | h2
    · exact h2
    · have : 32 * 32 ≤ d * d := Int.mul_le_mul h2 h2 (by omega) (by omega)
      omega
  have := hp.2 (d - 2).toNat (by rw [List.mem_range]; omega)
  rw [show (((d - 2).toNat : Nat) : Int) + 2 = d by omega] at this
  simp [hb, h] at this

theorem primeB_range {n : Int} (h : primeB n = true) : 2 ≤ n ∧ n ≤ 997 := by
  unfold primeB at h
  rw [Bool.and_eq_true, inB_iff] at h
  exact h.1
theorem primeB_out {n : Int} (h : ¬ (2 ≤ n ∧ n ≤ 997)) : primeB n = false := by
  rw [← Bool.not_eq_true]
  exact fun hp => h (primeB_range hp)

set_option maxHeartbeats 400000 in
theorem isPrime_any (n : Int) (h0 : 2 ≤ n) (h1 : n ≤ 997) (w : World) :
    Calls Try.prog 106 #[.int .i64 n] w fun e w' => e = .returned (.bool (primeB n)) ∧ w = w' := by
  go_enter Try.func106, Try.ntmps106
  go_wp2
  go_loop [3] (fun i => ∃ d : Int, 2 ≤ d ∧ d ≤ 32 ∧ i = .int .i64 d ∧ Hid (∀ k : Int, 2 ≤ k → k < d → n % k ≠ 0)) (fun i => (33 - intOf i).toNat)
  case atStart => exact ⟨2, by omega, by omega, rfl, fun k hk hk2 => absurd hk2 (by omega)⟩
  case round =>
    obtain ⟨d, hd, hd2, rfl, H⟩ := hrel
    have hq1 : 0 ≤ d * d := Int.mul_nonneg (by omega) (by omega)
    have hq2 : d * d ≤ 32 * 32 := Int.mul_le_mul hd2 hd2 (by omega) (by omega)
    by_cases hlt : d * d ≤ n
    · have hd3 : d < 32 := by
        rcases Int.lt_or_le d 32 with h2 | h2
        · exact h2
        · have : 32 * 32 ≤ d * d := Int.mul_le_mul h2 h2 (by omega) (by omega)
          omega
      by_cases hz : n % d = 0
      · have HP := Lib.hid (primeB_not h1 hd hlt hz)
        have hzb : (n % d == 0) = true := by simp [hz]
        clear hz
        go_wp2
        go_ret
        exact ⟨ret_bool HP.out.symm, rfl⟩
      · have hzb : (n % d == 0) = false := by simp [hz]
        have H2 := Lib.hid hz
        clear hz
        go_wp2
        go_round
        case rel => exact ⟨d + 1, by omega, by omega, rfl, fun k hk hk2 => by
          rcases Int.lt_or_le k d with h3 | h3
          · exact H.out k hk h3
          · rw [show k = d by omega]; exact H2.out⟩
        case measure => simp [intOf]; omega
    · have HP := Lib.hid (primeB_of h0 h1 hd (by omega) H.out)
      go_wp2
      go_ret
      exact ⟨ret_bool HP.out.symm, rfl⟩

set_option maxHeartbeats 400000 in
theorem mdPrime_any (n : Int) (w : World) :
    Calls Try.prog 107 #[.int .i64 n] w fun e w' => e = .returned (.bool (primeB n)) ∧ w = w' := by
  by_cases hr : 2 ≤ n ∧ n ≤ 997
  · obtain ⟨h0, h1⟩ := hr
    have hin : inB n 2 997 = true := inB_iff.2 ⟨h0, h1⟩
    go_enter Try.func107, Try.ntmps107
    go_wp2_with (go_at_call 95; refine (l1In_any _ _ _ _).mono ?_; rintro e w' ⟨rfl, rfl⟩)
    go_loop [3] (fun i => ∃ d : Int, 2 ≤ d ∧ d ≤ 32 ∧ i = .int .i64 d ∧ Hid (∀ k : Int, 2 ≤ k → k < d → n % k ≠ 0)) (fun i => (33 - intOf i).toNat)
    case atStart => exact ⟨2, by omega, by omega, rfl, fun k hk hk2 => absurd hk2 (by omega)⟩
    case round =>
      obtain ⟨d, hd, hd2, rfl, H⟩ := hrel
      have hq1 : 0 ≤ d * d := Int.mul_nonneg (by omega) (by omega)
      have hq2 : d * d ≤ 32 * 32 := Int.mul_le_mul hd2 hd2 (by omega) (by omega)
      by_cases hlt : d * d ≤ n
      · have hd3 : d < 32 := by
          rcases Int.lt_or_le d 32 with h2 | h2
          · exact h2
          · have : 32 * 32 ≤ d * d := Int.mul_le_mul h2 h2 (by omega) (by omega)
            omega
        by_cases hz : n % d = 0
        · have HP := Lib.hid (primeB_not h1 hd hlt hz)
          have hzb : (n % d == 0) = true := by simp [hz]
          clear hz
          go_wp2
          go_ret
          exact ⟨ret_bool HP.out.symm, rfl⟩
        · have hzb : (n % d == 0) = false := by simp [hz]
          have H2 := Lib.hid hz
          clear hz
          go_wp2
          go_round
          case rel => exact ⟨d + 1, by omega, by omega, rfl, fun k hk hk2 => by
            rcases Int.lt_or_le k d with h3 | h3
            · exact H.out k hk h3
            · rw [show k = d by omega]; exact H2.out⟩
          case measure => simp [intOf]; omega
      · have HP := Lib.hid (primeB_of h0 h1 hd (by omega) H.out)
        go_wp2
        go_ret
        exact ⟨ret_bool HP.out.symm, rfl⟩
  · have hin : inB n 2 997 = false := inB_not.2 hr
    have HP := Lib.hid (primeB_out hr)
    go_enter Try.func107, Try.ntmps107
    go_wp2_with (go_at_call 95; refine (l1In_any _ _ _ _).mono ?_; rintro e w' ⟨rfl, rfl⟩)
    go_ret
    exact ⟨ret_bool HP.out.symm, rfl⟩
end Go.Proofs.Ytklhmaegpejdbaa
