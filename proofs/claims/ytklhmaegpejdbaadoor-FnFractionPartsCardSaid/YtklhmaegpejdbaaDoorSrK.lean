/- Square roots of numbers: impl.exactRoot, spec.frRoot, spec.frSquare. -/
import Derived.Test.YtklhmaegpejdbaaDoorSqrt
import Derived.Laws.Externs
namespace Go.Proofs.YtklhmaegpejdbaaDoor
open Go.RowKit
set_option linter.unusedVariables false
set_option linter.unusedSimpArgs false
set_option maxRecDepth 100000
/-- The greatest number whose square is at most n. -/
def flN (n : Nat) : Nat := ((List.range (n + 1)).find? fun x => decide (n < (x + 1) * (x + 1))).getD 0
theorem flN_spec (n : Nat) : flN n * flN n ≤ n ∧ n < (flN n + 1) * (flN n + 1) := by
  unfold flN
  have hs : ((List.range (n + 1)).find? fun x => decide (n < (x + 1) * (x + 1))).isSome = true := by
    rw [List.find?_isSome]
    refine ⟨n, List.mem_range.2 (by omega), decide_eq_true ?_⟩
    calc n < n + 1 := by omega
      _ = (n + 1) * 1 := by omega
      _ ≤ (n + 1) * (n + 1) := Nat.mul_le_mul_left _ (by omega)
  obtain ⟨x, hx⟩ := Option.isSome_iff_exists.1 hs
  rw [hx]
  show x * x ≤ n ∧ n < (x + 1) * (x + 1)
  have h1 := List.find?_some hx
  refine ⟨?_, by simpa using h1⟩
  rcases Nat.eq_zero_or_pos x with h0 | h0
  · subst h0; omega
  · obtain ⟨h2, k, h3, h4, h5⟩ := List.find?_eq_some_iff_getElem.1 hx
    have hk : x = k := by rw [← h4]; simp
    have h6 := h5 (k - 1) (by omega)
    have hkk : k - 1 + 1 = k := by omega
    simp [hkk] at h6
    rw [hk]; exact h6
theorem flN_of {n s : Nat} (h0 : s * s ≤ n) (h1 : n < (s + 1) * (s + 1)) : flN n = s := by
  obtain ⟨k0, k1⟩ := flN_spec n
  rcases Nat.lt_trichotomy (flN n) s with h | h | h
  · have := Nat.mul_le_mul (show flN n + 1 ≤ s by omega) (show flN n + 1 ≤ s by omega); omega
  · exact h
  · have := Nat.mul_le_mul (show s + 1 ≤ flN n by omega) (show s + 1 ≤ flN n by omega); omega
theorem flN_le {n : Nat} (h : n ≤ 1000000000) : flN n ≤ 31622 := by
  obtain ⟨k0, k1⟩ := flN_spec n
  rcases Nat.lt_or_ge 31622 (flN n) with h1 | h1
  · have := Nat.mul_le_mul (show 31623 ≤ flN n by omega) (show 31623 ≤ flN n by omega); omega
  · exact h1
def flI (n : Int) : Int := ((flN n.toNat : Nat) : Int)
def sqB (n : Int) : Bool := decide (0 ≤ n) && flI n * flI n == n
def rootV (n : Int) : Int := if sqB n = true then flI n else 0
theorem math_sqrt_any (x r : Nat) (h : FloatKind.f64.format.sqrt x = some r) (w : World) : Calls Tryd.prog 104 #[.float .f64 x] w fun e w' => e = .returned (.float .f64 r) ∧ w = w' := by
  have hd : ∀ w : World, (callFunc 120 #[.float .f64 x]).run Tryd.prog w = .ok (.value (.float .f64 r)) w := by
    intro w
    rw [run_callFunc_extern (P := Tryd.prog) (e := Extern.MathSqrt.sqrt) Tryd.func120 (by kernel_rfl) (by kernel_rfl) (by kernel_rfl) (by kernel_rfl)]
    change ((match FloatKind.f64.format.sqrt x with | some r => (pure (Value.float .f64 r) : Sem Value) | none => (do pure (Value.float .f64 (← choose (.nanBits .f64 x x))))).run Tryd.prog w).andThen _ = _
    rw [h]
    rfl
  go_enter Tryd.func104, Tryd.ntmps104
  go_wp2
  go_ret
  exact ⟨rfl, rfl⟩
theorem sq_le {r m : Int} (h0 : 0 ≤ r) (h1 : r ≤ m) : 0 ≤ r * r ∧ r * r ≤ m * m := ⟨Int.mul_nonneg h0 h0, Int.mul_le_mul h1 h1 h0 (by omega)⟩
set_option maxHeartbeats 4000000 in
theorem exactRoot_any (n : Int) (hn0 : -1000000000 ≤ n) (hn1 : n ≤ 1000000000) (w : World) :
    Calls Tryd.prog 74 #[.int .i64 n] w fun e w' => e = .returned (.tuple #[.int .i64 (rootV n), .bool (sqB n)]) ∧ w = w' := by
  by_cases hneg : n < 0
  · have e : sqB n = false := by simp [sqB]; omega
    have e2 : rootV n = 0 := by unfold rootV; rw [e]; rfl
    rw [e, e2]
    go_enter Tryd.func74, Tryd.ntmps74
    go_wp2
    go_ret2
    exact ⟨rfl, rfl⟩
  · obtain ⟨N, rfl⟩ := Int.eq_ofNat_of_zero_le (show 0 ≤ n by omega)
    obtain ⟨r, t, hs, ht, t0, t1⟩ := sqrt_small N (by omega)
    have HS := Lib.hid (math_sqrt_any (floatOfInt .f64 (N : Int)) r hs)
    have hcv := fun (w : World) => run_convert_float_int (P := Tryd.prog) w 107 3 .f64 .i64 r t (by kernel_rfl) (by kernel_rfl) ht
    clear hs ht
    have HF := Lib.hid (flN_spec N)
    have hfl := flN_le (n := N) (by omega)
    obtain ⟨s, HSs⟩ : ∃ s, Hid (flN N = s) := ⟨_, Lib.hid rfl⟩
    rw [HSs.out] at HF hfl
    have HV : Hid (sqB (N : Int) = ((s : Int) * (s : Int) == (N : Int)) ∧ flI (N : Int) = (s : Int)) := Lib.hid (by
      constructor
      · unfold sqB flI; rw [Int.toNat_natCast, HSs.out]; simp
      · unfold flI; rw [Int.toNat_natCast, HSs.out])
    clear HSs
    go_enter Tryd.func74, Tryd.ntmps74
    go_wp2_with (go_at_call 104; refine (HS.out _).mono ?_; rintro e w' ⟨rfl, rfl⟩)
    go_loop [4] (fun u => ∃ r : Nat, r ≤ 131072 ∧ u = .int .i64 r) (fun u => (intOf u).toNat)
    case atStart => exact ⟨t.toNat, by omega, by rw [Int.toNat_of_nonneg t0]⟩
    case round =>
      obtain ⟨r, hr, rfl⟩ := hrel
      obtain ⟨q0, q1⟩ := sq_le (r := (r : Int)) (m := 131072) (by omega) (by omega)
      have ew : IntKind.i64.wrap ((r : Int) * (r : Int)) = (r : Int) * (r : Int) := IntWalk.i64_in _ (by omega)
      by_cases h : (N : Int) < (r : Int) * (r : Int)
      · have r1 : 1 ≤ r := by
          rcases Nat.eq_zero_or_pos r with h0 | h0
          · subst h0; simp at h; omega
          · exact h0
        go_wp2
        go_round
        case rel => exact ⟨r - 1, by omega, by go_num⟩
        case measure => simp [intOf]; omega
      · have HR : Hid (r * r ≤ N) := Lib.hid (by have e : ((r * r : Nat) : Int) = (r : Int) * (r : Int) := Int.natCast_mul r r
                                                 omega)
        go_wp2
        go_loop [4] (fun u => ∃ r : Nat, r ≤ 131072 ∧ u = .int .i64 r ∧ Hid (r * r ≤ N)) (fun u => 131072 - (intOf u).toNat)
        case atStart => exact ⟨r, hr, rfl, HR⟩
        case round =>
          clear q0 q1 ew h hr HR
          obtain ⟨r2, hr2, rfl, HR2⟩ := hrel
          have hle : r2 ≤ 31622 := by
            rcases Nat.lt_or_ge 31622 r2 with h1 | h1
            · have := HR2.out
              have := Nat.mul_le_mul (show 31623 ≤ r2 by omega) (show 31623 ≤ r2 by omega)
              omega
            · exact h1
          obtain ⟨q0, q1⟩ := sq_le (r := (r2 : Int)) (m := 131072) (by omega) (by omega)
          obtain ⟨q2, q3⟩ := sq_le (r := (r2 : Int) + 1) (m := 131072) (by omega) (by omega)
          have ew : IntKind.i64.wrap ((r2 : Int) * (r2 : Int)) = (r2 : Int) * (r2 : Int) := IntWalk.i64_in _ (by omega)
          have ew1 : IntKind.i64.wrap ((r2 : Int) + 1) = (r2 : Int) + 1 := IntWalk.i64_in _ (by omega)
          have ew2 : IntKind.i64.wrap (((r2 : Int) + 1) * ((r2 : Int) + 1)) = ((r2 : Int) + 1) * ((r2 : Int) + 1) := IntWalk.i64_in _ (by omega)
          by_cases h : ((r2 : Int) + 1) * ((r2 : Int) + 1) ≤ (N : Int)
          · have HR3 : Hid ((r2 + 1) * (r2 + 1) ≤ N) := Lib.hid (by have e : (((r2 + 1) * (r2 + 1) : Nat) : Int) = ((r2 : Int) + 1) * ((r2 : Int) + 1) := by rw [Int.natCast_mul]; rfl
                                                                    omega)
            go_wp2
            go_round
            case rel => exact ⟨r2 + 1, by omega, by go_num, HR3⟩
            case measure => simp [intOf]; omega
          · have hs : r2 = s := by
              have e : (((r2 + 1) * (r2 + 1) : Nat) : Int) = ((r2 : Int) + 1) * ((r2 : Int) + 1) := by rw [Int.natCast_mul]; rfl
              have h1 := flN_of HR2.out (show N < (r2 + 1) * (r2 + 1) by omega)
              have h2 := flN_of HF.out.1 HF.out.2
              omega
            subst hs
            clear hle q0 q1 q2 q3 hr2
            have ews := Lib.hid ew
            clear ew
            by_cases hq : (r2 : Int) * (r2 : Int) = (N : Int)
            · have HE : Hid (sqB (N : Int) = true) := Lib.hid (by rw [HV.out.1]; simpa using hq)
              have ew : IntKind.i64.wrap ((r2 : Int) * (r2 : Int)) = (N : Int) := ews.out.trans hq
              clear hq
              go_wp2
              go_ret2
              exact ⟨by rw [show rootV (N : Int) = (r2 : Int) by unfold rootV; rw [HE.out, if_pos rfl, HV.out.2], HE.out]; rfl, rfl⟩
            · have HE : Hid (sqB (N : Int) = false) := Lib.hid (by rw [HV.out.1]; simpa using hq)
              obtain ⟨P, hP⟩ : ∃ P, (r2 : Int) * (r2 : Int) = P := ⟨_, rfl⟩
              rw [hP] at hq
              have ew : IntKind.i64.wrap ((r2 : Int) * (r2 : Int)) = P := ews.out.trans hP
              have hqb : (P == (N : Int)) = false := by simpa using hq
              clear hq hP
              go_wp2
              go_ret2
              exact ⟨by rw [show rootV (N : Int) = 0 by unfold rootV; rw [HE.out]; rfl, HE.out]; rfl, rfl⟩
/-- The binary search. -/
theorem half_step {lo hi N : Nat} (h : lo * lo ≤ N) (h2 : N < hi * hi) (hlt : 1 < hi - lo) : lo < (lo + hi) / 2 ∧ (lo + hi) / 2 < hi := by omega
set_option maxHeartbeats 4000000 in
theorem frRoot_any (N : Nat) (hN : N ≤ 1000000000) (w : World) : Calls Tryd.prog 76 #[.int .i64 (N : Int)] w fun e w' => e = .returned (.int .i64 (flI (N : Int))) ∧ w = w' := by
  obtain ⟨s, HSs⟩ : ∃ s, Hid (flN N = s) := ⟨_, Lib.hid rfl⟩
  have HV : Hid (flI (N : Int) = (s : Int)) := Lib.hid (by unfold flI; rw [Int.toNat_natCast, HSs.out])
  rw [HV.out]
  clear HV
  go_enter Tryd.func76, Tryd.ntmps76
  go_wp2
  go_loop [3, 4] (fun u v => ∃ lo hi : Nat, lo < hi ∧ hi ≤ 2000000001 ∧ u = .int .i64 lo ∧ v = .int .i64 hi ∧ Hid (lo * lo ≤ N ∧ N < hi * hi)) (fun u v => (intOf v - intOf u).toNat)
  case atStart => exact ⟨0, 2000000001, by omega, by omega, rfl, rfl, Lib.hid ⟨by omega, by omega⟩⟩
  case round =>
    obtain ⟨lo, hi, hlh, hhi, rfl, rfl, HI⟩ := hrel
    by_cases h : 1 < (hi : Int) - (lo : Int)
    · obtain ⟨m, hm⟩ : ∃ m, (lo + hi) / 2 = m := ⟨_, rfl⟩
      have m0 : lo < m := by omega
      have m1 : m < hi := by omega
      have e0 : IntKind.i64.wrap ((hi : Int) - (lo : Int)) = (hi : Int) - (lo : Int) := IntWalk.i64_in _ (by omega)
      have e1 : IntKind.i64.wrap ((lo : Int) + (hi : Int)) = (lo : Int) + (hi : Int) := IntWalk.i64_in _ (by omega)
      have e2 : ((lo : Int) + (hi : Int)).tdiv 2 = (m : Int) := by rw [Int.tdiv_eq_ediv_of_nonneg (by omega)]; omega
      have e2w : IntKind.i64.wrap (m : Int) = (m : Int) := IntWalk.i64_in _ (by omega)
      obtain ⟨q0, q1⟩ := sq_le (r := (m : Int)) (m := 2000000001) (by omega) (by omega)
      have e3 : IntKind.i64.wrap ((m : Int) * (m : Int)) = (m : Int) * (m : Int) := IntWalk.i64_in _ (by omega)
      have e4 : ((m * m : Nat) : Int) = (m : Int) * (m : Int) := Int.natCast_mul m m
      clear hm
      by_cases hle : (m : Int) * (m : Int) ≤ (N : Int)
      · have HI2 : Hid (m * m ≤ N ∧ N < hi * hi) := Lib.hid ⟨by omega, HI.out.2⟩
        clear e4
        go_wp2
        go_round
        case rel => exact ⟨m, hi, m1, hhi, by go_num, rfl, HI2⟩
        case measure => simp [intOf]; omega
      · have HI2 : Hid (lo * lo ≤ N ∧ N < m * m) := Lib.hid ⟨HI.out.1, by omega⟩
        clear e4
        go_wp2
        go_round
        case rel => exact ⟨lo, m, m0, by omega, rfl, by go_num, HI2⟩
        case measure => simp [intOf]; omega
    · obtain rfl : hi = lo + 1 := by omega
      have HS2 : Hid ((lo : Int) = (s : Int)) := Lib.hid (by rw [← HSs.out, flN_of HI.out.1 HI.out.2])
      go_wp2
      go_ret
      exact ⟨ret_int HS2.out, rfl⟩
theorem frSquare_any (n : Int) (h0 : 0 ≤ n) (h1 : n ≤ 1000000000) (w : World) : Calls Tryd.prog 75 #[.int .i64 n] w fun e w' => e = .returned (.bool (sqB n)) ∧ w = w' := by
  obtain ⟨N, rfl⟩ := Int.eq_ofNat_of_zero_le h0
  have hfl := flN_le (n := N) (by omega)
  obtain ⟨s, HSs⟩ : ∃ s : Nat, Hid (flI (N : Int) = (s : Int)) ∧ s ≤ 31622 := ⟨flN N, Lib.hid rfl, hfl⟩
  obtain ⟨HSs, hs⟩ := HSs
  have HC : Hid (∀ w : World, Calls Tryd.prog 76 #[.int .i64 (N : Int)] w fun e w' => e = .returned (.int .i64 (s : Int)) ∧ w = w') := Lib.hid (fun w => by rw [← HSs.out]; exact frRoot_any N (by omega) w)
  have HV : Hid (sqB (N : Int) = ((s : Int) * (s : Int) == (N : Int))) := Lib.hid (by unfold sqB; rw [HSs.out]; simp)
  obtain ⟨q0, q1⟩ := sq_le (r := (s : Int)) (m := 31622) (by omega) (by omega)
  have e3 : IntKind.i64.wrap ((s : Int) * (s : Int)) = (s : Int) * (s : Int) := IntWalk.i64_in _ (by omega)
  rw [HV.out]
  go_enter Tryd.func75, Tryd.ntmps75
  go_wp2_with (go_at_call 76; refine (HC.out _).mono ?_; rintro e w' ⟨rfl, rfl⟩)
  go_ret
  exact ⟨rfl, rfl⟩
end Go.Proofs.YtklhmaegpejdbaaDoor
