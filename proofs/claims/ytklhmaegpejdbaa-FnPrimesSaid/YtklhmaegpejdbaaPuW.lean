/- impl.PrimesUpTo and spec.PrimesUpTo; the walk of FnExactPrimesUpTo. -/
import Derived.Test.YtklhmaegpejdbaaInts
import Derived.Test.YtklhmaegpejdbaaInside
import Derived.Test.YtklhmaegpejdbaaPrimeNum
namespace Go.Proofs.Ytklhmaegpejdbaa.Pu
open Go.RowKit
set_option linter.unusedVariables false
set_option linter.unusedSimpArgs false
def pP (j : Nat) : Bool := primeB ((j : Int) + 2)
def pF (j : Nat) : Int := (j : Int) + 2
def pL (n : Int) : List Int := if inB n 1 997 = true then gath pP pF (n.toNat - 1) else []
theorem pL_short (n : Int) : (pL n).length ≤ 4611686018427387904 := by
  unfold pL
  split
  · rename_i hc
    have := gath_length pP pF (n.toNat - 1)
    have := (inB_iff.1 hc).2
    omega
  · simp
theorem pL_short' (n : Int) : (pL n).length ≤ 1000000000000000 := by
  unfold pL
  split
  · rename_i hc
    have := gath_length pP pF (n.toNat - 1)
    have := (inB_iff.1 hc).2
    omega
  · simp
set_option maxHeartbeats 2000000 in
theorem impl_any (n : Int) (w : World) :
    Calls Try.prog 61 #[.int .i64 n] w fun e w' => ∃ v, e = .returned (.tuple #[v, .bool (inB n 1 997)]) ∧ Nums w' w.heap.size v (pL n) ∧ Below w.heap.size w w' := by
  obtain ⟨i0, hi, hz0, hz1, hz2⟩ := info_parts infoInt
  rcases Bool.eq_false_or_eq_true (inB n 1 997) with hc | hc
  · obtain ⟨c0, c1⟩ := inB_iff.1 hc
    obtain ⟨N, rfl⟩ := Int.eq_ofNat_of_zero_le (show 0 ≤ n by omega)
    have HP := Lib.hid (show pL N = gath pP pF (N - 1) by unfold pL; rw [if_pos hc]; rfl)
    have HC := Lib.hid hc
    go_enter Try.func61, Try.ntmps61
    go_wp2_with (go_at_call 89; refine (inside_any _ _ _ _).mono ?_; rintro e w' ⟨rfl, rfl⟩)
    go_loopw [4, 5] (fun v p wr => ∃ k : Nat, k ≤ N - 1 ∧ p = .int .i64 ((k : Int) + 2) ∧ Hid (Nums wr w.heap.size v (gath pP pF k)) ∧ Hid (Below w.heap.size w wr)) (fun _ p _ => N + 1 - (intOf p).toNat)
    case atStart => exact ⟨0, by omega, rfl, Nums.nil _ _, Below.refl _ _⟩
    case round =>
      obtain ⟨k, hk, rfl, HN, HB⟩ := hrel
      have hsz := HB.out.size
      have hlen := gath_length pP pF k
      have hown : wr.ownsRow w.heap.size 3 1 _ (gath pP pF k).length ((gath pP pF k).map (Value.int .i64)) := HN.out
      have HO := Lib.hid hown
      clear hown
      by_cases hlt : k < N - 1
      · rcases Bool.eq_false_or_eq_true (primeB ((k : Int) + 2)) with hp | hp
        · have HG := Lib.hid (gath_yes (P := pP) (f := pF) (k := k) hp)
          go_wp2_with (first | (go_at_call 106; refine (isPrime_any _ (by omega) (by omega) _).mono ?_; rintro e w' ⟨rfl, rfl⟩) | (at_builtin; refine wpList_append_own _ rfl _ _ 54 rfl w.heap.size 3 i0 (.int .i64 0) 1 8 underInts hi hz0 hz1 hz2 rfl (by decide) _ _ _ rfl (World.ownsRow.alloc HO.out _) ⟨wr.heap.size, 0, none⟩ 1 1 [.int .i64 ((k : Int) + 2)] rfl rfl (one_at _ _ rfl) (one_cell _) (by unfold maxLen; omega) (by omega) (by simp; omega) ?_; intro v' w1 hown' hgrow _))
          have R := nums_step HN.out HB.out (Nat.le_refl _) hsz hown' hgrow
          have R1 := Lib.hid R.1
          have R2 := Lib.hid R.2
          clear R hown' hgrow
          go_wp2
          go_roundw
          case rel => exact ⟨k + 1, by omega, by go_num, by rw [HG.out]; exact R1.out, R2⟩
          case measure => simp [intOf]; omega
        · have HG := Lib.hid (gath_no (P := pP) (f := pF) (k := k) hp)
          go_wp2_with (go_at_call 106; refine (isPrime_any _ (by omega) (by omega) _).mono ?_; rintro e w' ⟨rfl, rfl⟩)
          go_roundw
          case rel => exact ⟨k + 1, by omega, by go_num, by rw [HG.out]; exact HN.out, HB⟩
          case measure => simp [intOf]; omega
      · obtain rfl : k = N - 1 := by omega
        go_wp2
        go_ret2
        exact ⟨_, ret_v_bool HC.out.symm, by rw [HP.out]; exact HN.out, HB.out⟩
  · have HP := Lib.hid (show pL n = [] by unfold pL; rw [hc]; rfl)
    have HC := Lib.hid hc
    go_enter Try.func61, Try.ntmps61
    go_wp2_with (go_at_call 89; refine (inside_any _ _ _ _).mono ?_; rintro e w' ⟨rfl, rfl⟩)
    go_ret2
    exact ⟨_, ret_v_bool HC.out.symm, by rw [HP.out]; exact Nums.nil _ _, Below.refl _ _⟩
set_option maxHeartbeats 2000000 in
theorem spec_any (n : Int) (w : World) :
    Calls Try.prog 62 #[.int .i64 n] w fun e w' => ∃ v, e = .returned (.tuple #[v, .bool (inB n 1 997)]) ∧ Nums w' w.heap.size v (pL n) ∧ Below w.heap.size w w' := by
  obtain ⟨i0, hi, hz0, hz1, hz2⟩ := info_parts infoInt
  rcases Bool.eq_false_or_eq_true (inB n 1 997) with hc | hc
  · obtain ⟨c0, c1⟩ := inB_iff.1 hc
    obtain ⟨N, rfl⟩ := Int.eq_ofNat_of_zero_le (show 0 ≤ n by omega)
    have HP := Lib.hid (show pL N = gath pP pF (N - 1) by unfold pL; rw [if_pos hc]; rfl)
    have HC := Lib.hid hc
    go_enter Try.func62, Try.ntmps62
    go_wp2_with (go_at_call 95; refine (l1In_any _ _ _ _).mono ?_; rintro e w' ⟨rfl, rfl⟩)
    go_loopw [4, 5] (fun v p wr => ∃ k : Nat, k ≤ N - 1 ∧ p = .int .i64 ((k : Int) + 2) ∧ Hid (Nums wr w.heap.size v (gath pP pF k)) ∧ Hid (Below w.heap.size w wr)) (fun _ p _ => N + 1 - (intOf p).toNat)
    case atStart => exact ⟨0, by omega, rfl, Nums.nil _ _, Below.refl _ _⟩
    case round =>
      obtain ⟨k, hk, rfl, HN, HB⟩ := hrel
      have hsz := HB.out.size
      have hlen := gath_length pP pF k
      have hown : wr.ownsRow w.heap.size 3 1 _ (gath pP pF k).length ((gath pP pF k).map (Value.int .i64)) := HN.out
      have HO := Lib.hid hown
      clear hown
      by_cases hlt : k < N - 1
      · rcases Bool.eq_false_or_eq_true (primeB ((k : Int) + 2)) with hp | hp
        · have HG := Lib.hid (gath_yes (P := pP) (f := pF) (k := k) hp)
          go_wp2_with (first | (go_at_call 107; refine (mdPrime_any _ _).mono ?_; rintro e w' ⟨rfl, rfl⟩) | (at_builtin; refine wpList_append_own _ rfl _ _ 54 rfl w.heap.size 3 i0 (.int .i64 0) 1 8 underInts hi hz0 hz1 hz2 rfl (by decide) _ _ _ rfl (World.ownsRow.alloc HO.out _) ⟨wr.heap.size, 0, none⟩ 1 1 [.int .i64 ((k : Int) + 2)] rfl rfl (one_at _ _ rfl) (one_cell _) (by unfold maxLen; omega) (by omega) (by simp; omega) ?_; intro v' w1 hown' hgrow _))
          have R := nums_step HN.out HB.out (Nat.le_refl _) hsz hown' hgrow
          have R1 := Lib.hid R.1
          have R2 := Lib.hid R.2
          clear R hown' hgrow
          go_wp2
          go_roundw
          case rel => exact ⟨k + 1, by omega, by go_num, by rw [HG.out]; exact R1.out, R2⟩
          case measure => simp [intOf]; omega
        · have HG := Lib.hid (gath_no (P := pP) (f := pF) (k := k) hp)
          go_wp2_with (go_at_call 107; refine (mdPrime_any _ _).mono ?_; rintro e w' ⟨rfl, rfl⟩)
          go_roundw
          case rel => exact ⟨k + 1, by omega, by go_num, by rw [HG.out]; exact HN.out, HB⟩
          case measure => simp [intOf]; omega
      · obtain rfl : k = N - 1 := by omega
        go_wp2
        go_ret2
        exact ⟨_, ret_v_bool HC.out.symm, by rw [HP.out]; exact HN.out, HB.out⟩
  · have HP := Lib.hid (show pL n = [] by unfold pL; rw [hc]; rfl)
    have HC := Lib.hid hc
    go_enter Try.func62, Try.ntmps62
    go_wp2_with (go_at_call 95; refine (l1In_any _ _ _ _).mono ?_; rintro e w' ⟨rfl, rfl⟩)
    go_ret2
    exact ⟨_, ret_v_bool HC.out.symm, by rw [HP.out]; exact Nums.nil _ _, Below.refl _ _⟩
end Go.Proofs.Ytklhmaegpejdbaa.Pu
