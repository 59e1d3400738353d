/- impl.PrimesUpTo and spec.PrimesUpTo; the walk of FnExactPrimesUpTo. -/
import Derived.Test.YtfaglhhkcgjbnaaInts
import Derived.Test.YtfaglhhkcgjbnaaInside
import Derived.Test.YtfaglhhkcgjbnaaPrimeNum
namespace Go.Proofs.Ytfaglhhkcgjbnaa.Pu
open Go.RowKit
set_option linter.unusedVariables false
set_option linter.unusedSimpArgs false
def pP (j : Nat) : Bool := primeB ((j : Int) + 2)
def pF (j : Nat) : Int := (j : Int) + 2
def pL (n : Int) : List Int := if inB n 1 997 = true then gath pP pF (n.toNat - 1) else []
theorem pL_short (n : Int) : (pL n).length ≤ 4611686018427387904 := by
  unfold pL
  split
  · rename_i hc
    have := gath_length pP pF (n.toNat - 1)
    have := (inB_iff.1 hc).2
    omega
  · simp
theorem pL_short' (n : Int) : (pL n).length ≤ 1000000000000000 := by
  unfold pL
  split
  · rename_i hc
    have := gath_length pP pF (n.toNat - 1)
    have := (inB_iff.1 hc).2
    omega
  · simp
set_option maxHeartbeats 2000000 in
theorem impl_any (n : Int) (w : World) :
    Calls Try.prog 16 #[.int .i64 n] w fun e w' => ∃ v, e = .returned (.tuple #[v, .bool (inB n 1 997)]) ∧ Nums w' w.heap.size v (pL n) ∧ Below w.heap.size w w' := by
  obtain ⟨i0, hi, hz0, hz1, hz2⟩ := info_parts infoInt
  rcases Bool.eq_false_or_eq_true (inB n 1 997) with hc | hc
  · obtain ⟨c0, c1⟩ := inB_iff.1 hc
    obtain ⟨N, rfl⟩ := Int.eq_ofNat_of_zero_le (show 0 ≤ n by omega)
    have HP := Lib.hid (show pL N = gath pP pF (N - 1) by unfold pL; rw [if_pos hc]; rfl)
    have HC := Lib.hid hc
    go_enter Try.func16, Try.ntmps16
    go_wp2_with (go_at_call 54; refine (inside_any _ _ _ _).mono ?_; rintro e w' ⟨rfl, rfl⟩)
    go_loopw [4, 5] (fun v p wr => ∃ k : Nat, k ≤ N - 1 ∧ p = .int .i64 ((k : Int) + 2) ∧ Hid (Nums wr w.heap.size v (gath pP pF k)) ∧ Hid (Below w.heap.size w wr)) (fun _ p _ => N + 1 - (intOf p).toNat)
    case atStart => exact ⟨0, by omega, rfl, Nums.nil _ _, Below.refl _ _⟩
    case round =>
      obtain ⟨k, hk, rfl, HN, HB⟩ := hrel
      have hsz := HB.out.size
      have hlen := gath_length pP pF k
      have hown : wr.ownsRow w.heap.size 3 1 _ (gath pP pF k).length ((gath pP pF k).map (Value.int .i64)) := HN.out
      have HO := Lib.hid hown
      clear hown
      by_cases hlt : k < N - 1
      · rcases Bool.eq_false_or_eq_true (primeB ((k : Int) + 2)) with hp | hp
        · have HG := Lib.hid (gath_yes (P := pP) (f := pF) (k := k) hp)
          go_wp2_with (first | (go_at_call 55; refine (isPrime_any _ (by omega) (by omega) _).mono ?_; rintro e w' ⟨rfl, rfl⟩) | (at_builtin; refine wpList_append_own _ rfl _ _ 22 rfl w.heap.size 3 i0 (.int .i64 0) 1 8 underInts hi hz0 hz1 hz2 rfl (by decide) _ _ _ rfl (World.ownsRow.alloc HO.out _) ⟨wr.heap.size, 0, none⟩ 1 1 [.int .i64 ((k : Int) + 2)] rfl rfl (one_at _ _ rfl) (one_cell _) (by unfold maxLen; omega) (by omega) (by simp; omega) ?_; intro v' w1 hown' hgrow _))
          have R := nums_step HN.out HB.out hsz hown' hgrow
          have R1 := Lib.hid R.1
          have R2 := Lib.hid R.2
          clear R hown' hgrow
          go_wp2
          go_roundw
          case rel => exact ⟨k + 1, by omega, by go_num, by rw [HG.out]; exact R1.out, R2⟩
          case measure => simp [intOf]; omega
        · have HG := Lib.hid (gath_no (P := pP) (f := pF) (k := k) hp)
          go_wp2_with (go_at_call 55; refine (isPrime_any _ (by omega) (by omega) _).mono ?_; rintro e w' ⟨rfl, rfl⟩)
          go_roundw
          case rel => exact ⟨k + 1, by omega, by go_num, by rw [HG.out]; exact HN.out, HB⟩
          case measure => simp [intOf]; omega
      · obtain rfl : k = N - 1 := by omega
        go_wp2
        go_ret2
        exact ⟨_, ret_v_bool HC.out.symm, by rw [HP.out]; exact HN.out, HB.out⟩
  · have HP := Lib.hid (show pL n = [] by unfold pL; rw [hc]; rfl)
    have HC := Lib.hid hc
    go_enter Try.func16, Try.ntmps16
    go_wp2_with (go_at_call 54; refine (inside_any _ _ _ _).mono ?_; rintro e w' ⟨rfl, rfl⟩)
    go_ret2
    exact ⟨_, ret_v_bool HC.out.symm, by rw [HP.out]; exact Nums.nil _ _, Below.refl _ _⟩
set_option maxHeartbeats 2000000 in
theorem spec_any (n : Int) (w : World) :
    Calls Try.prog 15 #[.int .i64 n] w fun e w' => ∃ v, e = .returned (.tuple #[v, .bool (inB n 1 997)]) ∧ Nums w' w.heap.size v (pL n) ∧ Below w.heap.size w w' := by
  obtain ⟨i0, hi, hz0, hz1, hz2⟩ := info_parts infoInt
  rcases Bool.eq_false_or_eq_true (inB n 1 997) with hc | hc
  · obtain ⟨c0, c1⟩ := inB_iff.1 hc
    obtain ⟨N, rfl⟩ := Int.eq_ofNat_of_zero_le (show 0 ≤ n by omega)
    have HP := Lib.hid (show pL N = gath pP pF (N - 1) by unfold pL; rw [if_pos hc]; rfl)
    have HC := Lib.hid hc
    go_enter Try.func15, Try.ntmps15
    go_wp2_with (go_at_call 52; refine (l1In_any _ _ _ _).mono ?_; rintro e w' ⟨rfl, rfl⟩)
    go_loopw [4, 5] (fun v p wr => ∃ k : Nat, k ≤ N - 1 ∧ p = .int .i64 ((k : Int) + 2) ∧ Hid (Nums wr w.heap.size v (gath pP pF k)) ∧ Hid (Below w.heap.size w wr)) (fun _ p _ => N + 1 - (intOf p).toNat)
    case atStart => exact ⟨0, by omega, rfl, Nums.nil _ _, Below.refl _ _⟩
    case round =>
      obtain ⟨k, hk, rfl, HN, HB⟩ := hrel
      have hsz := HB.out.size
      have hlen := gath_length pP pF k
      have hown : wr.ownsRow w.heap.size 3 1 _ (gath pP pF k).length ((gath pP pF k).map (Value.int .i64)) := HN.out
      have HO := Lib.hid hown
      clear hown
      by_cases hlt : k < N - 1
      · rcases Bool.eq_false_or_eq_true (primeB ((k : Int) + 2)) with hp | hp
        · have HG := Lib.hid (gath_yes (P := pP) (f := pF) (k := k) hp)
          go_wp2_with (first | (go_at_call 53; refine (mdPrime_any _ _).mono ?_; rintro e w' ⟨rfl, rfl⟩) | (at_builtin; refine wpList_append_own _ rfl _ _ 22 rfl w.heap.size 3 i0 (.int .i64 0) 1 8 underInts hi hz0 hz1 hz2 rfl (by decide) _ _ _ rfl (World.ownsRow.alloc HO.out _) ⟨wr.heap.size, 0, none⟩ 1 1 [.int .i64 ((k : Int) + 2)] rfl rfl (one_at _ _ rfl) (one_cell _) (by unfold maxLen; omega) (by omega) (by simp; omega) ?_; intro v' w1 hown' hgrow _))
          have R := nums_step HN.out HB.out hsz hown' hgrow
          have R1 := Lib.hid R.1
          have R2 := Lib.hid R.2
          clear R hown' hgrow
          go_wp2
          go_roundw
          case rel => exact ⟨k + 1, by omega, by go_num, by rw [HG.out]; exact R1.out, R2⟩
          case measure => simp [intOf]; omega
        · have HG := Lib.hid (gath_no (P := pP) (f := pF) (k := k) hp)
          go_wp2_with (go_at_call 53; refine (mdPrime_any _ _).mono ?_; rintro e w' ⟨rfl, rfl⟩)
          go_roundw
          case rel => exact ⟨k + 1, by omega, by go_num, by rw [HG.out]; exact HN.out, HB⟩
          case measure => simp [intOf]; omega
      · obtain rfl : k = N - 1 := by omega
        go_wp2
        go_ret2
        exact ⟨_, ret_v_bool HC.out.symm, by rw [HP.out]; exact HN.out, HB.out⟩
  · have HP := Lib.hid (show pL n = [] by unfold pL; rw [hc]; rfl)
    have HC := Lib.hid hc
    go_enter Try.func15, Try.ntmps15
    go_wp2_with (go_at_call 52; refine (l1In_any _ _ _ _).mono ?_; rintro e w' ⟨rfl, rfl⟩)
    go_ret2
    exact ⟨_, ret_v_bool HC.out.symm, by rw [HP.out]; exact Nums.nil _ _, Below.refl _ _⟩
set_option maxHeartbeats 2000000 in
theorem walk (n : Int) (_ : (Lit.int .i64 n).wf = true) (w : World) : Calls Try.prog 3 #[.int .i64 n] w fun e w' => e = .returned (.bool true) ∧ Below w.heap.size w w' := by
  go_enter Try.func3, Try.ntmps3
  go_wp2_with fail
  (go_at_call 15; refine (spec_any _ _).mono ?_; rintro e w2 ⟨v2, rfl, n2, hb2⟩; obtain ⟨hc2, hf2⟩ := bcellB hb2; have hB2 : Below w.heap.size w w2 := Below.trans (by repeat' (first | (with_reducible exact Below.refl _ _) | (with_reducible assumption) | (with_reducible refine Below.alloc ?_ ?_ _) | (with_reducible refine Below.drew ?_) | (with_reducible refine below_drewN ?_ _) | (with_reducible refine Below.setCell ?_ ?_ _) | go_size)) (hb2.mono (by go_size)); (have hs2 := hb2.size); (try simp at hs2); (first | (have hz2 : w.heap.size < w2.heap.size := by omega) | (have hz2 : w.heap.size ≤ w2.heap.size := by omega)))
  have q2 := hb2.size
  go_wp2_with fail
  (go_at_call 16; refine (impl_any _ _).mono ?_; rintro e w4 ⟨v4, rfl, n4, hb4⟩; obtain ⟨hc4, hf4⟩ := bcellB hb4; have hB4 : Below w.heap.size w w4 := Below.trans (by repeat' (first | (with_reducible exact Below.refl _ _) | (with_reducible assumption) | (with_reducible refine Below.alloc ?_ ?_ _) | (with_reducible refine Below.drew ?_) | (with_reducible refine below_drewN ?_ _) | (with_reducible refine Below.setCell ?_ ?_ _) | go_size)) (hb4.mono (by go_size)); (have hs4 := hb4.size); (try simp at hs4); (first | (have hz4 : w.heap.size < w4.heap.size := by omega) | (have hz4 : w.heap.size ≤ w4.heap.size := by omega)))
  have q4 := hb4.size
  have m2 : Nums w4 _ v2 _ := n2.below hb4
  have ap := Nums.apart n2 n4 (by omega)
  have N2 := Lib.hid m2
  have N4 := Lib.hid n4
  have AP := Lib.hid ap
  clear m2 n2 n4 ap
  go_wp2_with fail
  (go_at_call 17; refine (eqIntS_same N4.out N2.out (pL_short n)).mono ?_; rintro e w5 ⟨rfl, hb5⟩; obtain ⟨hc5, hf5⟩ := bcellB hb5; have hB5 : Below w.heap.size w w5 := Below.trans (by repeat' (first | (with_reducible exact Below.refl _ _) | (with_reducible assumption) | (with_reducible refine Below.alloc ?_ ?_ _) | (with_reducible refine Below.drew ?_) | (with_reducible refine below_drewN ?_ _) | (with_reducible refine Below.setCell ?_ ?_ _) | go_size)) (hb5.mono (by go_size)); (have hs5 := hb5.size); (try simp at hs5); (first | (have hz5 : w.heap.size < w5.heap.size := by omega) | (have hz5 : w.heap.size ≤ w5.heap.size := by omega)))
  have q5 := hb5.size
  go_wp2_with fail
  (go_at_call 18; refine (markIntS_row 1 (N4.out.below hb5) (by omega) (pL_short' n) (by omega) (by omega)).mono ?_; rintro e w6 ⟨rfl, n6, g6, hb6⟩; obtain ⟨hc6, hf6⟩ := bcellB hb6; have hB6 : Below w.heap.size w w6 := Below.trans (by repeat' (first | (with_reducible exact Below.refl _ _) | (with_reducible assumption) | (with_reducible refine Below.alloc ?_ ?_ _) | (with_reducible refine Below.drew ?_) | (with_reducible refine below_drewN ?_ _) | (with_reducible refine Below.setCell ?_ ?_ _) | go_size)) (hb6.mono (by go_size)); (have hs6 := hb6.size); (try simp at hs6); (first | (have hz6 : w.heap.size < w6.heap.size := by omega) | (have hz6 : w.heap.size ≤ w6.heap.size := by omega)))
  have q6 := hb6.size
  have N6 := Lib.hid n6
  have N26 := Lib.hid ((N2.out.below hb5).kept g6 AP.out)
  clear n6 g6
  go_wp2_with fail
  (go_at_call 19; refine (heldIntS_any 1 N6.out (pL_short' n) (by omega) (by omega)).mono ?_; rintro e w' ⟨rfl, rfl⟩)
  go_wp2_with fail
  (go_at_call 16; refine (impl_any _ _).mono ?_; rintro e w8 ⟨v8, rfl, n8, hb8⟩; obtain ⟨hc8, hf8⟩ := bcellB hb8; have hB8 : Below w.heap.size w w8 := Below.trans (by repeat' (first | (with_reducible exact Below.refl _ _) | (with_reducible assumption) | (with_reducible refine Below.alloc ?_ ?_ _) | (with_reducible refine Below.drew ?_) | (with_reducible refine below_drewN ?_ _) | (with_reducible refine Below.setCell ?_ ?_ _) | go_size)) (hb8.mono (by go_size)); (have hs8 := hb8.size); (try simp at hs8); (first | (have hz8 : w.heap.size < w8.heap.size := by omega) | (have hz8 : w.heap.size ≤ w8.heap.size := by omega)))
  have q8 := hb8.size
  have N28 := Lib.hid (N26.out.below hb8)
  have N68 := Lib.hid (N6.out.below hb8)
  have N8 := Lib.hid n8
  clear n8
  go_wp2_with fail
  (go_at_call 17; refine (eqIntS_same N8.out N28.out (pL_short n)).mono ?_; rintro e w9 ⟨rfl, hb9⟩; obtain ⟨hc9, hf9⟩ := bcellB hb9; have hB9 : Below w.heap.size w w9 := Below.trans (by repeat' (first | (with_reducible exact Below.refl _ _) | (with_reducible assumption) | (with_reducible refine Below.alloc ?_ ?_ _) | (with_reducible refine Below.drew ?_) | (with_reducible refine below_drewN ?_ _) | (with_reducible refine Below.setCell ?_ ?_ _) | go_size)) (hb9.mono (by go_size)); (have hs9 := hb9.size); (try simp at hs9); (first | (have hz9 : w.heap.size < w9.heap.size := by omega) | (have hz9 : w.heap.size ≤ w9.heap.size := by omega)))
  go_wp2_with fail
  (go_at_call 19; refine (heldIntS_any 1 (N68.out.below hb9) (pL_short' n) (by omega) (by omega)).mono ?_; rintro e w' ⟨rfl, rfl⟩)
  go_wp2
  go_ret
  exact ⟨rfl, by repeat' (first | (with_reducible exact Below.refl _ _) | (with_reducible assumption) | (with_reducible refine Below.alloc ?_ ?_ _) | (with_reducible refine Below.drew ?_) | (with_reducible refine below_drewN ?_ _) | (with_reducible refine Below.setCell ?_ ?_ _) | go_size)⟩
end Go.Proofs.Ytfaglhhkcgjbnaa.Pu
