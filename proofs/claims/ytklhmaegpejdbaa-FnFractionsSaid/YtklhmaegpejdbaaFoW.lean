/- impl.FractionOf and spec.FractionOf; the walk of FnExactFractionOf. -/
import Derived.Test.YtklhmaegpejdbaaMake
namespace Go.Proofs.Ytklhmaegpejdbaa
open Go.RowKit
set_option linter.unusedVariables false
set_option linter.unusedSimpArgs false
def fofOk (n d : Int) : Bool := d != 0 && inB n (-1000000000000000000) 1000000000000000000 && inB d (-1000000000000000000) 1000000000000000000
def fofN (n d : Int) : Int := if fofOk n d = true then mkN n d else 0
def fofE (n d : Int) : Int := if fofOk n d = true then mkE n d else 0
def fofB (n d : Int) : Bool := fofOk n d && mkB n d
theorem implFractionOf_any (n d : Int) (w : World) :
    Calls Try.prog 41 #[.int .i64 n, .int .i64 d] w fun e w' => e = .returned (.tuple #[.agg #[.int .i64 (fofN n d), .int .i64 (fofE n d)], .bool (fofB n d)]) ∧ Below w.heap.size w w' := by
  rcases Bool.eq_false_or_eq_true (d == 0) with hz | hz
  · go_enter Try.func41, Try.ntmps41
    go_wp2
    refine bodyPost_ret (by simp [results, Try.results41, go_sem, *]; try rfl) rfl ?_
    exact ⟨ret_fr_bool (by simp [fofN, fofOk, bne, hz]) (by simp [fofE, fofOk, bne, hz]) (by simp [fofB, fofOk, bne, hz]), by repeat' (first | (with_reducible exact Below.refl _ _) | (with_reducible assumption) | (with_reducible refine Below.alloc ?_ ?_ _) | (with_reducible refine Below.drew ?_) | (with_reducible refine below_drewN ?_ _) | (with_reducible refine Below.setCell ?_ ?_ _) | go_size)⟩
  · rcases Bool.eq_false_or_eq_true (inB n (-1000000000000000000) 1000000000000000000) with hn | hn
    · rcases Bool.eq_false_or_eq_true (inB d (-1000000000000000000) 1000000000000000000) with hd | hd
      · obtain ⟨n0, n1⟩ := inB_iff.1 hn
        obtain ⟨d0, d1⟩ := inB_iff.1 hd
        have HZ := Lib.hid (show d ≠ 0 by simpa using hz)
        go_enter Try.func41, Try.ntmps41
        go_wp2_with (first | (go_at_call 89; refine (inside_any _ _ _ _).mono ?_; rintro e w' ⟨rfl, rfl⟩) | (go_at_call 72; refine (makeFraction_any _ _ HZ.out (by omega) (by omega) (by omega) (by omega) _).mono ?_; rintro e w1 ⟨rfl, hb1⟩; obtain ⟨hc1, hf1⟩ := bcell hb1; have hB1 : Below w.heap.size w w1 := Below.trans (by repeat' (first | (with_reducible exact Below.refl _ _) | (with_reducible assumption) | (with_reducible refine Below.alloc ?_ ?_ _) | (with_reducible refine Below.drew ?_) | (with_reducible refine below_drewN ?_ _) | (with_reducible refine Below.setCell ?_ ?_ _) | go_size)) (hb1.mono (by go_size)); (have hs1 := hb1.size); (try simp at hs1); (try (have hl1 := Nat.lt_of_succ_le hs1)); (first | (have hz1 : w.heap.size < w1.heap.size := by omega) | (have hz1 : w.heap.size ≤ w1.heap.size := by omega)); (try (have hz2_1 : w2.heap.size < w1.heap.size := by omega)); (try (have hz3_1 : w3.heap.size < w1.heap.size := by omega)); (try (have hz4_1 : w4.heap.size < w1.heap.size := by omega)); (try (have hz5_1 : w5.heap.size < w1.heap.size := by omega)); (try (have hzc_1 : wc.heap.size < w1.heap.size := by omega)); (try (have hy1_1 : w.heap.size + 1 < w1.heap.size := by omega)); (try (have hy2_1 : w.heap.size + 2 < w1.heap.size := by omega)); (try (have hy3_1 : w.heap.size + 3 < w1.heap.size := by omega))))
        refine bodyPost_ret (by simp [results, Try.results41, go_sem, *]; try rfl) rfl ?_
        exact ⟨ret_fr_bool (by simp [fofN, fofOk, bne, hz, hn, hd]) (by simp [fofE, fofOk, bne, hz, hn, hd]) (by simp [fofB, fofOk, bne, hz, hn, hd]), by repeat' (first | (with_reducible exact Below.refl _ _) | (with_reducible assumption) | (with_reducible refine Below.alloc ?_ ?_ _) | (with_reducible refine Below.drew ?_) | (with_reducible refine below_drewN ?_ _) | (with_reducible refine Below.setCell ?_ ?_ _) | go_size)⟩
      · go_enter Try.func41, Try.ntmps41
        go_wp2_with (go_at_call 89; refine (inside_any _ _ _ _).mono ?_; rintro e w' ⟨rfl, rfl⟩)
        refine bodyPost_ret (by simp [results, Try.results41, go_sem, *]; try rfl) rfl ?_
        exact ⟨ret_fr_bool (by simp [fofN, fofOk, bne, hz, hn, hd]) (by simp [fofE, fofOk, bne, hz, hn, hd]) (by simp [fofB, fofOk, bne, hz, hn, hd]), by repeat' (first | (with_reducible exact Below.refl _ _) | (with_reducible assumption) | (with_reducible refine Below.alloc ?_ ?_ _) | (with_reducible refine Below.drew ?_) | (with_reducible refine below_drewN ?_ _) | (with_reducible refine Below.setCell ?_ ?_ _) | go_size)⟩
    · go_enter Try.func41, Try.ntmps41
      go_wp2_with (go_at_call 89; refine (inside_any _ _ _ _).mono ?_; rintro e w' ⟨rfl, rfl⟩)
      refine bodyPost_ret (by simp [results, Try.results41, go_sem, *]; try rfl) rfl ?_
      exact ⟨ret_fr_bool (by simp [fofN, fofOk, bne, hz, hn]) (by simp [fofE, fofOk, bne, hz, hn]) (by simp [fofB, fofOk, bne, hz, hn]), by repeat' (first | (with_reducible exact Below.refl _ _) | (with_reducible assumption) | (with_reducible refine Below.alloc ?_ ?_ _) | (with_reducible refine Below.drew ?_) | (with_reducible refine below_drewN ?_ _) | (with_reducible refine Below.setCell ?_ ?_ _) | go_size)⟩
theorem specFractionOf_any (n d : Int) (w : World) :
    Calls Try.prog 42 #[.int .i64 n, .int .i64 d] w fun e w' => e = .returned (.tuple #[.agg #[.int .i64 (fofN n d), .int .i64 (fofE n d)], .bool (fofB n d)]) ∧ Below w.heap.size w w' := by
  rcases Bool.eq_false_or_eq_true (inB n (-1000000000000000000) 1000000000000000000) with hn | hn
  · rcases Bool.eq_false_or_eq_true (inB d (-1000000000000000000) 1000000000000000000) with hd | hd
    · rcases Bool.eq_false_or_eq_true (d == 0) with hz | hz
      · go_enter Try.func42, Try.ntmps42
        go_wp2_with (go_at_call 95; refine (l1In_any _ _ _ _).mono ?_; rintro e w' ⟨rfl, rfl⟩)
        refine bodyPost_ret (by simp [results, Try.results42, go_sem, *]; try rfl) rfl ?_
        exact ⟨ret_fr_bool (by simp [fofN, fofOk, bne, hz, hn, hd]) (by simp [fofE, fofOk, bne, hz, hn, hd]) (by simp [fofB, fofOk, bne, hz, hn, hd]), by repeat' (first | (with_reducible exact Below.refl _ _) | (with_reducible assumption) | (with_reducible refine Below.alloc ?_ ?_ _) | (with_reducible refine Below.drew ?_) | (with_reducible refine below_drewN ?_ _) | (with_reducible refine Below.setCell ?_ ?_ _) | go_size)⟩
      · obtain ⟨n0, n1⟩ := inB_iff.1 hn
        obtain ⟨d0, d1⟩ := inB_iff.1 hd
        have HZ := Lib.hid (show d ≠ 0 by simpa using hz)
        go_enter Try.func42, Try.ntmps42
        go_wp2_with (first | (go_at_call 95; refine (l1In_any _ _ _ _).mono ?_; rintro e w' ⟨rfl, rfl⟩) | (go_at_call 69; refine (frMake_any _ _ HZ.out (by omega) (by omega) (by omega) (by omega) _).mono ?_; rintro e w1 ⟨rfl, hb1⟩; obtain ⟨hc1, hf1⟩ := bcell hb1; have hB1 : Below w.heap.size w w1 := Below.trans (by repeat' (first | (with_reducible exact Below.refl _ _) | (with_reducible assumption) | (with_reducible refine Below.alloc ?_ ?_ _) | (with_reducible refine Below.drew ?_) | (with_reducible refine below_drewN ?_ _) | (with_reducible refine Below.setCell ?_ ?_ _) | go_size)) (hb1.mono (by go_size)); (have hs1 := hb1.size); (try simp at hs1); (try (have hl1 := Nat.lt_of_succ_le hs1)); (first | (have hz1 : w.heap.size < w1.heap.size := by omega) | (have hz1 : w.heap.size ≤ w1.heap.size := by omega)); (try (have hz2_1 : w2.heap.size < w1.heap.size := by omega)); (try (have hz3_1 : w3.heap.size < w1.heap.size := by omega)); (try (have hz4_1 : w4.heap.size < w1.heap.size := by omega)); (try (have hz5_1 : w5.heap.size < w1.heap.size := by omega)); (try (have hzc_1 : wc.heap.size < w1.heap.size := by omega)); (try (have hy1_1 : w.heap.size + 1 < w1.heap.size := by omega)); (try (have hy2_1 : w.heap.size + 2 < w1.heap.size := by omega)); (try (have hy3_1 : w.heap.size + 3 < w1.heap.size := by omega))))
        refine bodyPost_ret (by simp [results, Try.results42, go_sem, *]; try rfl) rfl ?_
        exact ⟨ret_fr_bool (by simp [fofN, fofOk, bne, hz, hn, hd]) (by simp [fofE, fofOk, bne, hz, hn, hd]) (by simp [fofB, fofOk, bne, hz, hn, hd]), by repeat' (first | (with_reducible exact Below.refl _ _) | (with_reducible assumption) | (with_reducible refine Below.alloc ?_ ?_ _) | (with_reducible refine Below.drew ?_) | (with_reducible refine below_drewN ?_ _) | (with_reducible refine Below.setCell ?_ ?_ _) | go_size)⟩
    · go_enter Try.func42, Try.ntmps42
      go_wp2_with (go_at_call 95; refine (l1In_any _ _ _ _).mono ?_; rintro e w' ⟨rfl, rfl⟩)
      refine bodyPost_ret (by simp [results, Try.results42, go_sem, *]; try rfl) rfl ?_
      exact ⟨ret_fr_bool (by simp [fofN, fofOk, hn, hd]) (by simp [fofE, fofOk, hn, hd]) (by simp [fofB, fofOk, hn, hd]), by repeat' (first | (with_reducible exact Below.refl _ _) | (with_reducible assumption) | (with_reducible refine Below.alloc ?_ ?_ _) | (with_reducible refine Below.drew ?_) | (with_reducible refine below_drewN ?_ _) | (with_reducible refine Below.setCell ?_ ?_ _) | go_size)⟩
  · go_enter Try.func42, Try.ntmps42
    go_wp2_with (go_at_call 95; refine (l1In_any _ _ _ _).mono ?_; rintro e w' ⟨rfl, rfl⟩)
    refine bodyPost_ret (by simp [results, Try.results42, go_sem, *]; try rfl) rfl ?_
    exact ⟨ret_fr_bool (by simp [fofN, fofOk, hn]) (by simp [fofE, fofOk, hn]) (by simp [fofB, fofOk, hn]), by repeat' (first | (with_reducible exact Below.refl _ _) | (with_reducible assumption) | (with_reducible refine Below.alloc ?_ ?_ _) | (with_reducible refine Below.drew ?_) | (with_reducible refine below_drewN ?_ _) | (with_reducible refine Below.setCell ?_ ?_ _) | go_size)⟩
end Go.Proofs.Ytklhmaegpejdbaa
