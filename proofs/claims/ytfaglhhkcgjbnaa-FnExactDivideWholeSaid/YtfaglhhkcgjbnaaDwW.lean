/- impl.DivideWhole and spec.DivideWhole; the walk of FnExactDivideWhole. -/
import Derived.Test.YtfaglhhkcgjbnaaWhDiv
import Derived.Test.YtfaglhhkcgjbnaaWhDiS
namespace Go.Proofs.Ytfaglhhkcgjbnaa.Dw
open Go.RowKit
set_option linter.unusedVariables false
set_option linter.unusedSimpArgs false
def okB (b0 : Bool) (x0 : List Int) (n : Int) : Bool := goodB b0 x0 && inB n 1 1000000000000
def res (b0 : Bool) (x0 : List Int) (n : Int) : Int := ifZ (okB b0 x0 n) (divZ (valZ b0 x0) n)
def rem (b0 : Bool) (x0 : List Int) (n : Int) : Int := ifZ (okB b0 x0 n) (modZ (valZ b0 x0) n)
theorem res_len (b0 : Bool) (x0 : List Int) (n : Int) : (wlimbs (res b0 x0 n)).length ≤ 1048576 := by
  unfold res
  rcases Bool.eq_false_or_eq_true (okB b0 x0 n) with h | h
  · rw [h, ifZ_yes]
    have h2 : goodB b0 x0 = true ∧ inB n 1 1000000000000 = true := by simpa [okB] using h
    obtain ⟨z, rfl, rfl, e0⟩ := goodB_of h2.1
    rw [valZ_whole]
    have h3 := div_len (z := z) (n := n) (by have := (inB_iff.1 h2.2).1; omega)
    unfold wlen at e0
    omega
  · rw [h, ifZ_no, wlimbs_zero]; simp
theorem bgSmall_any (n : Int) (w : World) : Calls Try.prog 84 #[.int .i64 n] w fun e w' => e = .returned (.bool (inB n 1 1000000000000)) ∧ w = w' := by
  go_enter Try.func84, Try.ntmps84
  go_wp2_with (go_at_call 52; refine (l1In_any _ _ _ _).mono ?_; rintro e w' ⟨rfl, rfl⟩)
  go_ret
  exact ⟨rfl, rfl⟩
set_option maxHeartbeats 8000000 in
theorem impl_any (b0 : Bool) (n : Int) {P : Option Addr} {c : Nat} {x0 : List Int} {w : World} (h0 : Holds w (.slice P x0.length c) x0) (l0 : x0.length ≤ 1048576) :
    Calls Try.prog 51 #[.agg #[.bool b0, .slice P x0.length c], .int .i64 n] w fun e w' => ∃ A c, e = .returned (.tuple #[.agg #[.bool (wneg (res b0 x0 n)), .slice A (wlimbs (res b0 x0 n)).length c], .int .i64 (rem b0 x0 n), .bool (okB b0 x0 n)]) ∧ Nums w' w.heap.size (.slice A (wlimbs (res b0 x0 n)).length c) (wlimbs (res b0 x0 n)) ∧ Below w.heap.size w w' := by
  have H := Lib.hid h0
  clear h0
  rcases Bool.eq_false_or_eq_true (okB b0 x0 n) with hp | hp
  · have hp2 : goodB b0 x0 = true ∧ inB n 1 1000000000000 = true := by simpa [okB] using hp
    obtain ⟨g0, gi⟩ := hp2
    obtain ⟨z, rfl, rfl, e0⟩ := goodB_of g0
    obtain ⟨i0, i1⟩ := inB_iff.1 gi
    have e0' : (wlimbs z).length ≤ 400 := e0
    have HR := Lib.hid (show res (wneg z) (wlimbs z) n = divZ z n by unfold res; rw [hp, valZ_whole]; rfl)
    have HM := Lib.hid (show rem (wneg z) (wlimbs z) n = modZ z n by unfold rem; rw [hp, valZ_whole]; rfl)
    rw [HR.out, HM.out, hp]
    clear hp
    go_enter Try.func51, Try.ntmps51
    go_wp2_with fail
    (go_at_call 70; refine (isWhole_any (wneg z) (H.out.below (by (repeat' (first | (with_reducible exact Below.refl _ _) | (with_reducible assumption) | (with_reducible refine Below.alloc ?_ ?_ _) | (with_reducible refine Below.drew ?_) | (with_reducible refine below_drewN ?_ _) | (with_reducible refine Below.setCell ?_ ?_ _) | go_size)))) (by omega)).mono ?_; rintro e w1 ⟨rfl, hb1⟩; obtain ⟨hc1, hf1⟩ := bcell hb1; have hB1 : Below w.heap.size w w1 := Below.trans (by repeat' (first | (with_reducible exact Below.refl _ _) | (with_reducible assumption) | (with_reducible refine Below.alloc ?_ ?_ _) | (with_reducible refine Below.drew ?_) | (with_reducible refine below_drewN ?_ _) | (with_reducible refine Below.setCell ?_ ?_ _) | go_size)) (hb1.mono (by go_size)); (have hs1 := hb1.size); (try simp at hs1); (try (have hl1 := Nat.lt_of_succ_le hs1)); (first | (have hz1 : w.heap.size < w1.heap.size := by omega) | (have hz1 : w.heap.size ≤ w1.heap.size := by omega)); (try (have hz2_1 : w2.heap.size < w1.heap.size := by omega)); (try (have hz3_1 : w3.heap.size < w1.heap.size := by omega)); (try (have hz4_1 : w4.heap.size < w1.heap.size := by omega)); (try (have hz5_1 : w5.heap.size < w1.heap.size := by omega)); (try (have hzc_1 : wc.heap.size < w1.heap.size := by omega)); (try (have hy1_1 : w.heap.size + 1 < w1.heap.size := by omega)); (try (have hy2_1 : w.heap.size + 2 < w1.heap.size := by omega)); (try (have hy3_1 : w.heap.size + 3 < w1.heap.size := by omega)); (have k1_0 : w1.cell? ⟨w.heap.size, 0, none⟩ = some (.bool (wneg z)) := by (rw [hb1.cell (by first | (simp; done) | (simp; omega) | omega)]; first | assumption | (simp [go_sem]; done) | (simp [*, go_sem]; done))); (have k1_1 : w1.cell? ⟨w.heap.size, 1, none⟩ = some (.slice P (wlimbs z).length c) := by (rw [hb1.cell (by first | (simp; done) | (simp; omega) | omega)]; first | assumption | (simp [go_sem]; done) | (simp [*, go_sem]; done))); (have k1_2 : w1.cell? ⟨w.heap.size + 1, 0, none⟩ = some (.bool false) := by (rw [hb1.cell (by first | (simp; done) | (simp; omega) | omega)]; first | assumption | (simp [go_sem]; done) | (simp [*, go_sem]; done))); (have k1_3 : w1.cell? ⟨w.heap.size + 1, 1, none⟩ = some (.slice none 0 0) := by (rw [hb1.cell (by first | (simp; done) | (simp; omega) | omega)]; first | assumption | (simp [go_sem]; done) | (simp [*, go_sem]; done))); (have k1_4 : w1.frozen? ⟨w.heap.size + 1, 0, none⟩ = false := by (rw [hb1.frozen (by first | (simp; done) | (simp; omega) | omega)]; first | assumption | (simp [go_sem]; done) | (simp [*, go_sem]; done))); (have k1_5 : w1.frozen? ⟨w.heap.size + 1, 1, none⟩ = false := by (rw [hb1.frozen (by first | (simp; done) | (simp; omega) | omega)]; first | assumption | (simp [go_sem]; done) | (simp [*, go_sem]; done))))
    go_wp2_with (first | (go_at_call 54; refine (inside_any _ _ _ _).mono ?_; rintro e w' ⟨rfl, rfl⟩) | fail)
    (go_at_call 86; refine (divWhole_any z n (H.out.below (by (repeat' (first | (with_reducible exact Below.refl _ _) | (with_reducible assumption) | (with_reducible refine Below.alloc ?_ ?_ _) | (with_reducible refine Below.drew ?_) | (with_reducible refine below_drewN ?_ _) | (with_reducible refine Below.setCell ?_ ?_ _) | go_size)))) (by omega) i0 i1).mono ?_; rintro e w3 ⟨A3, d3, rfl, n3, hb3⟩; have N3 := Lib.hid n3; clear n3; obtain ⟨hc3, hf3⟩ := bcell hb3; have hB3 : Below w.heap.size w w3 := Below.trans (by repeat' (first | (with_reducible exact Below.refl _ _) | (with_reducible assumption) | (with_reducible refine Below.alloc ?_ ?_ _) | (with_reducible refine Below.drew ?_) | (with_reducible refine below_drewN ?_ _) | (with_reducible refine Below.setCell ?_ ?_ _) | go_size)) (hb3.mono (by go_size)); (have hs3 := hb3.size); (try simp at hs3); (try (have hl3 := Nat.lt_of_succ_le hs3)); (first | (have hz3 : w.heap.size < w3.heap.size := by omega) | (have hz3 : w.heap.size ≤ w3.heap.size := by omega)); (try (have hz1_3 : w1.heap.size < w3.heap.size := by omega)); (try (have hz2_3 : w2.heap.size < w3.heap.size := by omega)); (try (have hz4_3 : w4.heap.size < w3.heap.size := by omega)); (try (have hz5_3 : w5.heap.size < w3.heap.size := by omega)); (try (have hzc_3 : wc.heap.size < w3.heap.size := by omega)); (try (have hy1_3 : w.heap.size + 1 < w3.heap.size := by omega)); (try (have hy2_3 : w.heap.size + 2 < w3.heap.size := by omega)); (try (have hy3_3 : w.heap.size + 3 < w3.heap.size := by omega)); (have k3_0 : w3.cell? ⟨w.heap.size, 0, none⟩ = some (.bool (wneg z)) := by (rw [hb3.cell (by first | (simp; done) | (simp; omega) | omega)]; first | assumption | (simp [go_sem]; done) | (simp [*, go_sem]; done))); (have k3_1 : w3.cell? ⟨w.heap.size, 1, none⟩ = some (.slice P (wlimbs z).length c) := by (rw [hb3.cell (by first | (simp; done) | (simp; omega) | omega)]; first | assumption | (simp [go_sem]; done) | (simp [*, go_sem]; done))); (have k3_2 : w3.cell? ⟨w.heap.size + 1, 0, none⟩ = some (.bool false) := by (rw [hb3.cell (by first | (simp; done) | (simp; omega) | omega)]; first | assumption | (simp [go_sem]; done) | (simp [*, go_sem]; done))); (have k3_3 : w3.cell? ⟨w.heap.size + 1, 1, none⟩ = some (.slice none 0 0) := by (rw [hb3.cell (by first | (simp; done) | (simp; omega) | omega)]; first | assumption | (simp [go_sem]; done) | (simp [*, go_sem]; done))); (have k3_4 : w3.frozen? ⟨w.heap.size + 1, 0, none⟩ = false := by (rw [hb3.frozen (by first | (simp; done) | (simp; omega) | omega)]; first | assumption | (simp [go_sem]; done) | (simp [*, go_sem]; done))); (have k3_5 : w3.frozen? ⟨w.heap.size + 1, 1, none⟩ = false := by (rw [hb3.frozen (by first | (simp; done) | (simp; omega) | omega)]; first | assumption | (simp [go_sem]; done) | (simp [*, go_sem]; done))))
    go_wp2
    refine bodyPost_ret (by simp [results, Try.results51, go_sem, *]; try rfl) rfl ?_
    exact ⟨A3, d3, rfl, ((((N3.out.setBelow (a := ⟨w.heap.size + 1, 0, none⟩) (show w.heap.size + 1 < w1.heap.size by omega) (.bool (wneg (divZ z n)))).setBelow (a := ⟨w.heap.size + 1, 1, none⟩) (show w.heap.size + 1 < w1.heap.size by omega) (.slice A3 (wlimbs (divZ z n)).length d3)).below (by (repeat' (first | (with_reducible exact Below.refl _ _) | (with_reducible assumption) | (with_reducible refine Below.alloc ?_ ?_ _) | (with_reducible refine Below.drew ?_) | (with_reducible refine below_drewN ?_ _) | (with_reducible refine Below.setCell ?_ ?_ _) | go_size)))).mono (by omega)), by repeat' (first | (with_reducible exact Below.refl _ _) | (with_reducible assumption) | (with_reducible refine Below.alloc ?_ ?_ _) | (with_reducible refine Below.drew ?_) | (with_reducible refine below_drewN ?_ _) | (with_reducible refine Below.setCell ?_ ?_ _) | go_size)⟩
  · have HR := Lib.hid (show res b0 x0 n = 0 by unfold res; rw [hp, ifZ_no])
    have HM := Lib.hid (show rem b0 x0 n = 0 by unfold rem; rw [hp, ifZ_no])
    rw [HR.out, HM.out, hp, wlimbs_zero]
    rcases Bool.eq_false_or_eq_true (goodB b0 x0) with g0 | g0
    · have gi : inB n 1 1000000000000 = false := by simpa [okB, g0] using hp
      clear hp
      go_enter Try.func51, Try.ntmps51
      go_wp2_with fail
      (go_at_call 70; refine (isWhole_any b0 (H.out.below (by (repeat' (first | (with_reducible exact Below.refl _ _) | (with_reducible assumption) | (with_reducible refine Below.alloc ?_ ?_ _) | (with_reducible refine Below.drew ?_) | (with_reducible refine below_drewN ?_ _) | (with_reducible refine Below.setCell ?_ ?_ _) | go_size)))) l0).mono ?_; rintro e w1 ⟨rfl, hb1⟩; obtain ⟨hc1, hf1⟩ := bcell hb1; have hB1 : Below w.heap.size w w1 := Below.trans (by repeat' (first | (with_reducible exact Below.refl _ _) | (with_reducible assumption) | (with_reducible refine Below.alloc ?_ ?_ _) | (with_reducible refine Below.drew ?_) | (with_reducible refine below_drewN ?_ _) | (with_reducible refine Below.setCell ?_ ?_ _) | go_size)) (hb1.mono (by go_size)); (have hs1 := hb1.size); (try simp at hs1); (try (have hl1 := Nat.lt_of_succ_le hs1)); (first | (have hz1 : w.heap.size < w1.heap.size := by omega) | (have hz1 : w.heap.size ≤ w1.heap.size := by omega)); (try (have hz2_1 : w2.heap.size < w1.heap.size := by omega)); (try (have hz3_1 : w3.heap.size < w1.heap.size := by omega)); (try (have hz4_1 : w4.heap.size < w1.heap.size := by omega)); (try (have hz5_1 : w5.heap.size < w1.heap.size := by omega)); (try (have hzc_1 : wc.heap.size < w1.heap.size := by omega)); (try (have hy1_1 : w.heap.size + 1 < w1.heap.size := by omega)); (try (have hy2_1 : w.heap.size + 2 < w1.heap.size := by omega)); (try (have hy3_1 : w.heap.size + 3 < w1.heap.size := by omega)); (have k1_0 : w1.cell? ⟨w.heap.size, 0, none⟩ = some (.bool b0) := by (rw [hb1.cell (by first | (simp; done) | (simp; omega) | omega)]; first | assumption | (simp [go_sem]; done) | (simp [*, go_sem]; done))); (have k1_1 : w1.cell? ⟨w.heap.size, 1, none⟩ = some (.slice P x0.length c) := by (rw [hb1.cell (by first | (simp; done) | (simp; omega) | omega)]; first | assumption | (simp [go_sem]; done) | (simp [*, go_sem]; done))); (have k1_2 : w1.cell? ⟨w.heap.size + 1, 0, none⟩ = some (.bool false) := by (rw [hb1.cell (by first | (simp; done) | (simp; omega) | omega)]; first | assumption | (simp [go_sem]; done) | (simp [*, go_sem]; done))); (have k1_3 : w1.cell? ⟨w.heap.size + 1, 1, none⟩ = some (.slice none 0 0) := by (rw [hb1.cell (by first | (simp; done) | (simp; omega) | omega)]; first | assumption | (simp [go_sem]; done) | (simp [*, go_sem]; done))); (have k1_4 : w1.frozen? ⟨w.heap.size + 1, 0, none⟩ = false := by (rw [hb1.frozen (by first | (simp; done) | (simp; omega) | omega)]; first | assumption | (simp [go_sem]; done) | (simp [*, go_sem]; done))); (have k1_5 : w1.frozen? ⟨w.heap.size + 1, 1, none⟩ = false := by (rw [hb1.frozen (by first | (simp; done) | (simp; omega) | omega)]; first | assumption | (simp [go_sem]; done) | (simp [*, go_sem]; done))))
      go_wp2_with (go_at_call 54; refine (inside_any _ _ _ _).mono ?_; rintro e w' ⟨rfl, rfl⟩)
      refine bodyPost_ret (by simp [results, Try.results51, go_sem, *]; try rfl) rfl ?_
      exact ⟨none, 0, rfl, Nums.nil _ _, by repeat' (first | (with_reducible exact Below.refl _ _) | (with_reducible assumption) | (with_reducible refine Below.alloc ?_ ?_ _) | (with_reducible refine Below.drew ?_) | (with_reducible refine below_drewN ?_ _) | (with_reducible refine Below.setCell ?_ ?_ _) | go_size)⟩
    · clear hp
      go_enter Try.func51, Try.ntmps51
      go_wp2_with fail
      (go_at_call 70; refine (isWhole_any b0 (H.out.below (by (repeat' (first | (with_reducible exact Below.refl _ _) | (with_reducible assumption) | (with_reducible refine Below.alloc ?_ ?_ _) | (with_reducible refine Below.drew ?_) | (with_reducible refine below_drewN ?_ _) | (with_reducible refine Below.setCell ?_ ?_ _) | go_size)))) l0).mono ?_; rintro e w1 ⟨rfl, hb1⟩; obtain ⟨hc1, hf1⟩ := bcell hb1; have hB1 : Below w.heap.size w w1 := Below.trans (by repeat' (first | (with_reducible exact Below.refl _ _) | (with_reducible assumption) | (with_reducible refine Below.alloc ?_ ?_ _) | (with_reducible refine Below.drew ?_) | (with_reducible refine below_drewN ?_ _) | (with_reducible refine Below.setCell ?_ ?_ _) | go_size)) (hb1.mono (by go_size)); (have hs1 := hb1.size); (try simp at hs1); (try (have hl1 := Nat.lt_of_succ_le hs1)); (first | (have hz1 : w.heap.size < w1.heap.size := by omega) | (have hz1 : w.heap.size ≤ w1.heap.size := by omega)); (try (have hz2_1 : w2.heap.size < w1.heap.size := by omega)); (try (have hz3_1 : w3.heap.size < w1.heap.size := by omega)); (try (have hz4_1 : w4.heap.size < w1.heap.size := by omega)); (try (have hz5_1 : w5.heap.size < w1.heap.size := by omega)); (try (have hzc_1 : wc.heap.size < w1.heap.size := by omega)); (try (have hy1_1 : w.heap.size + 1 < w1.heap.size := by omega)); (try (have hy2_1 : w.heap.size + 2 < w1.heap.size := by omega)); (try (have hy3_1 : w.heap.size + 3 < w1.heap.size := by omega)); (have k1_0 : w1.cell? ⟨w.heap.size, 0, none⟩ = some (.bool b0) := by (rw [hb1.cell (by first | (simp; done) | (simp; omega) | omega)]; first | assumption | (simp [go_sem]; done) | (simp [*, go_sem]; done))); (have k1_1 : w1.cell? ⟨w.heap.size, 1, none⟩ = some (.slice P x0.length c) := by (rw [hb1.cell (by first | (simp; done) | (simp; omega) | omega)]; first | assumption | (simp [go_sem]; done) | (simp [*, go_sem]; done))); (have k1_2 : w1.cell? ⟨w.heap.size + 1, 0, none⟩ = some (.bool false) := by (rw [hb1.cell (by first | (simp; done) | (simp; omega) | omega)]; first | assumption | (simp [go_sem]; done) | (simp [*, go_sem]; done))); (have k1_3 : w1.cell? ⟨w.heap.size + 1, 1, none⟩ = some (.slice none 0 0) := by (rw [hb1.cell (by first | (simp; done) | (simp; omega) | omega)]; first | assumption | (simp [go_sem]; done) | (simp [*, go_sem]; done))); (have k1_4 : w1.frozen? ⟨w.heap.size + 1, 0, none⟩ = false := by (rw [hb1.frozen (by first | (simp; done) | (simp; omega) | omega)]; first | assumption | (simp [go_sem]; done) | (simp [*, go_sem]; done))); (have k1_5 : w1.frozen? ⟨w.heap.size + 1, 1, none⟩ = false := by (rw [hb1.frozen (by first | (simp; done) | (simp; omega) | omega)]; first | assumption | (simp [go_sem]; done) | (simp [*, go_sem]; done))))
      go_wp2
      refine bodyPost_ret (by simp [results, Try.results51, go_sem, *]; try rfl) rfl ?_
      exact ⟨none, 0, rfl, Nums.nil _ _, by repeat' (first | (with_reducible exact Below.refl _ _) | (with_reducible assumption) | (with_reducible refine Below.alloc ?_ ?_ _) | (with_reducible refine Below.drew ?_) | (with_reducible refine below_drewN ?_ _) | (with_reducible refine Below.setCell ?_ ?_ _) | go_size)⟩
set_option maxHeartbeats 8000000 in
theorem spec_any (b0 : Bool) (n : Int) {P : Option Addr} {c : Nat} {x0 : List Int} {w : World} (h0 : Holds w (.slice P x0.length c) x0) (l0 : x0.length ≤ 1048576) :
    Calls Try.prog 50 #[.agg #[.bool b0, .slice P x0.length c], .int .i64 n] w fun e w' => ∃ A c, e = .returned (.tuple #[.agg #[.bool (wneg (res b0 x0 n)), .slice A (wlimbs (res b0 x0 n)).length c], .int .i64 (rem b0 x0 n), .bool (okB b0 x0 n)]) ∧ Nums w' w.heap.size (.slice A (wlimbs (res b0 x0 n)).length c) (wlimbs (res b0 x0 n)) ∧ Below w.heap.size w w' := by
  have H := Lib.hid h0
  clear h0
  rcases Bool.eq_false_or_eq_true (okB b0 x0 n) with hp | hp
  · have hp2 : goodB b0 x0 = true ∧ inB n 1 1000000000000 = true := by simpa [okB] using hp
    obtain ⟨g0, gi⟩ := hp2
    obtain ⟨z, rfl, rfl, e0⟩ := goodB_of g0
    obtain ⟨i0, i1⟩ := inB_iff.1 gi
    have e0' : (wlimbs z).length ≤ 400 := e0
    have HR := Lib.hid (show res (wneg z) (wlimbs z) n = divZ z n by unfold res; rw [hp, valZ_whole]; rfl)
    have HM := Lib.hid (show rem (wneg z) (wlimbs z) n = modZ z n by unfold rem; rw [hp, valZ_whole]; rfl)
    rw [HR.out, HM.out, hp]
    clear hp
    go_enter Try.func50, Try.ntmps50
    go_wp2_with fail
    (go_at_call 68; refine (bgGood_any (wneg z) (H.out.below (by (repeat' (first | (with_reducible exact Below.refl _ _) | (with_reducible assumption) | (with_reducible refine Below.alloc ?_ ?_ _) | (with_reducible refine Below.drew ?_) | (with_reducible refine below_drewN ?_ _) | (with_reducible refine Below.setCell ?_ ?_ _) | go_size)))) (by omega)).mono ?_; rintro e w1 ⟨rfl, hb1⟩; obtain ⟨hc1, hf1⟩ := bcell hb1; have hB1 : Below w.heap.size w w1 := Below.trans (by repeat' (first | (with_reducible exact Below.refl _ _) | (with_reducible assumption) | (with_reducible refine Below.alloc ?_ ?_ _) | (with_reducible refine Below.drew ?_) | (with_reducible refine below_drewN ?_ _) | (with_reducible refine Below.setCell ?_ ?_ _) | go_size)) (hb1.mono (by go_size)); (have hs1 := hb1.size); (try simp at hs1); (try (have hl1 := Nat.lt_of_succ_le hs1)); (first | (have hz1 : w.heap.size < w1.heap.size := by omega) | (have hz1 : w.heap.size ≤ w1.heap.size := by omega)); (try (have hz2_1 : w2.heap.size < w1.heap.size := by omega)); (try (have hz3_1 : w3.heap.size < w1.heap.size := by omega)); (try (have hz4_1 : w4.heap.size < w1.heap.size := by omega)); (try (have hz5_1 : w5.heap.size < w1.heap.size := by omega)); (try (have hzc_1 : wc.heap.size < w1.heap.size := by omega)); (try (have hy1_1 : w.heap.size + 1 < w1.heap.size := by omega)); (try (have hy2_1 : w.heap.size + 2 < w1.heap.size := by omega)); (try (have hy3_1 : w.heap.size + 3 < w1.heap.size := by omega)); (have k1_0 : w1.cell? ⟨w.heap.size, 0, none⟩ = some (.bool (wneg z)) := by (rw [hb1.cell (by first | (simp; done) | (simp; omega) | omega)]; first | assumption | (simp [go_sem]; done) | (simp [*, go_sem]; done))); (have k1_1 : w1.cell? ⟨w.heap.size, 1, none⟩ = some (.slice P (wlimbs z).length c) := by (rw [hb1.cell (by first | (simp; done) | (simp; omega) | omega)]; first | assumption | (simp [go_sem]; done) | (simp [*, go_sem]; done))); (have k1_2 : w1.cell? ⟨w.heap.size + 1, 0, none⟩ = some (.bool false) := by (rw [hb1.cell (by first | (simp; done) | (simp; omega) | omega)]; first | assumption | (simp [go_sem]; done) | (simp [*, go_sem]; done))); (have k1_3 : w1.cell? ⟨w.heap.size + 1, 1, none⟩ = some (.slice none 0 0) := by (rw [hb1.cell (by first | (simp; done) | (simp; omega) | omega)]; first | assumption | (simp [go_sem]; done) | (simp [*, go_sem]; done))); (have k1_4 : w1.frozen? ⟨w.heap.size + 1, 0, none⟩ = false := by (rw [hb1.frozen (by first | (simp; done) | (simp; omega) | omega)]; first | assumption | (simp [go_sem]; done) | (simp [*, go_sem]; done))); (have k1_5 : w1.frozen? ⟨w.heap.size + 1, 1, none⟩ = false := by (rw [hb1.frozen (by first | (simp; done) | (simp; omega) | omega)]; first | assumption | (simp [go_sem]; done) | (simp [*, go_sem]; done))))
    go_wp2_with (first | (go_at_call 84; refine (bgSmall_any _ _).mono ?_; rintro e w' ⟨rfl, rfl⟩) | fail)
    (go_at_call 85; refine (bgOver_any z n (H.out.below (by (repeat' (first | (with_reducible exact Below.refl _ _) | (with_reducible assumption) | (with_reducible refine Below.alloc ?_ ?_ _) | (with_reducible refine Below.drew ?_) | (with_reducible refine below_drewN ?_ _) | (with_reducible refine Below.setCell ?_ ?_ _) | go_size)))) (by omega) i0 i1).mono ?_; rintro e w3 ⟨A3, d3, rfl, n3, hb3⟩; have N3 := Lib.hid n3; clear n3; obtain ⟨hc3, hf3⟩ := bcell hb3; have hB3 : Below w.heap.size w w3 := Below.trans (by repeat' (first | (with_reducible exact Below.refl _ _) | (with_reducible assumption) | (with_reducible refine Below.alloc ?_ ?_ _) | (with_reducible refine Below.drew ?_) | (with_reducible refine below_drewN ?_ _) | (with_reducible refine Below.setCell ?_ ?_ _) | go_size)) (hb3.mono (by go_size)); (have hs3 := hb3.size); (try simp at hs3); (try (have hl3 := Nat.lt_of_succ_le hs3)); (first | (have hz3 : w.heap.size < w3.heap.size := by omega) | (have hz3 : w.heap.size ≤ w3.heap.size := by omega)); (try (have hz1_3 : w1.heap.size < w3.heap.size := by omega)); (try (have hz2_3 : w2.heap.size < w3.heap.size := by omega)); (try (have hz4_3 : w4.heap.size < w3.heap.size := by omega)); (try (have hz5_3 : w5.heap.size < w3.heap.size := by omega)); (try (have hzc_3 : wc.heap.size < w3.heap.size := by omega)); (try (have hy1_3 : w.heap.size + 1 < w3.heap.size := by omega)); (try (have hy2_3 : w.heap.size + 2 < w3.heap.size := by omega)); (try (have hy3_3 : w.heap.size + 3 < w3.heap.size := by omega)); (have k3_0 : w3.cell? ⟨w.heap.size, 0, none⟩ = some (.bool (wneg z)) := by (rw [hb3.cell (by first | (simp; done) | (simp; omega) | omega)]; first | assumption | (simp [go_sem]; done) | (simp [*, go_sem]; done))); (have k3_1 : w3.cell? ⟨w.heap.size, 1, none⟩ = some (.slice P (wlimbs z).length c) := by (rw [hb3.cell (by first | (simp; done) | (simp; omega) | omega)]; first | assumption | (simp [go_sem]; done) | (simp [*, go_sem]; done))); (have k3_2 : w3.cell? ⟨w.heap.size + 1, 0, none⟩ = some (.bool false) := by (rw [hb3.cell (by first | (simp; done) | (simp; omega) | omega)]; first | assumption | (simp [go_sem]; done) | (simp [*, go_sem]; done))); (have k3_3 : w3.cell? ⟨w.heap.size + 1, 1, none⟩ = some (.slice none 0 0) := by (rw [hb3.cell (by first | (simp; done) | (simp; omega) | omega)]; first | assumption | (simp [go_sem]; done) | (simp [*, go_sem]; done))); (have k3_4 : w3.frozen? ⟨w.heap.size + 1, 0, none⟩ = false := by (rw [hb3.frozen (by first | (simp; done) | (simp; omega) | omega)]; first | assumption | (simp [go_sem]; done) | (simp [*, go_sem]; done))); (have k3_5 : w3.frozen? ⟨w.heap.size + 1, 1, none⟩ = false := by (rw [hb3.frozen (by first | (simp; done) | (simp; omega) | omega)]; first | assumption | (simp [go_sem]; done) | (simp [*, go_sem]; done))))
    have hl5 := div_len (z := z) (n := n) (by omega)
    go_wp2_with fail
    ((go_at_call 68; refine (bgGood_any (wneg (divZ z n)) (N3.out.below (by (repeat' (first | (with_reducible exact Below.refl _ _) | (with_reducible assumption) | (with_reducible refine Below.alloc ?_ ?_ _) | (with_reducible refine Below.drew ?_) | (with_reducible refine below_drewN ?_ _) | (with_reducible refine Below.setCell ?_ ?_ _) | go_size)))).holds (by omega)).mono ?_; rintro e w4 ⟨rfl, hb4⟩; obtain ⟨hc4, hf4⟩ := bcell hb4; have hB4 : Below w.heap.size w w4 := Below.trans (by repeat' (first | (with_reducible exact Below.refl _ _) | (with_reducible assumption) | (with_reducible refine Below.alloc ?_ ?_ _) | (with_reducible refine Below.drew ?_) | (with_reducible refine below_drewN ?_ _) | (with_reducible refine Below.setCell ?_ ?_ _) | go_size)) (hb4.mono (by go_size)); (have hs4 := hb4.size); (try simp at hs4); (try (have hl4 := Nat.lt_of_succ_le hs4)); (first | (have hz4 : w.heap.size < w4.heap.size := by omega) | (have hz4 : w.heap.size ≤ w4.heap.size := by omega)); (try (have hz1_4 : w1.heap.size < w4.heap.size := by omega)); (try (have hz2_4 : w2.heap.size < w4.heap.size := by omega)); (try (have hz3_4 : w3.heap.size < w4.heap.size := by omega)); (try (have hz5_4 : w5.heap.size < w4.heap.size := by omega)); (try (have hzc_4 : wc.heap.size < w4.heap.size := by omega)); (try (have hy1_4 : w.heap.size + 1 < w4.heap.size := by omega)); (try (have hy2_4 : w.heap.size + 2 < w4.heap.size := by omega)); (try (have hy3_4 : w.heap.size + 3 < w4.heap.size := by omega)); (have k4_0 : w4.cell? ⟨w.heap.size + 1, 0, none⟩ = some (.bool false) := by (rw [hb4.cell (by first | (simp; done) | (simp; omega) | omega)]; first | assumption | (simp [go_sem]; done) | (simp [*, go_sem]; done))); (have k4_1 : w4.cell? ⟨w.heap.size + 1, 1, none⟩ = some (.slice none 0 0) := by (rw [hb4.cell (by first | (simp; done) | (simp; omega) | omega)]; first | assumption | (simp [go_sem]; done) | (simp [*, go_sem]; done))); (have k4_2 : w4.frozen? ⟨w.heap.size + 1, 0, none⟩ = false := by (rw [hb4.frozen (by first | (simp; done) | (simp; omega) | omega)]; first | assumption | (simp [go_sem]; done) | (simp [*, go_sem]; done))); (have k4_3 : w4.frozen? ⟨w.heap.size + 1, 1, none⟩ = false := by (rw [hb4.frozen (by first | (simp; done) | (simp; omega) | omega)]; first | assumption | (simp [go_sem]; done) | (simp [*, go_sem]; done))); (have k4_4 : w4.cell? ⟨w3.heap.size, 0, none⟩ = some (.bool (wneg (divZ z n))) := by (rw [hb4.cell (by first | (simp; done) | (simp; omega) | omega)]; first | assumption | (simp [go_sem]; done) | (simp [*, go_sem]; done))); (have k4_5 : w4.cell? ⟨w3.heap.size, 1, none⟩ = some (.slice A3 (wlimbs (divZ z n)).length d3) := by (rw [hb4.cell (by first | (simp; done) | (simp; omega) | omega)]; first | assumption | (simp [go_sem]; done) | (simp [*, go_sem]; done)))))
    have N4 := Lib.hid ((N3.out.below (by repeat' (first | (with_reducible exact Below.refl _ _) | (with_reducible assumption) | (with_reducible refine Below.alloc ?_ ?_ _) | (with_reducible refine Below.drew ?_) | (with_reducible refine below_drewN ?_ _) | (with_reducible refine Below.setCell ?_ ?_ _) | go_size))).below hb4)
    rw [goodB_whole, decide_eq_true (show wlen (divZ z n) ≤ 400 by unfold wlen; omega)]
    go_wp2
    refine bodyPost_ret (by simp [results, Try.results50, go_sem, *]; try rfl) rfl ?_
    exact ⟨A3, d3, rfl, (((N4.out.setBelow (a := ⟨w.heap.size + 1, 0, none⟩) (show w.heap.size + 1 < w1.heap.size by omega) _).setBelow (a := ⟨w.heap.size + 1, 1, none⟩) (show w.heap.size + 1 < w1.heap.size by omega) _).mono (by omega)), by repeat' (first | (with_reducible exact Below.refl _ _) | (with_reducible assumption) | (with_reducible refine Below.alloc ?_ ?_ _) | (with_reducible refine Below.drew ?_) | (with_reducible refine below_drewN ?_ _) | (with_reducible refine Below.setCell ?_ ?_ _) | go_size)⟩
  · have HR := Lib.hid (show res b0 x0 n = 0 by unfold res; rw [hp, ifZ_no])
    have HM := Lib.hid (show rem b0 x0 n = 0 by unfold rem; rw [hp, ifZ_no])
    rw [HR.out, HM.out, hp, wlimbs_zero]
    rcases Bool.eq_false_or_eq_true (goodB b0 x0) with g0 | g0
    · have gi : inB n 1 1000000000000 = false := by simpa [okB, g0] using hp
      clear hp
      go_enter Try.func50, Try.ntmps50
      go_wp2_with fail
      (go_at_call 68; refine (bgGood_any b0 (H.out.below (by (repeat' (first | (with_reducible exact Below.refl _ _) | (with_reducible assumption) | (with_reducible refine Below.alloc ?_ ?_ _) | (with_reducible refine Below.drew ?_) | (with_reducible refine below_drewN ?_ _) | (with_reducible refine Below.setCell ?_ ?_ _) | go_size)))) l0).mono ?_; rintro e w1 ⟨rfl, hb1⟩; obtain ⟨hc1, hf1⟩ := bcell hb1; have hB1 : Below w.heap.size w w1 := Below.trans (by repeat' (first | (with_reducible exact Below.refl _ _) | (with_reducible assumption) | (with_reducible refine Below.alloc ?_ ?_ _) | (with_reducible refine Below.drew ?_) | (with_reducible refine below_drewN ?_ _) | (with_reducible refine Below.setCell ?_ ?_ _) | go_size)) (hb1.mono (by go_size)); (have hs1 := hb1.size); (try simp at hs1); (try (have hl1 := Nat.lt_of_succ_le hs1)); (first | (have hz1 : w.heap.size < w1.heap.size := by omega) | (have hz1 : w.heap.size ≤ w1.heap.size := by omega)); (try (have hz2_1 : w2.heap.size < w1.heap.size := by omega)); (try (have hz3_1 : w3.heap.size < w1.heap.size := by omega)); (try (have hz4_1 : w4.heap.size < w1.heap.size := by omega)); (try (have hz5_1 : w5.heap.size < w1.heap.size := by omega)); (try (have hzc_1 : wc.heap.size < w1.heap.size := by omega)); (try (have hy1_1 : w.heap.size + 1 < w1.heap.size := by omega)); (try (have hy2_1 : w.heap.size + 2 < w1.heap.size := by omega)); (try (have hy3_1 : w.heap.size + 3 < w1.heap.size := by omega)); (have k1_0 : w1.cell? ⟨w.heap.size, 0, none⟩ = some (.bool b0) := by (rw [hb1.cell (by first | (simp; done) | (simp; omega) | omega)]; first | assumption | (simp [go_sem]; done) | (simp [*, go_sem]; done))); (have k1_1 : w1.cell? ⟨w.heap.size, 1, none⟩ = some (.slice P x0.length c) := by (rw [hb1.cell (by first | (simp; done) | (simp; omega) | omega)]; first | assumption | (simp [go_sem]; done) | (simp [*, go_sem]; done))); (have k1_2 : w1.cell? ⟨w.heap.size + 1, 0, none⟩ = some (.bool false) := by (rw [hb1.cell (by first | (simp; done) | (simp; omega) | omega)]; first | assumption | (simp [go_sem]; done) | (simp [*, go_sem]; done))); (have k1_3 : w1.cell? ⟨w.heap.size + 1, 1, none⟩ = some (.slice none 0 0) := by (rw [hb1.cell (by first | (simp; done) | (simp; omega) | omega)]; first | assumption | (simp [go_sem]; done) | (simp [*, go_sem]; done))); (have k1_4 : w1.frozen? ⟨w.heap.size + 1, 0, none⟩ = false := by (rw [hb1.frozen (by first | (simp; done) | (simp; omega) | omega)]; first | assumption | (simp [go_sem]; done) | (simp [*, go_sem]; done))); (have k1_5 : w1.frozen? ⟨w.heap.size + 1, 1, none⟩ = false := by (rw [hb1.frozen (by first | (simp; done) | (simp; omega) | omega)]; first | assumption | (simp [go_sem]; done) | (simp [*, go_sem]; done))))
      go_wp2_with (go_at_call 84; refine (bgSmall_any _ _).mono ?_; rintro e w' ⟨rfl, rfl⟩)
      refine bodyPost_ret (by simp [results, Try.results50, go_sem, *]; try rfl) rfl ?_
      exact ⟨none, 0, rfl, Nums.nil _ _, by repeat' (first | (with_reducible exact Below.refl _ _) | (with_reducible assumption) | (with_reducible refine Below.alloc ?_ ?_ _) | (with_reducible refine Below.drew ?_) | (with_reducible refine below_drewN ?_ _) | (with_reducible refine Below.setCell ?_ ?_ _) | go_size)⟩
    · clear hp
      go_enter Try.func50, Try.ntmps50
      go_wp2_with fail
      (go_at_call 68; refine (bgGood_any b0 (H.out.below (by (repeat' (first | (with_reducible exact Below.refl _ _) | (with_reducible assumption) | (with_reducible refine Below.alloc ?_ ?_ _) | (with_reducible refine Below.drew ?_) | (with_reducible refine below_drewN ?_ _) | (with_reducible refine Below.setCell ?_ ?_ _) | go_size)))) l0).mono ?_; rintro e w1 ⟨rfl, hb1⟩; obtain ⟨hc1, hf1⟩ := bcell hb1; have hB1 : Below w.heap.size w w1 := Below.trans (by repeat' (first | (with_reducible exact Below.refl _ _) | (with_reducible assumption) | (with_reducible refine Below.alloc ?_ ?_ _) | (with_reducible refine Below.drew ?_) | (with_reducible refine below_drewN ?_ _) | (with_reducible refine Below.setCell ?_ ?_ _) | go_size)) (hb1.mono (by go_size)); (have hs1 := hb1.size); (try simp at hs1); (try (have hl1 := Nat.lt_of_succ_le hs1)); (first | (have hz1 : w.heap.size < w1.heap.size := by omega) | (have hz1 : w.heap.size ≤ w1.heap.size := by omega)); (try (have hz2_1 : w2.heap.size < w1.heap.size := by omega)); (try (have hz3_1 : w3.heap.size < w1.heap.size := by omega)); (try (have hz4_1 : w4.heap.size < w1.heap.size := by omega)); (try (have hz5_1 : w5.heap.size < w1.heap.size := by omega)); (try (have hzc_1 : wc.heap.size < w1.heap.size := by omega)); (try (have hy1_1 : w.heap.size + 1 < w1.heap.size := by omega)); (try (have hy2_1 : w.heap.size + 2 < w1.heap.size := by omega)); (try (have hy3_1 : w.heap.size + 3 < w1.heap.size := by omega)); (have k1_0 : w1.cell? ⟨w.heap.size, 0, none⟩ = some (.bool b0) := by (rw [hb1.cell (by first | (simp; done) | (simp; omega) | omega)]; first | assumption | (simp [go_sem]; done) | (simp [*, go_sem]; done))); (have k1_1 : w1.cell? ⟨w.heap.size, 1, none⟩ = some (.slice P x0.length c) := by (rw [hb1.cell (by first | (simp; done) | (simp; omega) | omega)]; first | assumption | (simp [go_sem]; done) | (simp [*, go_sem]; done))); (have k1_2 : w1.cell? ⟨w.heap.size + 1, 0, none⟩ = some (.bool false) := by (rw [hb1.cell (by first | (simp; done) | (simp; omega) | omega)]; first | assumption | (simp [go_sem]; done) | (simp [*, go_sem]; done))); (have k1_3 : w1.cell? ⟨w.heap.size + 1, 1, none⟩ = some (.slice none 0 0) := by (rw [hb1.cell (by first | (simp; done) | (simp; omega) | omega)]; first | assumption | (simp [go_sem]; done) | (simp [*, go_sem]; done))); (have k1_4 : w1.frozen? ⟨w.heap.size + 1, 0, none⟩ = false := by (rw [hb1.frozen (by first | (simp; done) | (simp; omega) | omega)]; first | assumption | (simp [go_sem]; done) | (simp [*, go_sem]; done))); (have k1_5 : w1.frozen? ⟨w.heap.size + 1, 1, none⟩ = false := by (rw [hb1.frozen (by first | (simp; done) | (simp; omega) | omega)]; first | assumption | (simp [go_sem]; done) | (simp [*, go_sem]; done))))
      go_wp2
      refine bodyPost_ret (by simp [results, Try.results50, go_sem, *]; try rfl) rfl ?_
      exact ⟨none, 0, rfl, Nums.nil _ _, by repeat' (first | (with_reducible exact Below.refl _ _) | (with_reducible assumption) | (with_reducible refine Below.alloc ?_ ?_ _) | (with_reducible refine Below.drew ?_) | (with_reducible refine below_drewN ?_ _) | (with_reducible refine Below.setCell ?_ ?_ _) | go_size)⟩
set_option maxRecDepth 100000 in
set_option maxHeartbeats 8000000 in
theorem walk (b0 : Bool) (P0 : Option Addr) (c0 : Nat) (x0 : List Int) (a1 : Int) (w : World) (h0 : Came w (.slice P0 x0.length c0) x0) (hm0 : x0.length ≤ maxLen) (wf1 : (Lit.int .i64 a1).wf = true) :
    Calls Try.prog 14 #[.agg #[.bool b0, .slice P0 x0.length c0], .int .i64 a1] w fun e w' => e = .returned (.bool true) ∧ Below w.heap.size w w' := by
  have H0 := Lib.hid h0
  clear h0
  obtain ⟨wa1, wb1⟩ := wf_range wf1
  clear wf1
  by_cases hz : x0.length ≤ 1048576
  · skip
    have hz0 : x0.length ≤ 1048576 := by omega
    have hq0 : ¬ (1048576 - (x0.length : Int) : Int) < 0 := by omega
    go_enter Try.func14, Try.ntmps14
    go_wp2_with fail
    (go_at_call 31; ((with_reducible refine (szWhole_yes b0 _ _ _ (1048576) _ (by omega) (by omega)).mono ?_); rintro e w1 ⟨rfl, hb1⟩))
    have hB1 : Below w.heap.size w w1 := Below.trans (by (repeat' (first | (with_reducible exact Below.refl _ _) | (with_reducible assumption) | (with_reducible refine Below.alloc ?_ ?_ _) | (with_reducible refine Below.drew ?_) | (with_reducible refine below_drewN ?_ _) | (with_reducible refine Below.setCell ?_ ?_ _) | go_size))) (hb1.mono (by go_size))
    have q1 : w.heap.size + 1 ≤ w1.heap.size := (by have := hb1.size; (try simp at this); omega)
    have T1 := Lib.hid (show Below w.heap.size w w1 from Below.trans (by (repeat' (first | (with_reducible exact Below.refl _ _) | (with_reducible assumption) | (with_reducible refine Below.alloc ?_ ?_ _) | (with_reducible refine Below.drew ?_) | (with_reducible refine below_drewN ?_ _) | (with_reducible refine Below.setCell ?_ ?_ _) | go_size))) (hb1.mono (by go_size)))
    have XP0_1 := Lib.hid ((Box2.newAt (b := w.heap.size) w (.bool b0) (.slice P0 x0.length c0) 46 (by first | rfl | simp)).below (Below.trans (by (repeat' (first | (with_reducible exact Below.refl _ _) | (with_reducible assumption) | (with_reducible refine Below.alloc ?_ ?_ _) | (with_reducible refine Below.drew ?_) | (with_reducible refine below_drewN ?_ _) | (with_reducible refine Below.setCell ?_ ?_ _) | go_size))) (hb1.mono (by go_size))))
    obtain ⟨y2P00, y2P01, y2P02⟩ := XP0_1.out
    go_wp2_with fail
    (go_at_call 33; ((with_reducible refine (toWhole_any b0 (H0.out.below (by (repeat' (first | (with_reducible exact Below.refl _ _) | (with_reducible assumption) | (with_reducible refine Below.alloc ?_ ?_ _) | (with_reducible refine Below.drew ?_) | (with_reducible refine below_drewN ?_ _) | (with_reducible refine Below.setCell ?_ ?_ _) | go_size)))) hz0).mono ?_); rintro e w2 ⟨A2, d2, rfl, n2, hb2⟩))
    clear y2P00 y2P01 y2P02
    have hB2 : Below w.heap.size w w2 := Below.trans (by (repeat' (first | (with_reducible exact Below.refl _ _) | (with_reducible assumption) | (with_reducible refine Below.alloc ?_ ?_ _) | (with_reducible refine Below.drew ?_) | (with_reducible refine below_drewN ?_ _) | (with_reducible refine Below.setCell ?_ ?_ _) | go_size))) (hb2.mono (by go_size))
    have q2 : w1.heap.size + 0 ≤ w2.heap.size := (by have := hb2.size; (try simp at this); omega)
    have T2 := Lib.hid (show Below w1.heap.size w1 w2 from Below.trans (by (repeat' (first | (with_reducible exact Below.refl _ _) | (with_reducible assumption) | (with_reducible refine Below.alloc ?_ ?_ _) | (with_reducible refine Below.drew ?_) | (with_reducible refine below_drewN ?_ _) | (with_reducible refine Below.setCell ?_ ?_ _) | go_size))) (hb2.mono (by go_size)))
    have XP0_2 := Lib.hid (XP0_1.out.below T2.out)
    clear XP0_1
    have Lvw00 := Lib.hid (n2.lt2 (B0 := w1.heap.size + 0) (by go_size))
    have Rvw00_2 := Lib.hid (n2.mono (C := w1.heap.size + 0) (by go_size))
    clear n2
    go_wp2_with fail
    (go_at_call 50; ((with_reducible refine (spec_any b0 a1 Rvw00_2.out.holds hz0).mono ?_); rintro e w3 ⟨A3, d3, rfl, n3, hb3⟩))
    have hB3 : Below w.heap.size w w3 := Below.trans (by (repeat' (first | (with_reducible exact Below.refl _ _) | (with_reducible assumption) | (with_reducible refine Below.alloc ?_ ?_ _) | (with_reducible refine Below.drew ?_) | (with_reducible refine below_drewN ?_ _) | (with_reducible refine Below.setCell ?_ ?_ _) | go_size))) (hb3.mono (by go_size))
    have q3 : w2.heap.size + 0 ≤ w3.heap.size := (by have := hb3.size; (try simp at this); omega)
    have T3 := Lib.hid (show Below w2.heap.size w2 w3 from Below.trans (by (repeat' (first | (with_reducible exact Below.refl _ _) | (with_reducible assumption) | (with_reducible refine Below.alloc ?_ ?_ _) | (with_reducible refine Below.drew ?_) | (with_reducible refine below_drewN ?_ _) | (with_reducible refine Below.setCell ?_ ?_ _) | go_size))) (hb3.mono (by go_size)))
    have XP0_3 := Lib.hid (XP0_2.out.below T3.out)
    clear XP0_2
    have Rvw00_3 := Lib.hid (Rvw00_2.out.below T3.out)
    clear Rvw00_2
    have Lw0 := Lib.hid (n3.lt2 (B0 := w2.heap.size + 0) (by go_size))
    have Rw0_3 := Lib.hid (n3.mono (C := w2.heap.size + 0) (by go_size))
    clear n3
    clear Rvw00_3
    obtain ⟨y4P00, y4P01, y4P02⟩ := XP0_3.out
    go_wp2_with fail
    (go_at_call 33; ((with_reducible refine (toWhole_any b0 (H0.out.below (by (repeat' (first | (with_reducible exact Below.refl _ _) | (with_reducible assumption) | (with_reducible refine Below.alloc ?_ ?_ _) | (with_reducible refine Below.drew ?_) | (with_reducible refine below_drewN ?_ _) | (with_reducible refine Below.setCell ?_ ?_ _) | go_size)))) hz0).mono ?_); rintro e w4 ⟨A4, d4, rfl, n4, hb4⟩))
    clear y4P00 y4P01 y4P02
    have hB4 : Below w.heap.size w w4 := Below.trans (by (repeat' (first | (with_reducible exact Below.refl _ _) | (with_reducible assumption) | (with_reducible refine Below.alloc ?_ ?_ _) | (with_reducible refine Below.drew ?_) | (with_reducible refine below_drewN ?_ _) | (with_reducible refine Below.setCell ?_ ?_ _) | go_size))) (hb4.mono (by go_size))
    have q4 : w3.heap.size + 1 ≤ w4.heap.size := (by have := hb4.size; (try simp at this); omega)
    have T4 := Lib.hid (show Below w3.heap.size w3 w4 from Below.trans (by (repeat' (first | (with_reducible exact Below.refl _ _) | (with_reducible assumption) | (with_reducible refine Below.alloc ?_ ?_ _) | (with_reducible refine Below.drew ?_) | (with_reducible refine below_drewN ?_ _) | (with_reducible refine Below.setCell ?_ ?_ _) | go_size))) (hb4.mono (by go_size)))
    have XP0_4 := Lib.hid (XP0_3.out.below T4.out)
    clear XP0_3
    have XW0_4 := Lib.hid ((Box2.newAt (b := w3.heap.size) w3 (.bool (wneg (res b0 x0 a1))) (.slice A3 (wlimbs (res b0 x0 a1)).length d3) 49 (by first | rfl | simp)).below (Below.trans (by (repeat' (first | (with_reducible exact Below.refl _ _) | (with_reducible assumption) | (with_reducible refine Below.alloc ?_ ?_ _) | (with_reducible refine Below.drew ?_) | (with_reducible refine below_drewN ?_ _) | (with_reducible refine Below.setCell ?_ ?_ _) | go_size))) (hb4.mono (by go_size))))
    have Rw0_4 := Lib.hid (Rw0_3.out.below T4.out)
    clear Rw0_3
    have Lx0 := Lib.hid (n4.lt2 (B0 := w3.heap.size + 1) (by go_size))
    have Rx0_4 := Lib.hid (n4.mono (C := w3.heap.size + 1) (by go_size))
    clear n4
    go_wp2_with fail
    (go_at_call 51; ((with_reducible refine (impl_any b0 a1 (Rx0_4.out.below (by (repeat' (first | (with_reducible exact Below.refl _ _) | (with_reducible assumption) | (with_reducible refine Below.alloc ?_ ?_ _) | (with_reducible refine Below.drew ?_) | (with_reducible refine below_drewN ?_ _) | (with_reducible refine Below.setCell ?_ ?_ _) | go_size)))).holds hz0).mono ?_); rintro e w5 ⟨A5, d5, rfl, n5, hb5⟩))
    have hB5 : Below w.heap.size w w5 := Below.trans (by (repeat' (first | (with_reducible exact Below.refl _ _) | (with_reducible assumption) | (with_reducible refine Below.alloc ?_ ?_ _) | (with_reducible refine Below.drew ?_) | (with_reducible refine below_drewN ?_ _) | (with_reducible refine Below.setCell ?_ ?_ _) | go_size))) (hb5.mono (by go_size))
    have q5 : w4.heap.size + 1 ≤ w5.heap.size := (by have := hb5.size; (try simp at this); omega)
    have T5 := Lib.hid (show Below w4.heap.size w4 w5 from Below.trans (by (repeat' (first | (with_reducible exact Below.refl _ _) | (with_reducible assumption) | (with_reducible refine Below.alloc ?_ ?_ _) | (with_reducible refine Below.drew ?_) | (with_reducible refine below_drewN ?_ _) | (with_reducible refine Below.setCell ?_ ?_ _) | go_size))) (hb5.mono (by go_size)))
    have XP0_5 := Lib.hid (XP0_4.out.below T5.out)
    clear XP0_4
    have XW0_5 := Lib.hid (XW0_4.out.below T5.out)
    clear XW0_4
    have XX0_5 := Lib.hid ((Box2.newAt (b := w4.heap.size) w4 (.bool b0) (.slice A4 x0.length d4) 49 (by first | rfl | simp)).below (Below.trans (by (repeat' (first | (with_reducible exact Below.refl _ _) | (with_reducible assumption) | (with_reducible refine Below.alloc ?_ ?_ _) | (with_reducible refine Below.drew ?_) | (with_reducible refine below_drewN ?_ _) | (with_reducible refine Below.setCell ?_ ?_ _) | go_size))) (hb5.mono (by go_size))))
    have Rw0_5 := Lib.hid (Rw0_4.out.below T5.out)
    clear Rw0_4
    have Rx0_5 := Lib.hid (Rx0_4.out.below T5.out)
    clear Rx0_4
    have Lg0 := Lib.hid (n5.lt2 (B0 := w4.heap.size + 1) (by go_size))
    have Rg0_5 := Lib.hid (n5.mono (C := w4.heap.size + 1) (by go_size))
    clear n5
    obtain ⟨y6W00, y6W01, y6W02⟩ := XW0_5.out
    go_wp2_with fail
    (go_at_call 35; ((with_reducible refine (eqWhole_same (wneg (res b0 x0 a1)) (Rg0_5.out.below (by (repeat' (first | (with_reducible exact Below.refl _ _) | (with_reducible assumption) | (with_reducible refine Below.alloc ?_ ?_ _) | (with_reducible refine Below.drew ?_) | (with_reducible refine below_drewN ?_ _) | (with_reducible refine Below.setCell ?_ ?_ _) | go_size)))) (Rw0_5.out.below (by (repeat' (first | (with_reducible exact Below.refl _ _) | (with_reducible assumption) | (with_reducible refine Below.alloc ?_ ?_ _) | (with_reducible refine Below.drew ?_) | (with_reducible refine below_drewN ?_ _) | (with_reducible refine Below.setCell ?_ ?_ _) | go_size)))) (res_len b0 x0 a1)).mono ?_); rintro e w6 ⟨rfl, hb6⟩))
    clear y6W00 y6W01 y6W02
    have hB6 : Below w.heap.size w w6 := Below.trans (by (repeat' (first | (with_reducible exact Below.refl _ _) | (with_reducible assumption) | (with_reducible refine Below.alloc ?_ ?_ _) | (with_reducible refine Below.drew ?_) | (with_reducible refine below_drewN ?_ _) | (with_reducible refine Below.setCell ?_ ?_ _) | go_size))) (hb6.mono (by go_size))
    have q6 : w5.heap.size + 1 ≤ w6.heap.size := (by have := hb6.size; (try simp at this); omega)
    have T6 := Lib.hid (show Below w5.heap.size w5 w6 from Below.trans (by (repeat' (first | (with_reducible exact Below.refl _ _) | (with_reducible assumption) | (with_reducible refine Below.alloc ?_ ?_ _) | (with_reducible refine Below.drew ?_) | (with_reducible refine below_drewN ?_ _) | (with_reducible refine Below.setCell ?_ ?_ _) | go_size))) (hb6.mono (by go_size)))
    have XP0_6 := Lib.hid (XP0_5.out.below T6.out)
    clear XP0_5
    have XW0_6 := Lib.hid (XW0_5.out.below T6.out)
    clear XW0_5
    have XX0_6 := Lib.hid (XX0_5.out.below T6.out)
    clear XX0_5
    have XG0_6 := Lib.hid ((Box2.newAt (b := w5.heap.size) w5 (.bool (wneg (res b0 x0 a1))) (.slice A5 (wlimbs (res b0 x0 a1)).length d5) 49 (by first | rfl | simp)).below (Below.trans (by (repeat' (first | (with_reducible exact Below.refl _ _) | (with_reducible assumption) | (with_reducible refine Below.alloc ?_ ?_ _) | (with_reducible refine Below.drew ?_) | (with_reducible refine below_drewN ?_ _) | (with_reducible refine Below.setCell ?_ ?_ _) | go_size))) (hb6.mono (by go_size))))
    have Rw0_6 := Lib.hid (Rw0_5.out.below T6.out)
    clear Rw0_5
    have Rx0_6 := Lib.hid (Rx0_5.out.below T6.out)
    clear Rx0_5
    have Rg0_6 := Lib.hid (Rg0_5.out.below T6.out)
    clear Rg0_5
    obtain ⟨yr6X00, yr6X01, yr6X02⟩ := XX0_6.out
    obtain ⟨yr6P00, yr6P01, yr6P02⟩ := XP0_6.out
    go_wp2_with fail
    go_region_held3 (fun w' => w'.cell? ⟨w4.heap.size, 0, none⟩ = some (.bool b0) ∧ w'.cell? ⟨w4.heap.size, 1, none⟩ = some (.slice A4 x0.length d4) ∧ w'.cell? ⟨w.heap.size, 0, none⟩ = some (.bool b0) ∧ w'.cell? ⟨w.heap.size, 1, none⟩ = some (.slice P0 x0.length c0)) ((first | exact ⟨by with_reducible assumption, by with_reducible assumption, by with_reducible assumption, by with_reducible assumption⟩ | ((try dsimp only); (repeat' apply And.intro); all_goals (first | (with_reducible assumption) | ((try rw [drew_cell]); (repeat rw [set_far (by omega)]); (with_reducible assumption)) | (go_keep; done) | (simp [go_sem]; done))))) (first | (go_at_call 33; (with_reducible refine (toWhole_any b0 (H0.out.below (by (repeat' (first | (with_reducible exact Below.refl _ _) | (with_reducible assumption) | (with_reducible refine Below.alloc ?_ ?_ _) | (with_reducible refine Below.drew ?_) | (with_reducible refine below_drewN ?_ _) | (with_reducible refine Below.setCell ?_ ?_ _) | go_size)))) hz0).mono ?_); rintro e w7 ⟨A7, d7, rfl, n7, hb7⟩; (have hB7 : Below w.heap.size w w7 := Below.trans (by (repeat' (first | (with_reducible exact Below.refl _ _) | (with_reducible assumption) | (with_reducible refine Below.alloc ?_ ?_ _) | (with_reducible refine Below.drew ?_) | (with_reducible refine below_drewN ?_ _) | (with_reducible refine Below.setCell ?_ ?_ _) | go_size))) (hb7.mono (by go_size))); (have q7 : w6.heap.size + 0 ≤ w7.heap.size := (by have := hb7.size; (try simp at this); omega)); (have T7 := Lib.hid (show Below w6.heap.size w6 w7 from Below.trans (by (repeat' (first | (with_reducible exact Below.refl _ _) | (with_reducible assumption) | (with_reducible refine Below.alloc ?_ ?_ _) | (with_reducible refine Below.drew ?_) | (with_reducible refine below_drewN ?_ _) | (with_reducible refine Below.setCell ?_ ?_ _) | go_size))) (hb7.mono (by go_size)))); (have XP0_7 := Lib.hid (XP0_6.out.below T7.out)); clear XP0_6; (have XW0_7 := Lib.hid (XW0_6.out.below T7.out)); clear XW0_6; (have XX0_7 := Lib.hid (XX0_6.out.below T7.out)); clear XX0_6; (have XG0_7 := Lib.hid (XG0_6.out.below T7.out)); clear XG0_6; (have Rw0_7 := Lib.hid (Rw0_6.out.below T7.out)); clear Rw0_6; (have Rx0_7 := Lib.hid (Rx0_6.out.below T7.out)); clear Rx0_6; (have Rg0_7 := Lib.hid (Rg0_6.out.below T7.out)); clear Rg0_6; (have Ly0 := Lib.hid (n7.lt2 (B0 := w6.heap.size + 0) (by go_size))); (have Ry0_7 := Lib.hid (n7.mono (C := w6.heap.size + 0) (by go_size))); clear n7; obtain ⟨z7X00, z7X01, z7X02⟩ := XX0_7.out; obtain ⟨z7P00, z7P01, z7P02⟩ := XP0_7.out) | (go_at_call 35; (with_reducible refine (eqWhole_same b0 Rx0_7.out Ry0_7.out hz0).mono ?_); rintro e w8 ⟨rfl, hb8⟩; (have hB8 : Below w.heap.size w w8 := Below.trans (by (repeat' (first | (with_reducible exact Below.refl _ _) | (with_reducible assumption) | (with_reducible refine Below.alloc ?_ ?_ _) | (with_reducible refine Below.drew ?_) | (with_reducible refine below_drewN ?_ _) | (with_reducible refine Below.setCell ?_ ?_ _) | go_size))) (hb8.mono (by go_size))); (have q8 : w7.heap.size + 0 ≤ w8.heap.size := (by have := hb8.size; (try simp at this); omega)); (have T8 := Lib.hid (show Below w7.heap.size w7 w8 from Below.trans (by (repeat' (first | (with_reducible exact Below.refl _ _) | (with_reducible assumption) | (with_reducible refine Below.alloc ?_ ?_ _) | (with_reducible refine Below.drew ?_) | (with_reducible refine below_drewN ?_ _) | (with_reducible refine Below.setCell ?_ ?_ _) | go_size))) (hb8.mono (by go_size)))); (have XP0_8 := Lib.hid (XP0_7.out.below T8.out)); clear XP0_7; (have XW0_8 := Lib.hid (XW0_7.out.below T8.out)); clear XW0_7; (have XX0_8 := Lib.hid (XX0_7.out.below T8.out)); clear XX0_7; (have XG0_8 := Lib.hid (XG0_7.out.below T8.out)); clear XG0_7; (have Rw0_8 := Lib.hid (Rw0_7.out.below T8.out)); clear Rw0_7; (have Rx0_8 := Lib.hid (Rx0_7.out.below T8.out)); clear Rx0_7; (have Rg0_8 := Lib.hid (Rg0_7.out.below T8.out)); clear Rg0_7; (have Ry0_8 := Lib.hid (Ry0_7.out.below T8.out)); clear Ry0_7; obtain ⟨z8X00, z8X01, z8X02⟩ := XX0_8.out; obtain ⟨z8P00, z8P01, z8P02⟩ := XP0_8.out))
    clear z7X00 z7X01 z7X02
    clear z7P00 z7P01 z7P02
    clear z8X00 z8X01 z8X02
    clear z8P00 z8P01 z8P02
    clear yr6X00 yr6X01 yr6X02
    clear yr6P00 yr6P01 yr6P02
    clear Ry0_8
    obtain ⟨y9X00, y9X01, y9X02⟩ := XX0_8.out
    go_wp2_with fail
    (go_at_call 38; ((with_reducible refine (markWhole_any b0 (1) (Rx0_8.out) (by omega) hz0 (by omega) (by omega)).mono ?_); rintro e w9 ⟨rfl, n9, g9, hb9⟩))
    clear y9X00 y9X01 y9X02
    have hB9 : Below w.heap.size w w9 := Below.trans (by (repeat' (first | (with_reducible exact Below.refl _ _) | (with_reducible assumption) | (with_reducible refine Below.alloc ?_ ?_ _) | (with_reducible refine Below.drew ?_) | (with_reducible refine below_drewN ?_ _) | (with_reducible refine Below.setCell ?_ ?_ _) | go_size))) (hb9.mono (by omega))
    have q9 : w8.heap.size ≤ w9.heap.size := hb9.size
    have XP0_9 := Lib.hid (XP0_8.out.grown g9 (fun e => by have := Lx0.out _ e; omega))
    clear XP0_8
    have XW0_9 := Lib.hid (XW0_8.out.grown g9 (fun e => by have := Lx0.out _ e; omega))
    clear XW0_8
    have XX0_9 := Lib.hid (XX0_8.out.grown g9 (fun e => by have := Lx0.out _ e; omega))
    clear XX0_8
    have XG0_9 := Lib.hid (XG0_8.out.grown g9 (fun e => by have := Lx0.out _ e; omega))
    clear XG0_8
    have Rw0_9 := Lib.hid (Rw0_8.out.kept g9 (fun b h1 h2 => by have := Lw0.out b h1; have := Lx0.out b h2; omega))
    clear Rw0_8
    clear Rx0_8
    have Rg0_9 := Lib.hid (Rg0_8.out.kept g9 (fun b h1 h2 => by have := Lg0.out b h1; have := Lx0.out b h2; omega))
    clear Rg0_8
    clear n9 g9 hb9
    clear XX0_9
    obtain ⟨y10G00, y10G01, y10G02⟩ := XG0_9.out
    obtain ⟨y10W00, y10W01, y10W02⟩ := XW0_9.out
    go_wp2_with fail
    (go_at_call 35; ((with_reducible refine (eqWhole_same (wneg (res b0 x0 a1)) (Rg0_9.out.below (by (repeat' (first | (with_reducible exact Below.refl _ _) | (with_reducible assumption) | (with_reducible refine Below.alloc ?_ ?_ _) | (with_reducible refine Below.drew ?_) | (with_reducible refine below_drewN ?_ _) | (with_reducible refine Below.setCell ?_ ?_ _) | go_size)))) (Rw0_9.out.below (by (repeat' (first | (with_reducible exact Below.refl _ _) | (with_reducible assumption) | (with_reducible refine Below.alloc ?_ ?_ _) | (with_reducible refine Below.drew ?_) | (with_reducible refine below_drewN ?_ _) | (with_reducible refine Below.setCell ?_ ?_ _) | go_size)))) (res_len b0 x0 a1)).mono ?_); rintro e w10 ⟨rfl, hb10⟩))
    clear y10G00 y10G01 y10G02
    clear y10W00 y10W01 y10W02
    have hB10 : Below w.heap.size w w10 := Below.trans (by (repeat' (first | (with_reducible exact Below.refl _ _) | (with_reducible assumption) | (with_reducible refine Below.alloc ?_ ?_ _) | (with_reducible refine Below.drew ?_) | (with_reducible refine below_drewN ?_ _) | (with_reducible refine Below.setCell ?_ ?_ _) | go_size))) (hb10.mono (by go_size))
    have q10 : w9.heap.size + 0 ≤ w10.heap.size := (by have := hb10.size; (try simp at this); omega)
    have T10 := Lib.hid (show Below w9.heap.size w9 w10 from Below.trans (by (repeat' (first | (with_reducible exact Below.refl _ _) | (with_reducible assumption) | (with_reducible refine Below.alloc ?_ ?_ _) | (with_reducible refine Below.drew ?_) | (with_reducible refine below_drewN ?_ _) | (with_reducible refine Below.setCell ?_ ?_ _) | go_size))) (hb10.mono (by go_size)))
    have XP0_10 := Lib.hid (XP0_9.out.below T10.out)
    clear XP0_9
    have XW0_10 := Lib.hid (XW0_9.out.below T10.out)
    clear XW0_9
    have XG0_10 := Lib.hid (XG0_9.out.below T10.out)
    clear XG0_9
    have Rw0_10 := Lib.hid (Rw0_9.out.below T10.out)
    clear Rw0_9
    have Rg0_10 := Lib.hid (Rg0_9.out.below T10.out)
    clear Rg0_9
    obtain ⟨y11G00, y11G01, y11G02⟩ := XG0_10.out
    go_wp2_with fail
    (go_at_call 38; ((with_reducible refine (markWhole_any (wneg (res b0 x0 a1)) 1 (Rg0_10.out) (by omega) (res_len b0 x0 a1) (by omega) (by omega)).mono ?_); rintro e w11 ⟨rfl, n11, g11, hb11⟩))
    clear y11G00 y11G01 y11G02
    have hB11 : Below w.heap.size w w11 := Below.trans (by (repeat' (first | (with_reducible exact Below.refl _ _) | (with_reducible assumption) | (with_reducible refine Below.alloc ?_ ?_ _) | (with_reducible refine Below.drew ?_) | (with_reducible refine below_drewN ?_ _) | (with_reducible refine Below.setCell ?_ ?_ _) | go_size))) (hb11.mono (by omega))
    have q11 : w10.heap.size ≤ w11.heap.size := hb11.size
    have XP0_11 := Lib.hid (XP0_10.out.grown g11 (fun e => by have := Lg0.out _ e; omega))
    clear XP0_10
    have XW0_11 := Lib.hid (XW0_10.out.grown g11 (fun e => by have := Lg0.out _ e; omega))
    clear XW0_10
    have XG0_11 := Lib.hid (XG0_10.out.grown g11 (fun e => by have := Lg0.out _ e; omega))
    clear XG0_10
    have Rw0_11 := Lib.hid (Rw0_10.out.kept g11 (fun b h1 h2 => by have := Lw0.out b h1; have := Lg0.out b h2; omega))
    clear Rw0_10
    clear Rg0_10
    have Rg1_11 := Lib.hid n11
    have Lg1 := Lg0
    clear n11 g11 hb11
    obtain ⟨y12G00, y12G01, y12G02⟩ := XG0_11.out
    go_wp2_with fail
    (go_at_call 39; ((with_reducible refine (heldWhole_any (wneg (res b0 x0 a1)) 1 (Rg1_11.out.below (by (repeat' (first | (with_reducible exact Below.refl _ _) | (with_reducible assumption) | (with_reducible refine Below.alloc ?_ ?_ _) | (with_reducible refine Below.drew ?_) | (with_reducible refine below_drewN ?_ _) | (with_reducible refine Below.setCell ?_ ?_ _) | go_size)))) (res_len b0 x0 a1) (by omega) (by omega)).mono ?_); rintro e w12 ⟨rfl, hb12⟩))
    clear y12G00 y12G01 y12G02
    have hB12 : Below w.heap.size w w12 := Below.trans (by (repeat' (first | (with_reducible exact Below.refl _ _) | (with_reducible assumption) | (with_reducible refine Below.alloc ?_ ?_ _) | (with_reducible refine Below.drew ?_) | (with_reducible refine below_drewN ?_ _) | (with_reducible refine Below.setCell ?_ ?_ _) | go_size))) (hb12.mono (by go_size))
    have q12 : w11.heap.size + 0 ≤ w12.heap.size := (by have := hb12.size; (try simp at this); omega)
    have T12 := Lib.hid (show Below w11.heap.size w11 w12 from Below.trans (by (repeat' (first | (with_reducible exact Below.refl _ _) | (with_reducible assumption) | (with_reducible refine Below.alloc ?_ ?_ _) | (with_reducible refine Below.drew ?_) | (with_reducible refine below_drewN ?_ _) | (with_reducible refine Below.setCell ?_ ?_ _) | go_size))) (hb12.mono (by go_size)))
    have XP0_12 := Lib.hid (XP0_11.out.below T12.out)
    clear XP0_11
    have XW0_12 := Lib.hid (XW0_11.out.below T12.out)
    clear XW0_11
    have XG0_12 := Lib.hid (XG0_11.out.below T12.out)
    clear XG0_11
    have Rw0_12 := Lib.hid (Rw0_11.out.below T12.out)
    clear Rw0_11
    have Rg1_12 := Lib.hid (Rg1_11.out.below T12.out)
    clear Rg1_11
    obtain ⟨y13P00, y13P01, y13P02⟩ := XP0_12.out
    go_wp2_with fail
    (go_at_call 33; ((with_reducible refine (toWhole_any b0 (H0.out.below (by (repeat' (first | (with_reducible exact Below.refl _ _) | (with_reducible assumption) | (with_reducible refine Below.alloc ?_ ?_ _) | (with_reducible refine Below.drew ?_) | (with_reducible refine below_drewN ?_ _) | (with_reducible refine Below.setCell ?_ ?_ _) | go_size)))) hz0).mono ?_); rintro e w13 ⟨A13, d13, rfl, n13, hb13⟩))
    clear y13P00 y13P01 y13P02
    have hB13 : Below w.heap.size w w13 := Below.trans (by (repeat' (first | (with_reducible exact Below.refl _ _) | (with_reducible assumption) | (with_reducible refine Below.alloc ?_ ?_ _) | (with_reducible refine Below.drew ?_) | (with_reducible refine below_drewN ?_ _) | (with_reducible refine Below.setCell ?_ ?_ _) | go_size))) (hb13.mono (by go_size))
    have q13 : w12.heap.size + 0 ≤ w13.heap.size := (by have := hb13.size; (try simp at this); omega)
    have T13 := Lib.hid (show Below w12.heap.size w12 w13 from Below.trans (by (repeat' (first | (with_reducible exact Below.refl _ _) | (with_reducible assumption) | (with_reducible refine Below.alloc ?_ ?_ _) | (with_reducible refine Below.drew ?_) | (with_reducible refine below_drewN ?_ _) | (with_reducible refine Below.setCell ?_ ?_ _) | go_size))) (hb13.mono (by go_size)))
    have XP0_13 := Lib.hid (XP0_12.out.below T13.out)
    clear XP0_12
    have XW0_13 := Lib.hid (XW0_12.out.below T13.out)
    clear XW0_12
    have XG0_13 := Lib.hid (XG0_12.out.below T13.out)
    clear XG0_12
    have Rw0_13 := Lib.hid (Rw0_12.out.below T13.out)
    clear Rw0_12
    have Rg1_13 := Lib.hid (Rg1_12.out.below T13.out)
    clear Rg1_12
    have Lvh00 := Lib.hid (n13.lt2 (B0 := w12.heap.size + 0) (by go_size))
    have Rvh00_13 := Lib.hid (n13.mono (C := w12.heap.size + 0) (by go_size))
    clear n13
    go_wp2_with fail
    (go_at_call 51; ((with_reducible refine (impl_any b0 a1 Rvh00_13.out.holds hz0).mono ?_); rintro e w14 ⟨A14, d14, rfl, n14, hb14⟩))
    have hB14 : Below w.heap.size w w14 := Below.trans (by (repeat' (first | (with_reducible exact Below.refl _ _) | (with_reducible assumption) | (with_reducible refine Below.alloc ?_ ?_ _) | (with_reducible refine Below.drew ?_) | (with_reducible refine below_drewN ?_ _) | (with_reducible refine Below.setCell ?_ ?_ _) | go_size))) (hb14.mono (by go_size))
    have q14 : w13.heap.size + 0 ≤ w14.heap.size := (by have := hb14.size; (try simp at this); omega)
    have T14 := Lib.hid (show Below w13.heap.size w13 w14 from Below.trans (by (repeat' (first | (with_reducible exact Below.refl _ _) | (with_reducible assumption) | (with_reducible refine Below.alloc ?_ ?_ _) | (with_reducible refine Below.drew ?_) | (with_reducible refine below_drewN ?_ _) | (with_reducible refine Below.setCell ?_ ?_ _) | go_size))) (hb14.mono (by go_size)))
    have XP0_14 := Lib.hid (XP0_13.out.below T14.out)
    clear XP0_13
    have XW0_14 := Lib.hid (XW0_13.out.below T14.out)
    clear XW0_13
    have XG0_14 := Lib.hid (XG0_13.out.below T14.out)
    clear XG0_13
    have Rw0_14 := Lib.hid (Rw0_13.out.below T14.out)
    clear Rw0_13
    have Rg1_14 := Lib.hid (Rg1_13.out.below T14.out)
    clear Rg1_13
    have Rvh00_14 := Lib.hid (Rvh00_13.out.below T14.out)
    clear Rvh00_13
    have Lh0 := Lib.hid (n14.lt2 (B0 := w13.heap.size + 0) (by go_size))
    have Rh0_14 := Lib.hid (n14.mono (C := w13.heap.size + 0) (by go_size))
    clear n14
    clear Rvh00_14
    obtain ⟨y15W00, y15W01, y15W02⟩ := XW0_14.out
    go_wp2_with fail
    (go_at_call 35; ((with_reducible refine (eqWhole_same (wneg (res b0 x0 a1)) (Rh0_14.out.below (by (repeat' (first | (with_reducible exact Below.refl _ _) | (with_reducible assumption) | (with_reducible refine Below.alloc ?_ ?_ _) | (with_reducible refine Below.drew ?_) | (with_reducible refine below_drewN ?_ _) | (with_reducible refine Below.setCell ?_ ?_ _) | go_size)))) (Rw0_14.out.below (by (repeat' (first | (with_reducible exact Below.refl _ _) | (with_reducible assumption) | (with_reducible refine Below.alloc ?_ ?_ _) | (with_reducible refine Below.drew ?_) | (with_reducible refine below_drewN ?_ _) | (with_reducible refine Below.setCell ?_ ?_ _) | go_size)))) (res_len b0 x0 a1)).mono ?_); rintro e w15 ⟨rfl, hb15⟩))
    clear y15W00 y15W01 y15W02
    have hB15 : Below w.heap.size w w15 := Below.trans (by (repeat' (first | (with_reducible exact Below.refl _ _) | (with_reducible assumption) | (with_reducible refine Below.alloc ?_ ?_ _) | (with_reducible refine Below.drew ?_) | (with_reducible refine below_drewN ?_ _) | (with_reducible refine Below.setCell ?_ ?_ _) | go_size))) (hb15.mono (by go_size))
    have q15 : w14.heap.size + 1 ≤ w15.heap.size := (by have := hb15.size; (try simp at this); omega)
    have T15 := Lib.hid (show Below w14.heap.size w14 w15 from Below.trans (by (repeat' (first | (with_reducible exact Below.refl _ _) | (with_reducible assumption) | (with_reducible refine Below.alloc ?_ ?_ _) | (with_reducible refine Below.drew ?_) | (with_reducible refine below_drewN ?_ _) | (with_reducible refine Below.setCell ?_ ?_ _) | go_size))) (hb15.mono (by go_size)))
    have XP0_15 := Lib.hid (XP0_14.out.below T15.out)
    clear XP0_14
    have XW0_15 := Lib.hid (XW0_14.out.below T15.out)
    clear XW0_14
    have XG0_15 := Lib.hid (XG0_14.out.below T15.out)
    clear XG0_14
    have XH0_15 := Lib.hid ((Box2.newAt (b := w14.heap.size) w14 (.bool (wneg (res b0 x0 a1))) (.slice A14 (wlimbs (res b0 x0 a1)).length d14) 49 (by first | rfl | simp)).below (Below.trans (by (repeat' (first | (with_reducible exact Below.refl _ _) | (with_reducible assumption) | (with_reducible refine Below.alloc ?_ ?_ _) | (with_reducible refine Below.drew ?_) | (with_reducible refine below_drewN ?_ _) | (with_reducible refine Below.setCell ?_ ?_ _) | go_size))) (hb15.mono (by go_size))))
    have Rw0_15 := Lib.hid (Rw0_14.out.below T15.out)
    clear Rw0_14
    have Rg1_15 := Lib.hid (Rg1_14.out.below T15.out)
    clear Rg1_14
    have Rh0_15 := Lib.hid (Rh0_14.out.below T15.out)
    clear Rh0_14
    obtain ⟨y16G00, y16G01, y16G02⟩ := XG0_15.out
    go_wp2_with fail
    (go_at_call 39; ((with_reducible refine (heldWhole_any (wneg (res b0 x0 a1)) 1 (Rg1_15.out.below (by (repeat' (first | (with_reducible exact Below.refl _ _) | (with_reducible assumption) | (with_reducible refine Below.alloc ?_ ?_ _) | (with_reducible refine Below.drew ?_) | (with_reducible refine below_drewN ?_ _) | (with_reducible refine Below.setCell ?_ ?_ _) | go_size)))) (res_len b0 x0 a1) (by omega) (by omega)).mono ?_); rintro e w16 ⟨rfl, hb16⟩))
    clear y16G00 y16G01 y16G02
    have hB16 : Below w.heap.size w w16 := Below.trans (by (repeat' (first | (with_reducible exact Below.refl _ _) | (with_reducible assumption) | (with_reducible refine Below.alloc ?_ ?_ _) | (with_reducible refine Below.drew ?_) | (with_reducible refine below_drewN ?_ _) | (with_reducible refine Below.setCell ?_ ?_ _) | go_size))) (hb16.mono (by go_size))
    have q16 : w15.heap.size + 0 ≤ w16.heap.size := (by have := hb16.size; (try simp at this); omega)
    have T16 := Lib.hid (show Below w15.heap.size w15 w16 from Below.trans (by (repeat' (first | (with_reducible exact Below.refl _ _) | (with_reducible assumption) | (with_reducible refine Below.alloc ?_ ?_ _) | (with_reducible refine Below.drew ?_) | (with_reducible refine below_drewN ?_ _) | (with_reducible refine Below.setCell ?_ ?_ _) | go_size))) (hb16.mono (by go_size)))
    have XP0_16 := Lib.hid (XP0_15.out.below T16.out)
    clear XP0_15
    have XW0_16 := Lib.hid (XW0_15.out.below T16.out)
    clear XW0_15
    have XG0_16 := Lib.hid (XG0_15.out.below T16.out)
    clear XG0_15
    have XH0_16 := Lib.hid (XH0_15.out.below T16.out)
    clear XH0_15
    have Rw0_16 := Lib.hid (Rw0_15.out.below T16.out)
    clear Rw0_15
    have Rg1_16 := Lib.hid (Rg1_15.out.below T16.out)
    clear Rg1_15
    have Rh0_16 := Lib.hid (Rh0_15.out.below T16.out)
    clear Rh0_15
    go_wp2
    go_ret
    exact ⟨rfl, by repeat' (first | (with_reducible exact Below.refl _ _) | (with_reducible assumption) | (with_reducible refine Below.alloc ?_ ?_ _) | (with_reducible refine Below.drew ?_) | (with_reducible refine below_drewN ?_ _) | (with_reducible refine Below.setCell ?_ ?_ _) | go_size)⟩
  · skip
    go_enter Try.func14, Try.ntmps14
    go_wp2_with (go_at_call 31; refine (szWhole_no b0 P0 _ c0 1048576 _ hm0 (by omega) (by omega) (by omega)).mono ?_; rintro e w1 ⟨rfl, hb1⟩; obtain ⟨hc1, hf1⟩ := bcell hb1; have hB1 : Below w.heap.size w w1 := Below.trans (by repeat' (first | (with_reducible exact Below.refl _ _) | (with_reducible assumption) | (with_reducible refine Below.alloc ?_ ?_ _) | (with_reducible refine Below.drew ?_) | (with_reducible refine below_drewN ?_ _) | (with_reducible refine Below.setCell ?_ ?_ _) | go_size)) (hb1.mono (by go_size)); (have hs1 := hb1.size); (try simp at hs1); (try (have hl1 := Nat.lt_of_succ_le hs1)); (first | (have hz1 : w.heap.size < w1.heap.size := by omega) | (have hz1 : w.heap.size ≤ w1.heap.size := by omega)); (try (have hz2_1 : w2.heap.size < w1.heap.size := by omega)); (try (have hz3_1 : w3.heap.size < w1.heap.size := by omega)); (try (have hz4_1 : w4.heap.size < w1.heap.size := by omega)); (try (have hz5_1 : w5.heap.size < w1.heap.size := by omega)); (try (have hzc_1 : wc.heap.size < w1.heap.size := by omega)); (try (have hy1_1 : w.heap.size + 1 < w1.heap.size := by omega)); (try (have hy2_1 : w.heap.size + 2 < w1.heap.size := by omega)); (try (have hy3_1 : w.heap.size + 3 < w1.heap.size := by omega)))
    go_ret
    exact ⟨rfl, by repeat' (first | (with_reducible exact Below.refl _ _) | (with_reducible assumption) | (with_reducible refine Below.alloc ?_ ?_ _) | (with_reducible refine Below.drew ?_) | (with_reducible refine below_drewN ?_ _) | (with_reducible refine Below.setCell ?_ ?_ _) | go_size)⟩
end Go.Proofs.Ytfaglhhkcgjbnaa.Dw
