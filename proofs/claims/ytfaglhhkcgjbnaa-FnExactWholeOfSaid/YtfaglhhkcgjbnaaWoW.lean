/- impl.WholeOf and spec.WholeOf; the walk of FnExactWholeOf. -/
import Derived.Test.YtfaglhhkcgjbnaaWhKit
namespace Go.Proofs.Ytfaglhhkcgjbnaa.Wo
open Go.RowKit
set_option linter.unusedVariables false
set_option linter.unusedSimpArgs false
def okB (n : Int) : Bool := inB n (-1000000000000000) 1000000000000000
def res (n : Int) : Int := ifZ (okB n) n
theorem res_len (n : Int) : (wlimbs (res n)).length ≤ 1048576 := by
  unfold res
  rcases Bool.eq_false_or_eq_true (okB n) with h | h
  · rw [h, ifZ_yes]
    have := small_len (inB_iff.1 h).1 (inB_iff.1 h).2
    omega
  · rw [h, ifZ_no, wlimbs_zero]; simp
theorem impl_any (n : Int) (w : World) :
    Calls Try.prog 37 #[.int .i64 n] w fun e w' => ∃ A c, e = .returned (.tuple #[.agg #[.bool (wneg (res n)), .slice A (wlimbs (res n)).length c], .bool (okB n)]) ∧ Nums w' w.heap.size (.slice A (wlimbs (res n)).length c) (wlimbs (res n)) ∧ Below w.heap.size w w' := by
  rcases Bool.eq_false_or_eq_true (okB n) with h | h
  · have HZ := Lib.hid (show res n = n by unfold res; rw [h, ifZ_yes])
    have HO := Lib.hid h
    have hi : inB n (-1000000000000000) 1000000000000000 = true := h
    obtain ⟨h0, h1⟩ := inB_iff.1 h
    clear h
    rw [HZ.out, HO.out]
    go_enter Try.func37, Try.ntmps37
    go_wp2_with (first | (go_at_call 54; refine (inside_any _ _ _ _).mono ?_; rintro e w' ⟨rfl, rfl⟩) | (go_at_call 72; refine (wholeOf_any n h0 h1 _).mono ?_; rintro e w2 ⟨A2, d2, rfl, n2, hb2⟩; have N2 := Lib.hid n2; clear n2; obtain ⟨hc2, hf2⟩ := bcell hb2; have hB2 : Below w.heap.size w w2 := Below.trans (by repeat' (first | (with_reducible exact Below.refl _ _) | (with_reducible assumption) | (with_reducible refine Below.alloc ?_ ?_ _) | (with_reducible refine Below.drew ?_) | (with_reducible refine below_drewN ?_ _) | (with_reducible refine Below.setCell ?_ ?_ _) | go_size)) (hb2.mono (by go_size)); (have hs2 := hb2.size); (try simp at hs2); (try (have hl2 := Nat.lt_of_succ_le hs2)); (first | (have hz2 : w.heap.size < w2.heap.size := by omega) | (have hz2 : w.heap.size ≤ w2.heap.size := by omega)); (try (have hz1_2 : w1.heap.size < w2.heap.size := by omega)); (try (have hz3_2 : w3.heap.size < w2.heap.size := by omega)); (try (have hz4_2 : w4.heap.size < w2.heap.size := by omega)); (try (have hz5_2 : w5.heap.size < w2.heap.size := by omega)); (try (have hzc_2 : wc.heap.size < w2.heap.size := by omega)); (try (have hy1_2 : w.heap.size + 1 < w2.heap.size := by omega)); (try (have hy2_2 : w.heap.size + 2 < w2.heap.size := by omega)); (try (have hy3_2 : w.heap.size + 3 < w2.heap.size := by omega)); (have k2_0 : w2.cell? ⟨w.heap.size, 0, none⟩ = some (.bool false) := by (rw [hb2.cell (by first | (simp; done) | (simp; omega) | omega)]; first | assumption | (simp [go_sem]; done) | (simp [*, go_sem]; done))); (have k2_1 : w2.cell? ⟨w.heap.size, 1, none⟩ = some (.slice none 0 0) := by (rw [hb2.cell (by first | (simp; done) | (simp; omega) | omega)]; first | assumption | (simp [go_sem]; done) | (simp [*, go_sem]; done))); (have k2_2 : w2.frozen? ⟨w.heap.size, 0, none⟩ = false := by (rw [hb2.frozen (by first | (simp; done) | (simp; omega) | omega)]; first | assumption | (simp [go_sem]; done) | (simp [*, go_sem]; done))); (have k2_3 : w2.frozen? ⟨w.heap.size, 1, none⟩ = false := by (rw [hb2.frozen (by first | (simp; done) | (simp; omega) | omega)]; first | assumption | (simp [go_sem]; done) | (simp [*, go_sem]; done)))))
    refine bodyPost_ret (by simp [results, Try.results37, go_sem, *]; try rfl) rfl ?_
    exact ⟨A2, d2, rfl, ((N2.out.setBelow (by first | omega | (simp; done) | (simp; omega)) _).setBelow (by first | omega | (simp; done) | (simp; omega)) _).mono (by first | omega | (simp; done) | (simp; omega)), by repeat' (first | (with_reducible exact Below.refl _ _) | (with_reducible assumption) | (with_reducible refine Below.alloc ?_ ?_ _) | (with_reducible refine Below.drew ?_) | (with_reducible refine below_drewN ?_ _) | (with_reducible refine Below.setCell ?_ ?_ _) | go_size)⟩
  · have HZ := Lib.hid (show res n = 0 by unfold res; rw [h, ifZ_no])
    have HO := Lib.hid h
    have hi : inB n (-1000000000000000) 1000000000000000 = false := h
    clear h
    rw [HZ.out, HO.out, wlimbs_zero]
    go_enter Try.func37, Try.ntmps37
    go_wp2_with (go_at_call 54; refine (inside_any _ _ _ _).mono ?_; rintro e w' ⟨rfl, rfl⟩)
    refine bodyPost_ret (by simp [results, Try.results37, go_sem, *]; try rfl) rfl ?_
    exact ⟨none, 0, rfl, Nums.nil _ _, by repeat' (first | (with_reducible exact Below.refl _ _) | (with_reducible assumption) | (with_reducible refine Below.alloc ?_ ?_ _) | (with_reducible refine Below.drew ?_) | (with_reducible refine below_drewN ?_ _) | (with_reducible refine Below.setCell ?_ ?_ _) | go_size)⟩
theorem spec_any (n : Int) (w : World) :
    Calls Try.prog 36 #[.int .i64 n] w fun e w' => ∃ A c, e = .returned (.tuple #[.agg #[.bool (wneg (res n)), .slice A (wlimbs (res n)).length c], .bool (okB n)]) ∧ Nums w' w.heap.size (.slice A (wlimbs (res n)).length c) (wlimbs (res n)) ∧ Below w.heap.size w w' := by
  rcases Bool.eq_false_or_eq_true (okB n) with h | h
  · have HZ := Lib.hid (show res n = n by unfold res; rw [h, ifZ_yes])
    have HO := Lib.hid h
    have hi : inB n (-1000000000000000) 1000000000000000 = true := h
    obtain ⟨h0, h1⟩ := inB_iff.1 h
    clear h
    rw [HZ.out, HO.out]
    go_enter Try.func36, Try.ntmps36
    go_wp2_with (first | (go_at_call 52; refine (l1In_any _ _ _ _).mono ?_; rintro e w' ⟨rfl, rfl⟩) | (go_at_call 71; refine (bgOf_any n h0 h1 _).mono ?_; rintro e w2 ⟨A2, d2, rfl, n2, hb2⟩; have N2 := Lib.hid n2; clear n2; obtain ⟨hc2, hf2⟩ := bcell hb2; have hB2 : Below w.heap.size w w2 := Below.trans (by repeat' (first | (with_reducible exact Below.refl _ _) | (with_reducible assumption) | (with_reducible refine Below.alloc ?_ ?_ _) | (with_reducible refine Below.drew ?_) | (with_reducible refine below_drewN ?_ _) | (with_reducible refine Below.setCell ?_ ?_ _) | go_size)) (hb2.mono (by go_size)); (have hs2 := hb2.size); (try simp at hs2); (try (have hl2 := Nat.lt_of_succ_le hs2)); (first | (have hz2 : w.heap.size < w2.heap.size := by omega) | (have hz2 : w.heap.size ≤ w2.heap.size := by omega)); (try (have hz1_2 : w1.heap.size < w2.heap.size := by omega)); (try (have hz3_2 : w3.heap.size < w2.heap.size := by omega)); (try (have hz4_2 : w4.heap.size < w2.heap.size := by omega)); (try (have hz5_2 : w5.heap.size < w2.heap.size := by omega)); (try (have hzc_2 : wc.heap.size < w2.heap.size := by omega)); (try (have hy1_2 : w.heap.size + 1 < w2.heap.size := by omega)); (try (have hy2_2 : w.heap.size + 2 < w2.heap.size := by omega)); (try (have hy3_2 : w.heap.size + 3 < w2.heap.size := by omega)); (have k2_0 : w2.cell? ⟨w.heap.size, 0, none⟩ = some (.bool false) := by (rw [hb2.cell (by first | (simp; done) | (simp; omega) | omega)]; first | assumption | (simp [go_sem]; done) | (simp [*, go_sem]; done))); (have k2_1 : w2.cell? ⟨w.heap.size, 1, none⟩ = some (.slice none 0 0) := by (rw [hb2.cell (by first | (simp; done) | (simp; omega) | omega)]; first | assumption | (simp [go_sem]; done) | (simp [*, go_sem]; done))); (have k2_2 : w2.frozen? ⟨w.heap.size, 0, none⟩ = false := by (rw [hb2.frozen (by first | (simp; done) | (simp; omega) | omega)]; first | assumption | (simp [go_sem]; done) | (simp [*, go_sem]; done))); (have k2_3 : w2.frozen? ⟨w.heap.size, 1, none⟩ = false := by (rw [hb2.frozen (by first | (simp; done) | (simp; omega) | omega)]; first | assumption | (simp [go_sem]; done) | (simp [*, go_sem]; done)))))
    refine bodyPost_ret (by simp [results, Try.results36, go_sem, *]; try rfl) rfl ?_
    exact ⟨A2, d2, rfl, ((N2.out.setBelow (by first | omega | (simp; done) | (simp; omega)) _).setBelow (by first | omega | (simp; done) | (simp; omega)) _).mono (by first | omega | (simp; done) | (simp; omega)), by repeat' (first | (with_reducible exact Below.refl _ _) | (with_reducible assumption) | (with_reducible refine Below.alloc ?_ ?_ _) | (with_reducible refine Below.drew ?_) | (with_reducible refine below_drewN ?_ _) | (with_reducible refine Below.setCell ?_ ?_ _) | go_size)⟩
  · have HZ := Lib.hid (show res n = 0 by unfold res; rw [h, ifZ_no])
    have HO := Lib.hid h
    have hi : inB n (-1000000000000000) 1000000000000000 = false := h
    clear h
    rw [HZ.out, HO.out, wlimbs_zero]
    go_enter Try.func36, Try.ntmps36
    go_wp2_with (go_at_call 52; refine (l1In_any _ _ _ _).mono ?_; rintro e w' ⟨rfl, rfl⟩)
    refine bodyPost_ret (by simp [results, Try.results36, go_sem, *]; try rfl) rfl ?_
    exact ⟨none, 0, rfl, Nums.nil _ _, by repeat' (first | (with_reducible exact Below.refl _ _) | (with_reducible assumption) | (with_reducible refine Below.alloc ?_ ?_ _) | (with_reducible refine Below.drew ?_) | (with_reducible refine below_drewN ?_ _) | (with_reducible refine Below.setCell ?_ ?_ _) | go_size)⟩
set_option maxHeartbeats 8000000 in
theorem walk (a0 : Int) (wf0 : (Lit.int .i64 a0).wf = true) (w : World) :
    Calls Try.prog 8 #[.int .i64 a0] w fun e w' => e = .returned (.bool true) ∧ Below w.heap.size w w' := by
  obtain ⟨wa0, wb0⟩ := wf_range wf0
  clear wf0
  skip
  go_enter Try.func8, Try.ntmps8
  go_wp2_with fail
  (go_at_call 36; ((with_reducible refine (spec_any a0 _).mono ?_); rintro e w1 ⟨A1, d1, rfl, n1, hb1⟩))
  have hB1 : Below w.heap.size w w1 := Below.trans (by (repeat' (first | (with_reducible exact Below.refl _ _) | (with_reducible assumption) | (with_reducible refine Below.alloc ?_ ?_ _) | (with_reducible refine Below.drew ?_) | (with_reducible refine below_drewN ?_ _) | (with_reducible refine Below.setCell ?_ ?_ _) | go_size))) (hb1.mono (by go_size))
  have q1 : w.heap.size + 0 ≤ w1.heap.size := (by have := hb1.size; (try simp at this); omega)
  have T1 := Lib.hid (show Below w.heap.size w w1 from Below.trans (by (repeat' (first | (with_reducible exact Below.refl _ _) | (with_reducible assumption) | (with_reducible refine Below.alloc ?_ ?_ _) | (with_reducible refine Below.drew ?_) | (with_reducible refine below_drewN ?_ _) | (with_reducible refine Below.setCell ?_ ?_ _) | go_size))) (hb1.mono (by go_size)))
  have Lw0 := Lib.hid (n1.lt2 (B0 := w.heap.size + 0) (by go_size))
  have Rw0_1 := Lib.hid (n1.mono (C := w.heap.size + 0) (by go_size))
  clear n1
  go_wp2_with fail
  (go_at_call 37; ((with_reducible refine (impl_any a0 _).mono ?_); rintro e w2 ⟨A2, d2, rfl, n2, hb2⟩))
  have hB2 : Below w.heap.size w w2 := Below.trans (by (repeat' (first | (with_reducible exact Below.refl _ _) | (with_reducible assumption) | (with_reducible refine Below.alloc ?_ ?_ _) | (with_reducible refine Below.drew ?_) | (with_reducible refine below_drewN ?_ _) | (with_reducible refine Below.setCell ?_ ?_ _) | go_size))) (hb2.mono (by go_size))
  have q2 : w1.heap.size + 1 ≤ w2.heap.size := (by have := hb2.size; (try simp at this); omega)
  have T2 := Lib.hid (show Below w1.heap.size w1 w2 from Below.trans (by (repeat' (first | (with_reducible exact Below.refl _ _) | (with_reducible assumption) | (with_reducible refine Below.alloc ?_ ?_ _) | (with_reducible refine Below.drew ?_) | (with_reducible refine below_drewN ?_ _) | (with_reducible refine Below.setCell ?_ ?_ _) | go_size))) (hb2.mono (by go_size)))
  have XW0_2 := Lib.hid ((Box2.new w1 (.bool (wneg (res a0))) (.slice A1 (wlimbs (res a0)).length d1) 49).below (Below.trans (by (repeat' (first | (with_reducible exact Below.refl _ _) | (with_reducible assumption) | (with_reducible refine Below.alloc ?_ ?_ _) | (with_reducible refine Below.drew ?_) | (with_reducible refine below_drewN ?_ _) | (with_reducible refine Below.setCell ?_ ?_ _) | go_size))) (hb2.mono (by go_size))))
  have Rw0_2 := Lib.hid (Rw0_1.out.below T2.out)
  clear Rw0_1
  have Lg0 := Lib.hid (n2.lt2 (B0 := w1.heap.size + 1) (by go_size))
  have Rg0_2 := Lib.hid (n2.mono (C := w1.heap.size + 1) (by go_size))
  clear n2
  obtain ⟨y3W00, y3W01, y3W02⟩ := XW0_2.out
  go_wp2_with fail
  (go_at_call 35; ((with_reducible refine (eqWhole_same (wneg (res a0)) (Rg0_2.out.below (by (repeat' (first | (with_reducible exact Below.refl _ _) | (with_reducible assumption) | (with_reducible refine Below.alloc ?_ ?_ _) | (with_reducible refine Below.drew ?_) | (with_reducible refine below_drewN ?_ _) | (with_reducible refine Below.setCell ?_ ?_ _) | go_size)))) (Rw0_2.out.below (by (repeat' (first | (with_reducible exact Below.refl _ _) | (with_reducible assumption) | (with_reducible refine Below.alloc ?_ ?_ _) | (with_reducible refine Below.drew ?_) | (with_reducible refine below_drewN ?_ _) | (with_reducible refine Below.setCell ?_ ?_ _) | go_size)))) (res_len a0)).mono ?_); rintro e w3 ⟨rfl, hb3⟩))
  clear y3W00 y3W01 y3W02
  have hB3 : Below w.heap.size w w3 := Below.trans (by (repeat' (first | (with_reducible exact Below.refl _ _) | (with_reducible assumption) | (with_reducible refine Below.alloc ?_ ?_ _) | (with_reducible refine Below.drew ?_) | (with_reducible refine below_drewN ?_ _) | (with_reducible refine Below.setCell ?_ ?_ _) | go_size))) (hb3.mono (by go_size))
  have q3 : w2.heap.size + 1 ≤ w3.heap.size := (by have := hb3.size; (try simp at this); omega)
  have T3 := Lib.hid (show Below w2.heap.size w2 w3 from Below.trans (by (repeat' (first | (with_reducible exact Below.refl _ _) | (with_reducible assumption) | (with_reducible refine Below.alloc ?_ ?_ _) | (with_reducible refine Below.drew ?_) | (with_reducible refine below_drewN ?_ _) | (with_reducible refine Below.setCell ?_ ?_ _) | go_size))) (hb3.mono (by go_size)))
  have XW0_3 := Lib.hid (XW0_2.out.below T3.out)
  clear XW0_2
  have XG0_3 := Lib.hid ((Box2.new w2 (.bool (wneg (res a0))) (.slice A2 (wlimbs (res a0)).length d2) 49).below (Below.trans (by (repeat' (first | (with_reducible exact Below.refl _ _) | (with_reducible assumption) | (with_reducible refine Below.alloc ?_ ?_ _) | (with_reducible refine Below.drew ?_) | (with_reducible refine below_drewN ?_ _) | (with_reducible refine Below.setCell ?_ ?_ _) | go_size))) (hb3.mono (by go_size))))
  have Rw0_3 := Lib.hid (Rw0_2.out.below T3.out)
  clear Rw0_2
  have Rg0_3 := Lib.hid (Rg0_2.out.below T3.out)
  clear Rg0_2
  obtain ⟨y4G00, y4G01, y4G02⟩ := XG0_3.out
  go_wp2_with fail
  (go_at_call 38; ((with_reducible refine (markWhole_any (wneg (res a0)) 1 (Rg0_3.out) (by omega) (res_len a0) (by omega) (by omega)).mono ?_); rintro e w4 ⟨rfl, n4, g4, hb4⟩))
  clear y4G00 y4G01 y4G02
  have hB4 : Below w.heap.size w w4 := Below.trans (by (repeat' (first | (with_reducible exact Below.refl _ _) | (with_reducible assumption) | (with_reducible refine Below.alloc ?_ ?_ _) | (with_reducible refine Below.drew ?_) | (with_reducible refine below_drewN ?_ _) | (with_reducible refine Below.setCell ?_ ?_ _) | go_size))) (hb4.mono (by omega))
  have q4 : w3.heap.size ≤ w4.heap.size := hb4.size
  have XW0_4 := Lib.hid (XW0_3.out.grown g4 (fun e => by have := Lg0.out _ e; omega))
  clear XW0_3
  have XG0_4 := Lib.hid (XG0_3.out.grown g4 (fun e => by have := Lg0.out _ e; omega))
  clear XG0_3
  have Rw0_4 := Lib.hid (Rw0_3.out.kept g4 (fun b h1 h2 => by have := Lw0.out b h1; have := Lg0.out b h2; omega))
  clear Rw0_3
  clear Rg0_3
  have Rg1_4 := Lib.hid n4
  have Lg1 := Lg0
  clear n4 g4 hb4
  obtain ⟨y5G00, y5G01, y5G02⟩ := XG0_4.out
  go_wp2_with fail
  (go_at_call 39; ((with_reducible refine (heldWhole_any (wneg (res a0)) 1 (Rg1_4.out.below (by (repeat' (first | (with_reducible exact Below.refl _ _) | (with_reducible assumption) | (with_reducible refine Below.alloc ?_ ?_ _) | (with_reducible refine Below.drew ?_) | (with_reducible refine below_drewN ?_ _) | (with_reducible refine Below.setCell ?_ ?_ _) | go_size)))) (res_len a0) (by omega) (by omega)).mono ?_); rintro e w5 ⟨rfl, hb5⟩))
  clear y5G00 y5G01 y5G02
  have hB5 : Below w.heap.size w w5 := Below.trans (by (repeat' (first | (with_reducible exact Below.refl _ _) | (with_reducible assumption) | (with_reducible refine Below.alloc ?_ ?_ _) | (with_reducible refine Below.drew ?_) | (with_reducible refine below_drewN ?_ _) | (with_reducible refine Below.setCell ?_ ?_ _) | go_size))) (hb5.mono (by go_size))
  have q5 : w4.heap.size + 0 ≤ w5.heap.size := (by have := hb5.size; (try simp at this); omega)
  have T5 := Lib.hid (show Below w4.heap.size w4 w5 from Below.trans (by (repeat' (first | (with_reducible exact Below.refl _ _) | (with_reducible assumption) | (with_reducible refine Below.alloc ?_ ?_ _) | (with_reducible refine Below.drew ?_) | (with_reducible refine below_drewN ?_ _) | (with_reducible refine Below.setCell ?_ ?_ _) | go_size))) (hb5.mono (by go_size)))
  have XW0_5 := Lib.hid (XW0_4.out.below T5.out)
  clear XW0_4
  have XG0_5 := Lib.hid (XG0_4.out.below T5.out)
  clear XG0_4
  have Rw0_5 := Lib.hid (Rw0_4.out.below T5.out)
  clear Rw0_4
  have Rg1_5 := Lib.hid (Rg1_4.out.below T5.out)
  clear Rg1_4
  go_wp2_with fail
  (go_at_call 37; ((with_reducible refine (impl_any a0 _).mono ?_); rintro e w6 ⟨A6, d6, rfl, n6, hb6⟩))
  have hB6 : Below w.heap.size w w6 := Below.trans (by (repeat' (first | (with_reducible exact Below.refl _ _) | (with_reducible assumption) | (with_reducible refine Below.alloc ?_ ?_ _) | (with_reducible refine Below.drew ?_) | (with_reducible refine below_drewN ?_ _) | (with_reducible refine Below.setCell ?_ ?_ _) | go_size))) (hb6.mono (by go_size))
  have q6 : w5.heap.size + 0 ≤ w6.heap.size := (by have := hb6.size; (try simp at this); omega)
  have T6 := Lib.hid (show Below w5.heap.size w5 w6 from Below.trans (by (repeat' (first | (with_reducible exact Below.refl _ _) | (with_reducible assumption) | (with_reducible refine Below.alloc ?_ ?_ _) | (with_reducible refine Below.drew ?_) | (with_reducible refine below_drewN ?_ _) | (with_reducible refine Below.setCell ?_ ?_ _) | go_size))) (hb6.mono (by go_size)))
  have XW0_6 := Lib.hid (XW0_5.out.below T6.out)
  clear XW0_5
  have XG0_6 := Lib.hid (XG0_5.out.below T6.out)
  clear XG0_5
  have Rw0_6 := Lib.hid (Rw0_5.out.below T6.out)
  clear Rw0_5
  have Rg1_6 := Lib.hid (Rg1_5.out.below T6.out)
  clear Rg1_5
  have Lh0 := Lib.hid (n6.lt2 (B0 := w5.heap.size + 0) (by go_size))
  have Rh0_6 := Lib.hid (n6.mono (C := w5.heap.size + 0) (by go_size))
  clear n6
  obtain ⟨y7W00, y7W01, y7W02⟩ := XW0_6.out
  go_wp2_with fail
  (go_at_call 35; ((with_reducible refine (eqWhole_same (wneg (res a0)) (Rh0_6.out.below (by (repeat' (first | (with_reducible exact Below.refl _ _) | (with_reducible assumption) | (with_reducible refine Below.alloc ?_ ?_ _) | (with_reducible refine Below.drew ?_) | (with_reducible refine below_drewN ?_ _) | (with_reducible refine Below.setCell ?_ ?_ _) | go_size)))) (Rw0_6.out.below (by (repeat' (first | (with_reducible exact Below.refl _ _) | (with_reducible assumption) | (with_reducible refine Below.alloc ?_ ?_ _) | (with_reducible refine Below.drew ?_) | (with_reducible refine below_drewN ?_ _) | (with_reducible refine Below.setCell ?_ ?_ _) | go_size)))) (res_len a0)).mono ?_); rintro e w7 ⟨rfl, hb7⟩))
  clear y7W00 y7W01 y7W02
  have hB7 : Below w.heap.size w w7 := Below.trans (by (repeat' (first | (with_reducible exact Below.refl _ _) | (with_reducible assumption) | (with_reducible refine Below.alloc ?_ ?_ _) | (with_reducible refine Below.drew ?_) | (with_reducible refine below_drewN ?_ _) | (with_reducible refine Below.setCell ?_ ?_ _) | go_size))) (hb7.mono (by go_size))
  have q7 : w6.heap.size + 1 ≤ w7.heap.size := (by have := hb7.size; (try simp at this); omega)
  have T7 := Lib.hid (show Below w6.heap.size w6 w7 from Below.trans (by (repeat' (first | (with_reducible exact Below.refl _ _) | (with_reducible assumption) | (with_reducible refine Below.alloc ?_ ?_ _) | (with_reducible refine Below.drew ?_) | (with_reducible refine below_drewN ?_ _) | (with_reducible refine Below.setCell ?_ ?_ _) | go_size))) (hb7.mono (by go_size)))
  have XW0_7 := Lib.hid (XW0_6.out.below T7.out)
  clear XW0_6
  have XG0_7 := Lib.hid (XG0_6.out.below T7.out)
  clear XG0_6
  have XH0_7 := Lib.hid ((Box2.new w6 (.bool (wneg (res a0))) (.slice A6 (wlimbs (res a0)).length d6) 49).below (Below.trans (by (repeat' (first | (with_reducible exact Below.refl _ _) | (with_reducible assumption) | (with_reducible refine Below.alloc ?_ ?_ _) | (with_reducible refine Below.drew ?_) | (with_reducible refine below_drewN ?_ _) | (with_reducible refine Below.setCell ?_ ?_ _) | go_size))) (hb7.mono (by go_size))))
  have Rw0_7 := Lib.hid (Rw0_6.out.below T7.out)
  clear Rw0_6
  have Rg1_7 := Lib.hid (Rg1_6.out.below T7.out)
  clear Rg1_6
  have Rh0_7 := Lib.hid (Rh0_6.out.below T7.out)
  clear Rh0_6
  obtain ⟨y8G00, y8G01, y8G02⟩ := XG0_7.out
  go_wp2_with fail
  (go_at_call 39; ((with_reducible refine (heldWhole_any (wneg (res a0)) 1 (Rg1_7.out.below (by (repeat' (first | (with_reducible exact Below.refl _ _) | (with_reducible assumption) | (with_reducible refine Below.alloc ?_ ?_ _) | (with_reducible refine Below.drew ?_) | (with_reducible refine below_drewN ?_ _) | (with_reducible refine Below.setCell ?_ ?_ _) | go_size)))) (res_len a0) (by omega) (by omega)).mono ?_); rintro e w8 ⟨rfl, hb8⟩))
  clear y8G00 y8G01 y8G02
  have hB8 : Below w.heap.size w w8 := Below.trans (by (repeat' (first | (with_reducible exact Below.refl _ _) | (with_reducible assumption) | (with_reducible refine Below.alloc ?_ ?_ _) | (with_reducible refine Below.drew ?_) | (with_reducible refine below_drewN ?_ _) | (with_reducible refine Below.setCell ?_ ?_ _) | go_size))) (hb8.mono (by go_size))
  have q8 : w7.heap.size + 0 ≤ w8.heap.size := (by have := hb8.size; (try simp at this); omega)
  have T8 := Lib.hid (show Below w7.heap.size w7 w8 from Below.trans (by (repeat' (first | (with_reducible exact Below.refl _ _) | (with_reducible assumption) | (with_reducible refine Below.alloc ?_ ?_ _) | (with_reducible refine Below.drew ?_) | (with_reducible refine below_drewN ?_ _) | (with_reducible refine Below.setCell ?_ ?_ _) | go_size))) (hb8.mono (by go_size)))
  have XW0_8 := Lib.hid (XW0_7.out.below T8.out)
  clear XW0_7
  have XG0_8 := Lib.hid (XG0_7.out.below T8.out)
  clear XG0_7
  have XH0_8 := Lib.hid (XH0_7.out.below T8.out)
  clear XH0_7
  have Rw0_8 := Lib.hid (Rw0_7.out.below T8.out)
  clear Rw0_7
  have Rg1_8 := Lib.hid (Rg1_7.out.below T8.out)
  clear Rg1_7
  have Rh0_8 := Lib.hid (Rh0_7.out.below T8.out)
  clear Rh0_7
  go_wp2
  go_ret
  exact ⟨rfl, by repeat' (first | (with_reducible exact Below.refl _ _) | (with_reducible assumption) | (with_reducible refine Below.alloc ?_ ?_ _) | (with_reducible refine Below.drew ?_) | (with_reducible refine below_drewN ?_ _) | (with_reducible refine Below.setCell ?_ ?_ _) | go_size)⟩
end Go.Proofs.Ytfaglhhkcgjbnaa.Wo
