/- Contracts of the fractions' draws: any fractions. -/
import Derived.Test.YtklhmaegpejdbaaDoorDrawS
namespace Go.Proofs.YtklhmaegpejdbaaDoor
open Go.RowKit
set_option linter.unusedVariables false
set_option linter.unusedSimpArgs false
set_option maxRecDepth 100000
set_option maxHeartbeats 8000000 in
theorem fraction_any {W w : World} {b : Nat} {A : Option Addr} {l c n : Nat} (h : Cu W b A l c n w) (hn : n ≤ 999990000) :
    Calls Tryd.prog 83 #[.pointer (some ⟨b, 0, none⟩)] w fun e w' => (∃ x y : Int, Hid (fracB x y = true) ∧ e = .returned (.agg #[.int .i64 x, .int .i64 y])) ∧ Cu W b A l c (n + 12) w' := by
  have H := Lib.hid h
  have hbw := h.1.1
  have hWw := h.2.size
  clear h
  go_enter Tryd.func83, Tryd.ntmps83
  go_wp2_with fail
  (go_at_call 84; refine (pick_any (H.out.alloc _).start (by omega) 41 (by omega) (by omega)).mono ?_; rintro e w1 ⟨⟨x, x0, x1, rfl⟩, C1⟩)
  have HC1 := Lib.hid C1
  clear C1
  go_wp2_with fail
  (go_at_call 84; refine (pick_any HC1.out (by omega) 2001 (by omega) (by omega)).mono ?_; rintro e w2 ⟨⟨y, y0, y1, rfl⟩, C2⟩)
  have HC2 := Lib.hid C2
  clear C2
  go_wp2_with fail
  (go_at_call 77; refine (among_new HC2.out (by omega) [(0 : Int), (1 : Int), (-1 : Int), (2 : Int), (3 : Int), (-5 : Int), (x - 20 : Int), (y - 1000 : Int), (1000000000 : Int), (-1000000000 : Int)] rfl rfl (by simp) (by simp) (-1000000000) (1000000000) (by simp only [List.forall_mem_cons, List.not_mem_nil, false_implies, implies_true, and_true]; omega)).mono ?_; rintro e w3 ⟨⟨p, p0, p1, rfl⟩, C3⟩)
  have HC3 := Lib.hid C3
  clear C3
  go_wp2_with fail
  (go_at_call 84; refine (pick_any HC3.out (by omega) 20 (by omega) (by omega)).mono ?_; rintro e w4 ⟨⟨u, u0, u1, rfl⟩, C4⟩)
  have HC4 := Lib.hid C4
  clear C4
  go_wp2_with fail
  (go_at_call 84; refine (pick_any HC4.out (by omega) 1000 (by omega) (by omega)).mono ?_; rintro e w5 ⟨⟨v, v0, v1, rfl⟩, C5⟩)
  have HC5 := Lib.hid C5
  clear C5
  go_wp2_with fail
  (go_at_call 77; refine (among_new HC5.out (by omega) [(1 : Int), (1 : Int), (2 : Int), (3 : Int), (4 : Int), (9 : Int), (1 + u : Int), (1 + v : Int), (1000000000 : Int), (999999999 : Int)] rfl rfl (by simp) (by simp) (1) (1000000000) (by simp only [List.forall_mem_cons, List.not_mem_nil, false_implies, implies_true, and_true]; omega)).mono ?_; rintro e w6 ⟨⟨q, q0, q1, rfl⟩, C6⟩)
  have HC6 := Lib.hid C6
  clear C6
  rcases Bool.eq_false_or_eq_true (mkB p q) with hm | hm
  · have HF := Lib.hid (mk_frac hm)
    obtain ⟨N, HN⟩ : ∃ N, Hid (mkN p q = N) := ⟨_, Lib.hid rfl⟩
    obtain ⟨E, HE⟩ : ∃ E, Hid (mkE p q = E) := ⟨_, Lib.hid rfl⟩
    rw [HN.out, HE.out] at HF
    have HM : Hid (∀ w : World, Calls Tryd.prog 78 #[.int .i64 p, .int .i64 q] w fun e w' => e = .returned (.tuple #[.agg #[.int .i64 N, .int .i64 E], .bool true]) ∧ Below w.heap.size w w') := Lib.hid (fun w => by rw [← HN.out, ← HE.out, ← hm]; exact frMake_any p q (by omega) (by omega) (by omega) (by omega) (by omega) w)
    clear hm
    go_wp2_with fail
    (go_at_call 78; refine (HM.out _).mono ?_; rintro e w7 ⟨rfl, hb7⟩)
    have HC7 := Lib.hid (HC6.out.below hb7)
    clear hb7
    have k7_0 : w7.cell? ⟨w.heap.size, 0, none⟩ = some (.int .i64 0) := HC7.out.keeps (by first | omega | (simp; done) | (simp; omega)) (by omega) (by simp [go_sem])
    have f7_0 : w7.frozen? ⟨w.heap.size, 0, none⟩ = false := HC7.out.free (by first | omega | (simp; done) | (simp; omega)) (by omega) (by simp [go_sem])
    have k7_1 : w7.cell? ⟨w.heap.size, 1, none⟩ = some (.int .i64 0) := HC7.out.keeps (by first | omega | (simp; done) | (simp; omega)) (by omega) (by simp [go_sem])
    have f7_1 : w7.frozen? ⟨w.heap.size, 1, none⟩ = false := HC7.out.free (by first | omega | (simp; done) | (simp; omega)) (by omega) (by simp [go_sem])
    have s7 : w.heap.size < w7.heap.size := by have := HC7.out.2.size; simp at this; omega
    have HC8 := Lib.hid (((H.out.alloc _).trans HC7.out).le (show n + 2 + 2 + 2 + 2 + 2 + 2 ≤ n + 12 by omega))
    have hc8 := HC8.out
    go_wp2
    refine bodyPost_ret (by simp [results, Tryd.results83, go_sem, *]; try rfl) rfl ?_
    exact ⟨⟨N, E, HF, rfl⟩, by (repeat' (first | (with_reducible assumption) | (with_reducible refine Cu.write ?_ _ _ _ (by first | omega | (simp; omega)) (by first | omega | (simp; omega))) | (with_reducible refine Cu.alloc ?_ _)))⟩
  · obtain ⟨N, HN⟩ : ∃ N, Hid (mkN p q = N) := ⟨_, Lib.hid rfl⟩
    obtain ⟨E, HE⟩ : ∃ E, Hid (mkE p q = E) := ⟨_, Lib.hid rfl⟩
    have HM : Hid (∀ w : World, Calls Tryd.prog 78 #[.int .i64 p, .int .i64 q] w fun e w' => e = .returned (.tuple #[.agg #[.int .i64 N, .int .i64 E], .bool false]) ∧ Below w.heap.size w w') := Lib.hid (fun w => by rw [← HN.out, ← HE.out, ← hm]; exact frMake_any p q (by omega) (by omega) (by omega) (by omega) (by omega) w)
    clear hm
    go_wp2_with fail
    (go_at_call 78; refine (HM.out _).mono ?_; rintro e w7 ⟨rfl, hb7⟩)
    have HC7 := Lib.hid (HC6.out.below hb7)
    clear hb7
    have s7 : w.heap.size < w7.heap.size := by have := HC7.out.2.size; simp at this; omega
    go_wp2_with fail
    (go_at_call 105; refine (frInt_any 1 _).mono ?_; rintro e w8 ⟨rfl, hb8⟩)
    have HC8 : Hid (Cu (w.alloc (.cells #[.int .i64 0, .int .i64 0] 37)) b A l c (n + 2 + 2 + 2 + 2 + 2 + 2) w8) := by
      have hc7 := HC7.out
      refine Lib.hid (Cu.below ?_ hb8)
      (repeat' (first | (with_reducible assumption) | (with_reducible refine Cu.write ?_ _ _ _ (by first | omega | (simp; omega)) (by first | omega | (simp; omega))) | (with_reducible refine Cu.alloc ?_ _)))
    clear hb8
    have k8_0 : w8.cell? ⟨w.heap.size, 0, none⟩ = some (.int .i64 0) := HC8.out.keeps (by first | omega | (simp; done) | (simp; omega)) (by omega) (by simp [go_sem])
    have f8_0 : w8.frozen? ⟨w.heap.size, 0, none⟩ = false := HC8.out.free (by first | omega | (simp; done) | (simp; omega)) (by omega) (by simp [go_sem])
    have k8_1 : w8.cell? ⟨w.heap.size, 1, none⟩ = some (.int .i64 0) := HC8.out.keeps (by first | omega | (simp; done) | (simp; omega)) (by omega) (by simp [go_sem])
    have f8_1 : w8.frozen? ⟨w.heap.size, 1, none⟩ = false := HC8.out.free (by first | omega | (simp; done) | (simp; omega)) (by omega) (by simp [go_sem])
    have s8 : w.heap.size < w8.heap.size := by have := HC8.out.2.size; simp at this; omega
    have HC9 := Lib.hid (((H.out.alloc _).trans HC8.out).le (show n + 2 + 2 + 2 + 2 + 2 + 2 ≤ n + 12 by omega))
    have hc9 := HC9.out
    go_wp2
    refine bodyPost_ret (by simp [results, Tryd.results83, go_sem, *]; try rfl) rfl ?_
    exact ⟨⟨1, 1, Lib.hid (by decide), rfl⟩, by (repeat' (first | (with_reducible assumption) | (with_reducible refine Cu.write ?_ _ _ _ (by first | omega | (simp; omega)) (by first | omega | (simp; omega))) | (with_reducible refine Cu.alloc ?_ _)))⟩
set_option maxHeartbeats 8000000 in
theorem anyFraction_any {W w : World} {b : Nat} {A : Option Addr} {l c n : Nat} (h : Cu W b A l c n w) (hn : n ≤ 999990000) :
    Calls Tryd.prog 72 #[.pointer (some ⟨b, 0, none⟩)] w fun e w' => (∃ x y : Int, Hid (I64 x ∧ I64 y) ∧ e = .returned (.agg #[.int .i64 x, .int .i64 y])) ∧ Cu W b A l c (n + 20) w' := by
  have H := Lib.hid h
  have hbw := h.1.1
  have hWw := h.2.size
  clear h
  go_enter Tryd.func72, Tryd.ntmps72
  go_wp2_with fail
  (go_at_call 83; refine (fraction_any (H.out.alloc _).start (by omega)).mono ?_; rintro e w1 ⟨⟨x, y, HF, rfl⟩, C1⟩)
  have HC1 := Lib.hid C1
  clear C1
  have HXY := Lib.hid (frac64 HF.out)
  have g0 : w1.cell? ⟨w.heap.size, 0, none⟩ = some (.int .i64 0) := HC1.out.keeps (by simp) (by omega) (by simp [go_sem])
  have g1 : w1.cell? ⟨w.heap.size, 1, none⟩ = some (.int .i64 0) := HC1.out.keeps (by simp) (by omega) (by simp [go_sem])
  have g2 : w1.frozen? ⟨w.heap.size, 0, none⟩ = false := HC1.out.free (by simp) (by omega) (by simp [go_sem])
  have g3 : w1.frozen? ⟨w.heap.size, 1, none⟩ = false := HC1.out.free (by simp) (by omega) (by simp [go_sem])
  have s1 : w.heap.size < w1.heap.size := by have := HC1.out.2.size; simp at this; omega
  go_wp2_with fail
  (go_at_call 84; refine (pick_any (HC1.out.alloc _).start (by omega) 36 (by omega) (by omega)).mono ?_; rintro e w2 ⟨⟨z, z0, z1, rfl⟩, C2⟩)
  have HC2 := Lib.hid C2
  clear C2
  have s2 : w1.heap.size < w2.heap.size := by have := HC2.out.2.size; simp at this; omega
  have s2' : w.heap.size < w2.heap.size := by omega
  have kw2_0 : w2.cell? ⟨w.heap.size, 0, none⟩ = some (.int .i64 0) := HC2.out.keeps (by first | omega | (simp; done) | (simp; omega)) (by omega) (by simp [go_sem, *])
  have fw2_0 : w2.frozen? ⟨w.heap.size, 0, none⟩ = false := HC2.out.free (by first | omega | (simp; done) | (simp; omega)) (by omega) (by simp [go_sem, *])
  have kw2_1 : w2.cell? ⟨w.heap.size, 1, none⟩ = some (.int .i64 0) := HC2.out.keeps (by first | omega | (simp; done) | (simp; omega)) (by omega) (by simp [go_sem, *])
  have fw2_1 : w2.frozen? ⟨w.heap.size, 1, none⟩ = false := HC2.out.free (by first | omega | (simp; done) | (simp; omega)) (by omega) (by simp [go_sem, *])
  have kw2_2 : w2.cell? ⟨w1.heap.size, 0, none⟩ = some (.int .i64 x) := HC2.out.keeps (by first | omega | (simp; done) | (simp; omega)) (by omega) (by simp [go_sem, *])
  have fw2_2 : w2.frozen? ⟨w1.heap.size, 0, none⟩ = false := HC2.out.free (by first | omega | (simp; done) | (simp; omega)) (by omega) (by simp [go_sem, *])
  have kw2_3 : w2.cell? ⟨w1.heap.size, 1, none⟩ = some (.int .i64 y) := HC2.out.keeps (by first | omega | (simp; done) | (simp; omega)) (by omega) (by simp [go_sem, *])
  have fw2_3 : w2.frozen? ⟨w1.heap.size, 1, none⟩ = false := HC2.out.free (by first | omega | (simp; done) | (simp; omega)) (by omega) (by simp [go_sem, *])
  by_cases hz : z = 0
  · subst hz
    go_wp2_with fail
    (go_at_call 77; refine (among_new HC2.out (by omega) [0, -1, 1000000001] rfl rfl (by simp) (by simp) (-1) 1000000001 (by simp only [List.forall_mem_cons, List.not_mem_nil, false_implies, implies_true, and_true]; omega)).mono ?_; rintro e w3 ⟨⟨u, u0, u1, rfl⟩, C3⟩)
    have HC3 := Lib.hid C3
    clear C3
    have s3 : w1.heap.size < w3.heap.size := by have := HC3.out.2.size; simp at this; omega
    have s3' : w.heap.size < w3.heap.size := by omega
    have kw3_0 : w3.cell? ⟨w.heap.size, 0, none⟩ = some (.int .i64 0) := HC3.out.keeps (by first | omega | (simp; done) | (simp; omega)) (by omega) (by simp [go_sem, *])
    have fw3_0 : w3.frozen? ⟨w.heap.size, 0, none⟩ = false := HC3.out.free (by first | omega | (simp; done) | (simp; omega)) (by omega) (by simp [go_sem, *])
    have kw3_1 : w3.cell? ⟨w.heap.size, 1, none⟩ = some (.int .i64 0) := HC3.out.keeps (by first | omega | (simp; done) | (simp; omega)) (by omega) (by simp [go_sem, *])
    have fw3_1 : w3.frozen? ⟨w.heap.size, 1, none⟩ = false := HC3.out.free (by first | omega | (simp; done) | (simp; omega)) (by omega) (by simp [go_sem, *])
    have kw3_2 : w3.cell? ⟨w1.heap.size, 0, none⟩ = some (.int .i64 x) := HC3.out.keeps (by first | omega | (simp; done) | (simp; omega)) (by omega) (by simp [go_sem, *])
    have fw3_2 : w3.frozen? ⟨w1.heap.size, 0, none⟩ = false := HC3.out.free (by first | omega | (simp; done) | (simp; omega)) (by omega) (by simp [go_sem, *])
    have kw3_3 : w3.cell? ⟨w1.heap.size, 1, none⟩ = some (.int .i64 y) := HC3.out.keeps (by first | omega | (simp; done) | (simp; omega)) (by omega) (by simp [go_sem, *])
    have fw3_3 : w3.frozen? ⟨w1.heap.size, 1, none⟩ = false := HC3.out.free (by first | omega | (simp; done) | (simp; omega)) (by omega) (by simp [go_sem, *])
    have HW := Lib.hid (((((H.out.alloc _).trans HC1.out).alloc _).trans HC3.out).le (show _ ≤ n + 20 by omega))
    have hw := HW.out
    go_wp2
    refine bodyPost_ret (by simp [results, Tryd.results72, go_sem, *]; try rfl) rfl ?_
    exact ⟨⟨x, u, Lib.hid ⟨HXY.out.1, ⟨by omega, by omega⟩⟩, rfl⟩, by (repeat' (first | (with_reducible assumption) | (with_reducible refine Cu.write ?_ _ _ _ (by first | omega | (simp; omega)) (by first | omega | (simp; omega))) | (with_reducible refine Cu.alloc ?_ _)))⟩
  by_cases hz1 : z = 1
  · subst hz1
    go_wp2_with fail
    (go_at_call 77; refine (among_new HC2.out (by omega) [1000000001, -1000000001, -9223372036854775808] rfl rfl (by simp) (by simp) (-9223372036854775808) 1000000001 (by simp only [List.forall_mem_cons, List.not_mem_nil, false_implies, implies_true, and_true]; omega)).mono ?_; rintro e w3 ⟨⟨u, u0, u1, rfl⟩, C3⟩)
    have HC3 := Lib.hid C3
    clear C3
    have s3 : w1.heap.size < w3.heap.size := by have := HC3.out.2.size; simp at this; omega
    have s3' : w.heap.size < w3.heap.size := by omega
    have kw3_0 : w3.cell? ⟨w.heap.size, 0, none⟩ = some (.int .i64 0) := HC3.out.keeps (by first | omega | (simp; done) | (simp; omega)) (by omega) (by simp [go_sem, *])
    have fw3_0 : w3.frozen? ⟨w.heap.size, 0, none⟩ = false := HC3.out.free (by first | omega | (simp; done) | (simp; omega)) (by omega) (by simp [go_sem, *])
    have kw3_1 : w3.cell? ⟨w.heap.size, 1, none⟩ = some (.int .i64 0) := HC3.out.keeps (by first | omega | (simp; done) | (simp; omega)) (by omega) (by simp [go_sem, *])
    have fw3_1 : w3.frozen? ⟨w.heap.size, 1, none⟩ = false := HC3.out.free (by first | omega | (simp; done) | (simp; omega)) (by omega) (by simp [go_sem, *])
    have kw3_2 : w3.cell? ⟨w1.heap.size, 0, none⟩ = some (.int .i64 x) := HC3.out.keeps (by first | omega | (simp; done) | (simp; omega)) (by omega) (by simp [go_sem, *])
    have fw3_2 : w3.frozen? ⟨w1.heap.size, 0, none⟩ = false := HC3.out.free (by first | omega | (simp; done) | (simp; omega)) (by omega) (by simp [go_sem, *])
    have kw3_3 : w3.cell? ⟨w1.heap.size, 1, none⟩ = some (.int .i64 y) := HC3.out.keeps (by first | omega | (simp; done) | (simp; omega)) (by omega) (by simp [go_sem, *])
    have fw3_3 : w3.frozen? ⟨w1.heap.size, 1, none⟩ = false := HC3.out.free (by first | omega | (simp; done) | (simp; omega)) (by omega) (by simp [go_sem, *])
    have HW := Lib.hid (((((H.out.alloc _).trans HC1.out).alloc _).trans HC3.out).le (show _ ≤ n + 20 by omega))
    have hw := HW.out
    go_wp2
    refine bodyPost_ret (by simp [results, Tryd.results72, go_sem, *]; try rfl) rfl ?_
    exact ⟨⟨u, y, Lib.hid ⟨⟨by omega, by omega⟩, HXY.out.2⟩, rfl⟩, by (repeat' (first | (with_reducible assumption) | (with_reducible refine Cu.write ?_ _ _ _ (by first | omega | (simp; omega)) (by first | omega | (simp; omega))) | (with_reducible refine Cu.alloc ?_ _)))⟩
  have hzb : (z == 0) = false := by simp; omega
  have hzb1 : (z == 1) = false := by simp; omega
  by_cases hz2 : z = 2
  · subst hz2
    go_wp2_with fail
    (go_at_call 77; refine (among_new HC2.out (by omega) [2, 0, -6] rfl rfl (by simp) (by simp) (-6) 2 (by simp only [List.forall_mem_cons, List.not_mem_nil, false_implies, implies_true, and_true]; omega)).mono ?_; rintro e w3 ⟨⟨u, u0, u1, rfl⟩, C3⟩)
    have HC3 := Lib.hid C3
    clear C3
    go_wp2_with fail
    (go_at_call 77; refine (among_new HC3.out (by omega) [2, 4, 9] rfl rfl (by simp) (by simp) 2 9 (by simp only [List.forall_mem_cons, List.not_mem_nil, false_implies, implies_true, and_true]; omega)).mono ?_; rintro e w4 ⟨⟨v, v0, v1, rfl⟩, C4⟩)
    have HC4 := Lib.hid C4
    clear C4
    have s4 : w1.heap.size < w4.heap.size := by have := HC4.out.2.size; simp at this; omega
    have s4' : w.heap.size < w4.heap.size := by omega
    have kw4_0 : w4.cell? ⟨w.heap.size, 0, none⟩ = some (.int .i64 0) := HC4.out.keeps (by first | omega | (simp; done) | (simp; omega)) (by omega) (by simp [go_sem, *])
    have fw4_0 : w4.frozen? ⟨w.heap.size, 0, none⟩ = false := HC4.out.free (by first | omega | (simp; done) | (simp; omega)) (by omega) (by simp [go_sem, *])
    have kw4_1 : w4.cell? ⟨w.heap.size, 1, none⟩ = some (.int .i64 0) := HC4.out.keeps (by first | omega | (simp; done) | (simp; omega)) (by omega) (by simp [go_sem, *])
    have fw4_1 : w4.frozen? ⟨w.heap.size, 1, none⟩ = false := HC4.out.free (by first | omega | (simp; done) | (simp; omega)) (by omega) (by simp [go_sem, *])
    have kw4_2 : w4.cell? ⟨w1.heap.size, 0, none⟩ = some (.int .i64 x) := HC4.out.keeps (by first | omega | (simp; done) | (simp; omega)) (by omega) (by simp [go_sem, *])
    have fw4_2 : w4.frozen? ⟨w1.heap.size, 0, none⟩ = false := HC4.out.free (by first | omega | (simp; done) | (simp; omega)) (by omega) (by simp [go_sem, *])
    have kw4_3 : w4.cell? ⟨w1.heap.size, 1, none⟩ = some (.int .i64 y) := HC4.out.keeps (by first | omega | (simp; done) | (simp; omega)) (by omega) (by simp [go_sem, *])
    have fw4_3 : w4.frozen? ⟨w1.heap.size, 1, none⟩ = false := HC4.out.free (by first | omega | (simp; done) | (simp; omega)) (by omega) (by simp [go_sem, *])
    have HW := Lib.hid (((((H.out.alloc _).trans HC1.out).alloc _).trans HC4.out).le (show _ ≤ n + 20 by omega))
    have hw := HW.out
    go_wp2
    refine bodyPost_ret (by simp [results, Tryd.results72, go_sem, *]; try rfl) rfl ?_
    exact ⟨⟨u, v, Lib.hid ⟨⟨by omega, by omega⟩, ⟨by omega, by omega⟩⟩, rfl⟩, by (repeat' (first | (with_reducible assumption) | (with_reducible refine Cu.write ?_ _ _ _ (by first | omega | (simp; omega)) (by first | omega | (simp; omega))) | (with_reducible refine Cu.alloc ?_ _)))⟩
  · have hzb2 : (z == 2) = false := by simp; omega
    have HW := Lib.hid (((((H.out.alloc _).trans HC1.out).alloc _).trans HC2.out).le (show _ ≤ n + 20 by omega))
    have hw := HW.out
    go_wp2
    refine bodyPost_ret (by simp [results, Tryd.results72, go_sem, *]; try rfl) rfl ?_
    exact ⟨⟨x, y, HXY, rfl⟩, by (repeat' (first | (with_reducible assumption) | (with_reducible refine Cu.write ?_ _ _ _ (by first | omega | (simp; omega)) (by first | omega | (simp; omega))) | (with_reducible refine Cu.alloc ?_ _)))⟩
end Go.Proofs.YtklhmaegpejdbaaDoor
