/- Contracts of the fractions' draws: any fractions. -/
import Derived.Test.YtklhmaegpejdbaaDrawS
namespace Go.Proofs.Ytklhmaegpejdbaa
open Go.RowKit
set_option linter.unusedVariables false
set_option linter.unusedSimpArgs false
set_option maxRecDepth 100000
set_option maxHeartbeats 8000000 in
theorem fraction_any {W w : World} {b : Nat} {A : Option Addr} {l c n : Nat} (h : Cu W b A l c n w) (hn : n ≤ 999990000) :
    Calls Try.prog 114 #[.pointer (some ⟨b, 0, none⟩)] w fun e w' => (∃ x y : Int, Hid (fracB x y = true) ∧ e = .returned (.agg #[.int .i64 x, .int .i64 y])) ∧ Cu W b A l c (n + 12) w' := by
  have H := Lib.hid h
  have hbw := h.1.1
  have hWw := h.2.size
  clear h
  go_enter Try.func114, Try.ntmps114
  go_wp2_with fail
  (go_at_call 93; refine (pick_any (H.out.alloc _).start (by omega) 41 (by omega) (by omega)).mono ?_; rintro e w1 ⟨⟨x, x0, x1, rfl⟩, C1⟩)
  have HC1 := Lib.hid C1
  clear C1
  go_wp2_with fail
  (go_at_call 93; refine (pick_any HC1.out (by omega) 2001 (by omega) (by omega)).mono ?_; rintro e w2 ⟨⟨y, y0, y1, rfl⟩, C2⟩)
  have HC2 := Lib.hid C2
  clear C2
  go_wp2_with fail
  (go_at_call 92; refine (among_new HC2.out (by omega) [(0 : Int), (1 : Int), (-1 : Int), (2 : Int), (3 : Int), (-5 : Int), (x - 20 : Int), (y - 1000 : Int), (1000000000 : Int), (-1000000000 : Int)] rfl rfl (by simp) (by simp) (-1000000000) (1000000000) (by simp only [List.forall_mem_cons, List.not_mem_nil, false_implies, implies_true, and_true]; omega)).mono ?_; rintro e w3 ⟨⟨p, p0, p1, rfl⟩, C3⟩)
  have HC3 := Lib.hid C3
  clear C3
  go_wp2_with fail
  (go_at_call 93; refine (pick_any HC3.out (by omega) 20 (by omega) (by omega)).mono ?_; rintro e w4 ⟨⟨u, u0, u1, rfl⟩, C4⟩)
  have HC4 := Lib.hid C4
  clear C4
  go_wp2_with fail
  (go_at_call 93; refine (pick_any HC4.out (by omega) 1000 (by omega) (by omega)).mono ?_; rintro e w5 ⟨⟨v, v0, v1, rfl⟩, C5⟩)
  have HC5 := Lib.hid C5
  clear C5
  go_wp2_with fail
  (go_at_call 92; refine (among_new HC5.out (by omega) [(1 : Int), (1 : Int), (2 : Int), (3 : Int), (4 : Int), (9 : Int), (1 + u : Int), (1 + v : Int), (1000000000 : Int), (999999999 : Int)] rfl rfl (by simp) (by simp) (1) (1000000000) (by simp only [List.forall_mem_cons, List.not_mem_nil, false_implies, implies_true, and_true]; omega)).mono ?_; rintro e w6 ⟨⟨q, q0, q1, rfl⟩, C6⟩)
  have HC6 := Lib.hid C6
  clear C6
  rcases Bool.eq_false_or_eq_true (mkB p q) with hm | hm
  · have HF := Lib.hid (mk_frac hm)
    obtain ⟨N, HN⟩ : ∃ N, Hid (mkN p q = N) := ⟨_, Lib.hid rfl⟩
    obtain ⟨E, HE⟩ : ∃ E, Hid (mkE p q = E) := ⟨_, Lib.hid rfl⟩
    rw [HN.out, HE.out] at HF
    have HM : Hid (∀ w : World, Calls Try.prog 69 #[.int .i64 p, .int .i64 q] w fun e w' => e = .returned (.tuple #[.agg #[.int .i64 N, .int .i64 E], .bool true]) ∧ Below w.heap.size w w') := Lib.hid (fun w => by rw [← HN.out, ← HE.out, ← hm]; exact frMake_any p q (by omega) (by omega) (by omega) (by omega) (by omega) w)
    clear hm
    go_wp2_with fail
    (go_at_call 69; refine (HM.out _).mono ?_; rintro e w7 ⟨rfl, hb7⟩)
    have HC7 := Lib.hid (HC6.out.below hb7)
    clear hb7
    have k7_0 : w7.cell? ⟨w.heap.size, 0, none⟩ = some (.int .i64 0) := HC7.out.keeps (by first | omega | (simp; done) | (simp; omega)) (by omega) (by simp [go_sem])
    have f7_0 : w7.frozen? ⟨w.heap.size, 0, none⟩ = false := HC7.out.free (by first | omega | (simp; done) | (simp; omega)) (by omega) (by simp [go_sem])
    have k7_1 : w7.cell? ⟨w.heap.size, 1, none⟩ = some (.int .i64 0) := HC7.out.keeps (by first | omega | (simp; done) | (simp; omega)) (by omega) (by simp [go_sem])
    have f7_1 : w7.frozen? ⟨w.heap.size, 1, none⟩ = false := HC7.out.free (by first | omega | (simp; done) | (simp; omega)) (by omega) (by simp [go_sem])
    have s7 : w.heap.size < w7.heap.size := by have := HC7.out.2.size; simp at this; omega
    have HC8 := Lib.hid (((H.out.alloc _).trans HC7.out).le (show n + 2 + 2 + 2 + 2 + 2 + 2 ≤ n + 12 by omega))
    have hc8 := HC8.out
    go_wp2
    refine bodyPost_ret (by simp [results, Try.results114, go_sem, *]; try rfl) rfl ?_
    exact ⟨⟨N, E, HF, rfl⟩, by (repeat' (first | (with_reducible assumption) | (with_reducible refine Cu.write ?_ _ _ _ (by first | omega | (simp; omega)) (by first | omega | (simp; omega))) | (with_reducible refine Cu.alloc ?_ _)))⟩
  · obtain ⟨N, HN⟩ : ∃ N, Hid (mkN p q = N) := ⟨_, Lib.hid rfl⟩
    obtain ⟨E, HE⟩ : ∃ E, Hid (mkE p q = E) := ⟨_, Lib.hid rfl⟩
    have HM : Hid (∀ w : World, Calls Try.prog 69 #[.int .i64 p, .int .i64 q] w fun e w' => e = .returned (.tuple #[.agg #[.int .i64 N, .int .i64 E], .bool false]) ∧ Below w.heap.size w w') := Lib.hid (fun w => by rw [← HN.out, ← HE.out, ← hm]; exact frMake_any p q (by omega) (by omega) (by omega) (by omega) (by omega) w)
    clear hm
    go_wp2_with fail
    (go_at_call 69; refine (HM.out _).mono ?_; rintro e w7 ⟨rfl, hb7⟩)
    have HC7 := Lib.hid (HC6.out.below hb7)
    clear hb7
    have s7 : w.heap.size < w7.heap.size := by have := HC7.out.2.size; simp at this; omega
    go_wp2_with fail
    (go_at_call 117; refine (frInt_any 1 _).mono ?_; rintro e w8 ⟨rfl, hb8⟩)
    have HC8 : Hid (Cu (w.alloc (.cells #[.int .i64 0, .int .i64 0] 24)) b A l c (n + 2 + 2 + 2 + 2 + 2 + 2) w8) := by
      have hc7 := HC7.out
      refine Lib.hid (Cu.below ?_ hb8)
      (repeat' (first | (with_reducible assumption) | (with_reducible refine Cu.write ?_ _ _ _ (by first | omega | (simp; omega)) (by first | omega | (simp; omega))) | (with_reducible refine Cu.alloc ?_ _)))
    clear hb8
    have k8_0 : w8.cell? ⟨w.heap.size, 0, none⟩ = some (.int .i64 0) := HC8.out.keeps (by first | omega | (simp; done) | (simp; omega)) (by omega) (by simp [go_sem])
    have f8_0 : w8.frozen? ⟨w.heap.size, 0, none⟩ = false := HC8.out.free (by first | omega | (simp; done) | (simp; omega)) (by omega) (by simp [go_sem])
    have k8_1 : w8.cell? ⟨w.heap.size, 1, none⟩ = some (.int .i64 0) := HC8.out.keeps (by first | omega | (simp; done) | (simp; omega)) (by omega) (by simp [go_sem])
    have f8_1 : w8.frozen? ⟨w.heap.size, 1, none⟩ = false := HC8.out.free (by first | omega | (simp; done) | (simp; omega)) (by omega) (by simp [go_sem])
    have s8 : w.heap.size < w8.heap.size := by have := HC8.out.2.size; simp at this; omega
    have HC9 := Lib.hid (((H.out.alloc _).trans HC8.out).le (show n + 2 + 2 + 2 + 2 + 2 + 2 ≤ n + 12 by omega))
    have hc9 := HC9.out
    go_wp2
    refine bodyPost_ret (by simp [results, Try.results114, go_sem, *]; try rfl) rfl ?_
    exact ⟨⟨1, 1, Lib.hid (by decide), rfl⟩, by (repeat' (first | (with_reducible assumption) | (with_reducible refine Cu.write ?_ _ _ _ (by first | omega | (simp; omega)) (by first | omega | (simp; omega))) | (with_reducible refine Cu.alloc ?_ _)))⟩
set_option maxHeartbeats 8000000 in
theorem anyFraction_any {W w : World} {b : Nat} {A : Option Addr} {l c n : Nat} (h : Cu W b A l c n w) (hn : n ≤ 999990000) :
    Calls Try.prog 97 #[.pointer (some ⟨b, 0, none⟩)] w fun e w' => (∃ x y : Int, Hid (I64 x ∧ I64 y) ∧ e = .returned (.agg #[.int .i64 x, .int .i64 y])) ∧ Cu W b A l c (n + 20) w' := by
  have H := Lib.hid h
  have hbw := h.1.1
  have hWw := h.2.size
  clear h
  go_enter Try.func97, Try.ntmps97
  go_wp2_with fail
  (go_at_call 114; refine (fraction_any (H.out.alloc _).start (by omega)).mono ?_; rintro e w1 ⟨⟨x, y, HF, rfl⟩, C1⟩)
  have HC1 := Lib.hid C1
  clear C1
  have HXY := Lib.hid (frac64 HF.out)
  have g0 : w1.cell? ⟨w.heap.size, 0, none⟩ = some (.int .i64 0) := HC1.out.keeps (by simp) (by omega) (by simp [go_sem])
  have g1 : w1.cell? ⟨w.heap.size, 1, none⟩ = some (.int .i64 0) := HC1.out.keeps (by simp) (by omega) (by simp [go_sem])
  have g2 : w1.frozen? ⟨w.heap.size, 0, none⟩ = false := HC1.out.free (by simp) (by omega) (by simp [go_sem])
  have g3 : w1.frozen? ⟨w.heap.size, 1, none⟩ = false := HC1.out.free (by simp) (by omega) (by simp [go_sem])
  have s1 : w.heap.size < w1.heap.size := by have := HC1.out.2.size; simp at this; omega
  go_wp2_with fail
  (go_at_call 93; refine (pick_any (HC1.out.alloc _).start (by omega) 36 (by omega) (by omega)).mono ?_; rintro e w2 ⟨⟨z, z0, z1, rfl⟩, C2⟩)
  have HC2 := Lib.hid C2
  clear C2
  have s2 : w1.heap.size < w2.heap.size := by have := HC2.out.2.size; simp at this; omega
  have s2' : w.heap.size < w2.heap.size := by omega
  have kw2_0 : w2.cell? ⟨w.heap.size, 0, none⟩ = some (.int .i64 0) := HC2.out.keeps (by first | omega | (simp; done) | (simp; omega)) (by omega) (by simp [go_sem, *])
  have fw2_0 : w2.frozen? ⟨w.heap.size, 0, none⟩ = false := HC2.out.free (by first | omega | (simp; done) | (simp; omega)) (by omega) (by simp [go_sem, *])
  have kw2_1 : w2.cell? ⟨w.heap.size, 1, none⟩ = some (.int .i64 0) := HC2.out.keeps (by first | omega | (simp; done) | (simp; omega)) (by omega) (by simp [go_sem, *])
  have fw2_1 : w2.frozen? ⟨w.heap.size, 1, none⟩ = false := HC2.out.free (by first | omega | (simp; done) | (simp; omega)) (by omega) (by simp [go_sem, *])
  have kw2_2 : w2.cell? ⟨w1.heap.size, 0, none⟩ = some (.int .i64 x) := HC2.out.keeps (by first | omega | (simp; done) | (simp; omega)) (by omega) (by simp [go_sem, *])
  have fw2_2 : w2.frozen? ⟨w1.heap.size, 0, none⟩ = false := HC2.out.free (by first | omega | (simp; done) | (simp; omega)) (by omega) (by simp [go_sem, *])
  have kw2_3 : w2.cell? ⟨w1.heap.size, 1, none⟩ = some (.int .i64 y) := HC2.out.keeps (by first | omega | (simp; done) | (simp; omega)) (by omega) (by simp [go_sem, *])
  have fw2_3 : w2.frozen? ⟨w1.heap.size, 1, none⟩ = false := HC2.out.free (by first | omega | (simp; done) | (simp; omega)) (by omega) (by simp [go_sem, *])
  by_cases hz : z = 0
  · subst hz
    go_wp2_with fail
    (go_at_call 92; refine (among_new HC2.out (by omega) [0, -1, 1000000001] rfl rfl (by simp) (by simp) (-1) 1000000001 (by simp only [List.forall_mem_cons, List.not_mem_nil, false_implies, implies_true, and_true]; omega)).mono ?_; rintro e w3 ⟨⟨u, u0, u1, rfl⟩, C3⟩)
    have HC3 := Lib.hid C3
    clear C3
    have s3 : w1.heap.size < w3.heap.size := by have := HC3.out.2.size; simp at this; omega
    have s3' : w.heap.size < w3.heap.size := by omega
    have kw3_0 : w3.cell? ⟨w.heap.size, 0, none⟩ = some (.int .i64 0) := HC3.out.keeps (by first | omega | (simp; done) | (simp; omega)) (by omega) (by simp [go_sem, *])
    have fw3_0 : w3.frozen? ⟨w.heap.size, 0, none⟩ = false := HC3.out.free (by first | omega | (simp; done) | (simp; omega)) (by omega) (by simp [go_sem, *])
    have kw3_1 : w3.cell? ⟨w.heap.size, 1, none⟩ = some (.int .i64 0) := HC3.out.keeps (by first | omega | (simp; done) | (simp; omega)) (by omega) (by simp [go_sem, *])
    have fw3_1 : w3.frozen? ⟨w.heap.size, 1, none⟩ = false := HC3.out.free (by first | omega | (simp; done) | (simp; omega)) (by omega) (by simp [go_sem, *])
    have kw3_2 : w3.cell? ⟨w1.heap.size, 0, none⟩ = some (.int .i64 x) := HC3.out.keeps (by first | omega | (simp; done) | (simp; omega)) (by omega) (by simp [go_sem, *])
    have fw3_2 : w3.frozen? ⟨w1.heap.size, 0, none⟩ = false := HC3.out.free (by first | omega | (simp; done) | (simp; omega)) (by omega) (by simp [go_sem, *])
    have kw3_3 : w3.cell? ⟨w1.heap.size, 1, none⟩ = some (.int .i64 y) := HC3.out.keeps (by first | omega | (simp; done) | (simp; omega)) (by omega) (by simp [go_sem, *])
    have fw3_3 : w3.frozen? ⟨w1.heap.size, 1, none⟩ = false := HC3.out.free (by first | omega | (simp; done) | (simp; omega)) (by omega) (by simp [go_sem, *])
    have HW := Lib.hid (((((H.out.alloc _).trans HC1.out).alloc _).trans HC3.out).le (show _ ≤ n + 20 by omega))
    have hw := HW.out
    go_wp2
    refine bodyPost_ret (by simp [results, Try.results97, go_sem, *]; try rfl) rfl ?_
    exact ⟨⟨x, u, Lib.hid ⟨HXY.out.1, ⟨by omega, by omega⟩⟩, rfl⟩, by (repeat' (first | (with_reducible assumption) | (with_reducible refine Cu.write ?_ _ _ _ (by first | omega | (simp; omega)) (by first | omega | (simp; omega))) | (with_reducible refine Cu.alloc ?_ _)))⟩
  by_cases hz1 : z = 1
  · subst hz1
    go_wp2_with fail
    (go_at_call 92; refine (among_new HC2.out (by omega) [1000000001, -1000000001, -9223372036854775808] rfl rfl (by simp) (by simp) (-9223372036854775808) 1000000001 (by simp only [List.forall_mem_cons, List.not_mem_nil, false_implies, implies_true, and_true]; omega)).mono ?_; rintro e w3 ⟨⟨u, u0, u1, rfl⟩, C3⟩)
    have HC3 := Lib.hid C3
    clear C3
    have s3 : w1.heap.size < w3.heap.size := by have := HC3.out.2.size; simp at this; omega
    have s3' : w.heap.size < w3.heap.size := by omega
    have kw3_0 : w3.cell? ⟨w.heap.size, 0, none⟩ = some (.int .i64 0) := HC3.out.keeps (by first | omega | (simp; done) | (simp; omega)) (by omega) (by simp [go_sem, *])
    have fw3_0 : w3.frozen? ⟨w.heap.size, 0, none⟩ = false := HC3.out.free (by first | omega | (simp; done) | (simp; omega)) (by omega) (by simp [go_sem, *])
    have kw3_1 : w3.cell? ⟨w.heap.size, 1, none⟩ = some (.int .i64 0) := HC3.out.keeps (by first | omega | (simp; done) | (simp; omega)) (by omega) (by simp [go_sem, *])
    have fw3_1 : w3.frozen? ⟨w.heap.size, 1, none⟩ = false := HC3.out.free (by first | omega | (simp; done) | (simp; omega)) (by omega) (by simp [go_sem, *])
    have kw3_2 : w3.cell? ⟨w1.heap.size, 0, none⟩ = some (.int .i64 x) := HC3.out.keeps (by first | omega | (simp; done) | (simp; omega)) (by omega) (by simp [go_sem, *])
    have fw3_2 : w3.frozen? ⟨w1.heap.size, 0, none⟩ = false := HC3.out.free (by first | omega | (simp; done) | (simp; omega)) (by omega) (by simp [go_sem, *])
    have kw3_3 : w3.cell? ⟨w1.heap.size, 1, none⟩ = some (.int .i64 y) := HC3.out.keeps (by first | omega | (simp; done) | (simp; omega)) (by omega) (by simp [go_sem, *])
    have fw3_3 : w3.frozen? ⟨w1.heap.size, 1, none⟩ = false := HC3.out.free (by first | omega | (simp; done) | (simp; omega)) (by omega) (by simp [go_sem, *])
    have HW := Lib.hid (((((H.out.alloc _).trans HC1.out).alloc _).trans HC3.out).le (show _ ≤ n + 20 by omega))
    have hw := HW.out
    go_wp2
    refine bodyPost_ret (by simp [results, Try.results97, go_sem, *]; try rfl) rfl ?_
    exact ⟨⟨u, y, Lib.hid ⟨⟨by omega, by omega⟩, HXY.out.2⟩, rfl⟩, by (repeat' (first | (with_reducible assumption) | (with_reducible refine Cu.write ?_ _ _ _ (by first | omega | (simp; omega)) (by first | omega | (simp; omega))) | (with_reducible refine Cu.alloc ?_ _)))⟩
  have hzb : (z == 0) = false := by simp; omega
  have hzb1 : (z == 1) = false := by simp; omega
  by_cases hz2 : z = 2
  · subst hz2
    go_wp2_with fail
    (go_at_call 92; refine (among_new HC2.out (by omega) [2, 0, -6] rfl rfl (by simp) (by simp) (-6) 2 (by simp only [List.forall_mem_cons, List.not_mem_nil, false_implies, implies_true, and_true]; omega)).mono ?_; rintro e w3 ⟨⟨u, u0, u1, rfl⟩, C3⟩)
    have HC3 := Lib.hid C3
    clear C3
    go_wp2_with fail
    (go_at_call 92; refine (among_new HC3.out (by omega) [2, 4, 9] rfl rfl (by simp) (by simp) 2 9 (by simp only [List.forall_mem_cons, List.not_mem_nil, false_implies, implies_true, and_true]; omega)).mono ?_; rintro e w4 ⟨⟨v, v0, v1, rfl⟩, C4⟩)
    have HC4 := Lib.hid C4
    clear C4
    have s4 : w1.heap.size < w4.heap.size := by have := HC4.out.2.size; simp at this; omega
    have s4' : w.heap.size < w4.heap.size := by omega
    have kw4_0 : w4.cell? ⟨w.heap.size, 0, none⟩ = some (.int .i64 0) := HC4.out.keeps (by first | omega | (simp; done) | (simp; omega)) (by omega) (by simp [go_sem, *])
    have fw4_0 : w4.frozen? ⟨w.heap.size, 0, none⟩ = false := HC4.out.free (by first | omega | (simp; done) | (simp; omega)) (by omega) (by simp [go_sem, *])
    have kw4_1 : w4.cell? ⟨w.heap.size, 1, none⟩ = some (.int .i64 0) := HC4.out.keeps (by first | omega | (simp; done) | (simp; omega)) (by omega) (by simp [go_sem, *])
    have fw4_1 : w4.frozen? ⟨w.heap.size, 1, none⟩ = false := HC4.out.free (by first | omega | (simp; done) | (simp; omega)) (by omega) (by simp [go_sem, *])
    have kw4_2 : w4.cell? ⟨w1.heap.size, 0, none⟩ = some (.int .i64 x) := HC4.out.keeps (by first | omega | (simp; done) | (simp; omega)) (by omega) (by simp [go_sem, *])
    have fw4_2 : w4.frozen? ⟨w1.heap.size, 0, none⟩ = false := HC4.out.free (by first | omega | (simp; done) | (simp; omega)) (by omega) (by simp [go_sem, *])
    have kw4_3 : w4.cell? ⟨w1.heap.size, 1, none⟩ = some (.int .i64 y) := HC4.out.keeps (by first | omega | (simp; done) | (simp; omega)) (by omega) (by simp [go_sem, *])
    have fw4_3 : w4.frozen? ⟨w1.heap.size, 1, none⟩ = false := HC4.out.free (by first | omega | (simp; done) | (simp; omega)) (by omega) (by simp [go_sem, *])
    have HW := Lib.hid (((((H.out.alloc _).trans HC1.out).alloc _).trans HC4.out).le (show _ ≤ n + 20 by omega))
    have hw := HW.out
    go_wp2
    refine bodyPost_ret (by simp [results, Try.results97, go_sem, *]; try rfl) rfl ?_
    exact ⟨⟨u, v, Lib.hid ⟨⟨by omega, by omega⟩, ⟨by omega, by omega⟩⟩, rfl⟩, by (repeat' (first | (with_reducible assumption) | (with_reducible refine Cu.write ?_ _ _ _ (by first | omega | (simp; omega)) (by first | omega | (simp; omega))) | (with_reducible refine Cu.alloc ?_ _)))⟩
  · have hzb2 : (z == 2) = false := by simp; omega
    have HW := Lib.hid (((((H.out.alloc _).trans HC1.out).alloc _).trans HC2.out).le (show _ ≤ n + 20 by omega))
    have hw := HW.out
    go_wp2
    refine bodyPost_ret (by simp [results, Try.results97, go_sem, *]; try rfl) rfl ?_
    exact ⟨⟨x, y, HXY, rfl⟩, by (repeat' (first | (with_reducible assumption) | (with_reducible refine Cu.write ?_ _ _ _ (by first | omega | (simp; omega)) (by first | omega | (simp; omega))) | (with_reducible refine Cu.alloc ?_ _)))⟩
set_option maxHeartbeats 8000000 in
theorem DrawFractionOf_any {A : Option Addr} {l c : Nat} {w : World} (hB : Bytes w A l) :
    Calls Try.prog 40 #[.slice A l c] w fun e w' => (∃ x y : Int, Hid (I64 x ∧ I64 y) ∧ e = .returned (.tuple #[.int .i64 x, .int .i64 y])) ∧ Below w.heap.size w w' := by
  have HB := Lib.hid hB
  clear hB
  go_enter Try.func40, Try.ntmps40
  go_wp2_with fail
  (go_at_call 93; refine (pick_any (HB.out.cursor rfl) (by omega) 2001 (by omega) (by omega)).mono ?_; rintro e w1 ⟨⟨x, x0, x1, rfl⟩, C1⟩)
  have HC1 := Lib.hid C1
  clear C1
  go_wp2_with fail
  (go_at_call 92; refine (among_new HC1.out (by omega) [1000000000000000001, -9223372036854775808] rfl rfl (by simp) (by simp) (-9223372036854775808) 1000000000000000001 (by simp only [List.forall_mem_cons, List.not_mem_nil, false_implies, implies_true, and_true]; omega)).mono ?_; rintro e w2 ⟨⟨y, y0, y1, rfl⟩, C2⟩)
  have HC2 := Lib.hid C2
  clear C2
  have s2 : w.heap.size < w2.heap.size := by have := HC2.out.2.size; simp at this; omega
  go_wp2_with fail
  have HE := Lib.hid (elems_new (w := w2) (o := .cells ([0, 1, -1, 6, -4, 12, x - 1000, 1000000000, 1000000001, 1000000000000000000, -1000000000000000000, y].map (Value.int .i64)).toArray 3) (m := 12) [0, 1, -1, 6, -4, 12, x - 1000, 1000000000, 1000000001, 1000000000000000000, -1000000000000000000, y] rfl (lo := -9223372036854775808) (hi := 1000000000000000001) (by simp only [List.forall_mem_cons, List.not_mem_nil, false_implies, implies_true, and_true]; omega) rfl)
  have s2n : w2.heap.size ≠ w.heap.size := by omega
  (go_at_call 92; refine (among_any (HC2.out.alloc _).start (by omega) w2.heap.size 12 12 (by omega) (by omega) _ _ HE.out (by simp) s2n).mono ?_; rintro e w3 ⟨⟨u, u0, u1, rfl⟩, C3⟩)
  have HC3 := Lib.hid C3
  clear C3
  have HE3 := Lib.hid (HC3.out.elems HE.out (by simp) s2n)
  have s3 : w2.heap.size < w3.heap.size := by have := HC3.out.2.size; simp at this; omega
  go_wp2_with fail
  (go_at_call 92; refine (among_any HC3.out (by omega) w2.heap.size 12 12 (by omega) (by omega) _ _ HE3.out s3 s2n).mono ?_; rintro e w4 ⟨⟨v, v0, v1, rfl⟩, C4⟩)
  have HC4 := Lib.hid C4
  clear C4
  go_wp2
  refine bodyPost_ret (by simp [results, Try.results40, go_sem, *]; try rfl) rfl ?_
  exact ⟨⟨u, v, Lib.hid ⟨⟨by omega, by omega⟩, ⟨by omega, by omega⟩⟩, rfl⟩, ((HC2.out.alloc _).trans HC4.out).out⟩
set_option maxHeartbeats 8000000 in
theorem DrawSumOf_any {A : Option Addr} {l c : Nat} {w : World} (hB : Bytes w A l) :
    Calls Try.prog 29 #[.slice A l c] w fun e w' => (∃ x0 y0 x1 y1 : Int, Hid (I64 x0 ∧ I64 y0 ∧ I64 x1 ∧ I64 y1) ∧ e = .returned (.tuple #[.agg #[.int .i64 x0, .int .i64 y0], .agg #[.int .i64 x1, .int .i64 y1]])) ∧ Below w.heap.size w w' := by
  have HB := Lib.hid hB
  clear hB
  go_enter Try.func29, Try.ntmps29
  go_wp2_with fail
  (go_at_call 97; refine (anyFraction_any ((HB.out.below (by (repeat' (first | (with_reducible exact Below.refl _ _) | (with_reducible assumption) | (with_reducible refine Below.alloc ?_ ?_ _) | (with_reducible refine Below.drew ?_) | (with_reducible refine below_drewN ?_ _) | (with_reducible refine Below.setCell ?_ ?_ _) | go_size)))).cursorAt (b := w.heap.size + 1 + 1) (by simp) rfl) (by omega)).mono ?_; rintro e w1 ⟨⟨x, y, HXY, rfl⟩, C1⟩)
  have HC1 := Lib.hid C1
  clear C1
  have s1 : w.heap.size + 1 + 1 < w1.heap.size := by have := HC1.out.2.size; simp at this; omega
  have s1a : w.heap.size < w1.heap.size := by omega
  have s1b : w.heap.size + 1 < w1.heap.size := by omega
  have kw1_0 : w1.cell? ⟨w.heap.size, 0, none⟩ = some (.int .i64 0) := HC1.out.keeps (by first | omega | (simp; done) | (simp; omega)) (by omega) (by simp [go_sem, *])
  have fw1_0 : w1.frozen? ⟨w.heap.size, 0, none⟩ = false := HC1.out.free (by first | omega | (simp; done) | (simp; omega)) (by omega) (by simp [go_sem, *])
  have kw1_1 : w1.cell? ⟨w.heap.size, 1, none⟩ = some (.int .i64 0) := HC1.out.keeps (by first | omega | (simp; done) | (simp; omega)) (by omega) (by simp [go_sem, *])
  have fw1_1 : w1.frozen? ⟨w.heap.size, 1, none⟩ = false := HC1.out.free (by first | omega | (simp; done) | (simp; omega)) (by omega) (by simp [go_sem, *])
  have kw1_2 : w1.cell? ⟨w.heap.size + 1, 0, none⟩ = some (.int .i64 0) := HC1.out.keeps (by first | omega | (simp; done) | (simp; omega)) (by omega) (by simp [go_sem, *])
  have fw1_2 : w1.frozen? ⟨w.heap.size + 1, 0, none⟩ = false := HC1.out.free (by first | omega | (simp; done) | (simp; omega)) (by omega) (by simp [go_sem, *])
  have kw1_3 : w1.cell? ⟨w.heap.size + 1, 1, none⟩ = some (.int .i64 0) := HC1.out.keeps (by first | omega | (simp; done) | (simp; omega)) (by omega) (by simp [go_sem, *])
  have fw1_3 : w1.frozen? ⟨w.heap.size + 1, 1, none⟩ = false := HC1.out.free (by first | omega | (simp; done) | (simp; omega)) (by omega) (by simp [go_sem, *])
  go_wp2_with fail
  (go_at_call 98; refine (one_any (HC1.out.alloc _).start (by omega) 8 (by omega) (by omega)).mono ?_; rintro e w2 ⟨⟨z, rfl⟩, C2⟩)
  have HC2 := Lib.hid C2
  clear C2
  have s2 : w1.heap.size < w2.heap.size := by have := HC2.out.2.size; simp at this; omega
  have s2a : w.heap.size < w2.heap.size := by omega
  have s2b : w.heap.size + 1 < w2.heap.size := by omega
  have s2c : w.heap.size + 1 + 1 < w2.heap.size := by omega
  have kw2_0 : w2.cell? ⟨w.heap.size, 0, none⟩ = some (.int .i64 0) := HC2.out.keeps (by first | omega | (simp; done) | (simp; omega)) (by omega) (by simp [go_sem, *])
  have fw2_0 : w2.frozen? ⟨w.heap.size, 0, none⟩ = false := HC2.out.free (by first | omega | (simp; done) | (simp; omega)) (by omega) (by simp [go_sem, *])
  have kw2_1 : w2.cell? ⟨w.heap.size, 1, none⟩ = some (.int .i64 0) := HC2.out.keeps (by first | omega | (simp; done) | (simp; omega)) (by omega) (by simp [go_sem, *])
  have fw2_1 : w2.frozen? ⟨w.heap.size, 1, none⟩ = false := HC2.out.free (by first | omega | (simp; done) | (simp; omega)) (by omega) (by simp [go_sem, *])
  have kw2_2 : w2.cell? ⟨w.heap.size + 1, 0, none⟩ = some (.int .i64 0) := HC2.out.keeps (by first | omega | (simp; done) | (simp; omega)) (by omega) (by simp [go_sem, *])
  have fw2_2 : w2.frozen? ⟨w.heap.size + 1, 0, none⟩ = false := HC2.out.free (by first | omega | (simp; done) | (simp; omega)) (by omega) (by simp [go_sem, *])
  have kw2_3 : w2.cell? ⟨w.heap.size + 1, 1, none⟩ = some (.int .i64 0) := HC2.out.keeps (by first | omega | (simp; done) | (simp; omega)) (by omega) (by simp [go_sem, *])
  have fw2_3 : w2.frozen? ⟨w.heap.size + 1, 1, none⟩ = false := HC2.out.free (by first | omega | (simp; done) | (simp; omega)) (by omega) (by simp [go_sem, *])
  have kw2_4 : w2.cell? ⟨w1.heap.size, 0, none⟩ = some (.int .i64 x) := HC2.out.keeps (by first | omega | (simp; done) | (simp; omega)) (by omega) (by simp [go_sem, *])
  have fw2_4 : w2.frozen? ⟨w1.heap.size, 0, none⟩ = false := HC2.out.free (by first | omega | (simp; done) | (simp; omega)) (by omega) (by simp [go_sem, *])
  have kw2_5 : w2.cell? ⟨w1.heap.size, 1, none⟩ = some (.int .i64 y) := HC2.out.keeps (by first | omega | (simp; done) | (simp; omega)) (by omega) (by simp [go_sem, *])
  have fw2_5 : w2.frozen? ⟨w1.heap.size, 1, none⟩ = false := HC2.out.free (by first | omega | (simp; done) | (simp; omega)) (by omega) (by simp [go_sem, *])
  have hB2 : Below w.heap.size w w2 := ((HC1.out.alloc _).trans HC2.out).belowOf (by (repeat' (first | (with_reducible exact Below.refl _ _) | (with_reducible assumption) | (with_reducible refine Below.alloc ?_ ?_ _) | (with_reducible refine Below.drew ?_) | (with_reducible refine below_drewN ?_ _) | (with_reducible refine Below.setCell ?_ ?_ _) | go_size))) (by omega) (by simp; omega)
  cases z
  · go_wp2_with fail
    go_region_with (go_at_call 97; refine (anyFraction_any (HC2.out.below (by (repeat' (first | (with_reducible exact Below.refl _ _) | (with_reducible assumption) | (with_reducible refine Below.alloc ?_ ?_ _) | (with_reducible refine Below.drew ?_) | (with_reducible refine below_drewN ?_ _) | (with_reducible refine Below.setCell ?_ ?_ _) | go_size)))) (by omega)).mono ?_; rintro e w3 ⟨⟨u, v, HUV, rfl⟩, C3⟩; have HC3 := Lib.hid C3; clear C3; (have s3 : w1.heap.size < w3.heap.size := by have := HC3.out.2.size; simp at this; omega); (have s3a : w.heap.size < w3.heap.size := by omega); (have s3b : w.heap.size + 1 < w3.heap.size := by omega); (have s3c : w.heap.size + 1 + 1 < w3.heap.size := by omega); (have hB3 : Below w.heap.size w w3 := ((HC1.out.alloc _).trans HC3.out).belowOf (by (repeat' (first | (with_reducible exact Below.refl _ _) | (with_reducible assumption) | (with_reducible refine Below.alloc ?_ ?_ _) | (with_reducible refine Below.drew ?_) | (with_reducible refine below_drewN ?_ _) | (with_reducible refine Below.setCell ?_ ?_ _) | go_size))) (by omega) (by simp; omega)); (have kw3_0 : w3.cell? ⟨w.heap.size, 0, none⟩ = some (.int .i64 0) := HC3.out.keeps (by first | omega | (simp; done) | (simp; omega)) (by omega) (by simp [go_sem, *])); (have fw3_0 : w3.frozen? ⟨w.heap.size, 0, none⟩ = false := HC3.out.free (by first | omega | (simp; done) | (simp; omega)) (by omega) (by simp [go_sem, *])); (have kw3_1 : w3.cell? ⟨w.heap.size, 1, none⟩ = some (.int .i64 0) := HC3.out.keeps (by first | omega | (simp; done) | (simp; omega)) (by omega) (by simp [go_sem, *])); (have fw3_1 : w3.frozen? ⟨w.heap.size, 1, none⟩ = false := HC3.out.free (by first | omega | (simp; done) | (simp; omega)) (by omega) (by simp [go_sem, *])); (have kw3_2 : w3.cell? ⟨w.heap.size + 1, 0, none⟩ = some (.int .i64 0) := HC3.out.keeps (by first | omega | (simp; done) | (simp; omega)) (by omega) (by simp [go_sem, *])); (have fw3_2 : w3.frozen? ⟨w.heap.size + 1, 0, none⟩ = false := HC3.out.free (by first | omega | (simp; done) | (simp; omega)) (by omega) (by simp [go_sem, *])); (have kw3_3 : w3.cell? ⟨w.heap.size + 1, 1, none⟩ = some (.int .i64 0) := HC3.out.keeps (by first | omega | (simp; done) | (simp; omega)) (by omega) (by simp [go_sem, *])); (have fw3_3 : w3.frozen? ⟨w.heap.size + 1, 1, none⟩ = false := HC3.out.free (by first | omega | (simp; done) | (simp; omega)) (by omega) (by simp [go_sem, *])); (have kw3_4 : w3.cell? ⟨w1.heap.size, 0, none⟩ = some (.int .i64 x) := HC3.out.keeps (by first | omega | (simp; done) | (simp; omega)) (by omega) (by simp [go_sem, *])); (have fw3_4 : w3.frozen? ⟨w1.heap.size, 0, none⟩ = false := HC3.out.free (by first | omega | (simp; done) | (simp; omega)) (by omega) (by simp [go_sem, *])); (have kw3_5 : w3.cell? ⟨w1.heap.size, 1, none⟩ = some (.int .i64 y) := HC3.out.keeps (by first | omega | (simp; done) | (simp; omega)) (by omega) (by simp [go_sem, *])); (have fw3_5 : w3.frozen? ⟨w1.heap.size, 1, none⟩ = false := HC3.out.free (by first | omega | (simp; done) | (simp; omega)) (by omega) (by simp [go_sem, *])))
    all_goals
      go_wp2
      refine bodyPost_ret (by simp [results, Try.results29, go_sem, *]; try rfl) rfl ?_
      exact ⟨⟨x, y, _, _, Lib.hid ⟨HXY.out.1, HXY.out.2, HUV.out.1, HUV.out.2⟩, rfl⟩, by repeat' (first | (with_reducible exact Below.refl _ _) | (with_reducible assumption) | (with_reducible refine Below.alloc ?_ ?_ _) | (with_reducible refine Below.drew ?_) | (with_reducible refine below_drewN ?_ _) | (with_reducible refine Below.setCell ?_ ?_ _) | go_size)⟩
  · go_wp2_with fail
    go_region
    all_goals
      go_wp2
      refine bodyPost_ret (by simp [results, Try.results29, go_sem, *]; try rfl) rfl ?_
      exact ⟨⟨x, y, x, y, Lib.hid ⟨HXY.out.1, HXY.out.2, HXY.out.1, HXY.out.2⟩, rfl⟩, by repeat' (first | (with_reducible exact Below.refl _ _) | (with_reducible assumption) | (with_reducible refine Below.alloc ?_ ?_ _) | (with_reducible refine Below.drew ?_) | (with_reducible refine below_drewN ?_ _) | (with_reducible refine Below.setCell ?_ ?_ _) | go_size)⟩
end Go.Proofs.Ytklhmaegpejdbaa
