/- Contracts of the residues' draws: any numbers within bounds. -/
import Derived.Test.YtklhmaegpejdbaaDrawK
import Derived.Test.YtklhmaegpejdbaaPrimeNum
namespace Go.Proofs.Ytklhmaegpejdbaa
open Go.RowKit
set_option linter.unusedVariables false
set_option linter.unusedSimpArgs false
set_option maxRecDepth 100000
set_option maxHeartbeats 4000000 in
theorem primeOf_any {W w : World} {b : Nat} {A : Option Addr} {l c n : Nat} (h : Cu W b A l c n w) (hn : n ≤ 999990000) :
    Calls Try.prog 94 #[.pointer (some ⟨b, 0, none⟩)] w fun e w' => (∃ x : Int, -7 ≤ x ∧ x ≤ 1009 ∧ e = .returned (.int .i64 x)) ∧ Cu W b A l c (n + 4) w' := by
  have H := Lib.hid h
  clear h
  go_enter Try.func94, Try.ntmps94
  go_wp2_with fail
  (go_at_call 92; refine (among_new H.out (by omega) [(0 : Int), (1 : Int), (4 : Int), (91 : Int), (1009 : Int), (-7 : Int)] rfl rfl (by simp) (by simp) (-7) (1009) (by simp only [List.forall_mem_cons, List.not_mem_nil, false_implies, implies_true, and_true]; omega)).mono ?_; rintro e w1 ⟨⟨x, x0, x1, rfl⟩, C1⟩)
  have HC1 := Lib.hid C1
  clear C1
  go_wp2_with fail
  (go_at_call 92; refine (among_new HC1.out (by omega) [(2 : Int), (3 : Int), (5 : Int), (7 : Int), (11 : Int), (13 : Int), (17 : Int), (31 : Int), (97 : Int), (101 : Int), (991 : Int), (997 : Int), (x : Int)] rfl rfl (by simp) (by simp) (-7) (1009) (by simp only [List.forall_mem_cons, List.not_mem_nil, false_implies, implies_true, and_true]; omega)).mono ?_; rintro e w2 ⟨⟨y, y0, y1, rfl⟩, C2⟩)
  have HC2 := Lib.hid C2
  clear C2
  go_wp2
  go_ret
  exact ⟨⟨_, by omega, by omega, rfl⟩, (HC2.out).le (by omega)⟩
set_option maxHeartbeats 4000000 in
theorem residueOf_any {W w : World} {b : Nat} {A : Option Addr} {l c n : Nat} (h : Cu W b A l c n w) (hn : n ≤ 999990000) :
    Calls Try.prog 91 #[.pointer (some ⟨b, 0, none⟩)] w fun e w' => (∃ x : Int, -1000000000001 ≤ x ∧ x ≤ 1000000000001 ∧ e = .returned (.int .i64 x)) ∧ Cu W b A l c (n + 6) w' := by
  have H := Lib.hid h
  clear h
  go_enter Try.func91, Try.ntmps91
  go_wp2_with fail
  (go_at_call 93; refine (pick_any H.out (by omega) 60000 (by omega) (by omega)).mono ?_; rintro e w1 ⟨⟨x, x0, x1, rfl⟩, C1⟩)
  have HC1 := Lib.hid C1
  clear C1
  go_wp2_with fail
  (go_at_call 92; refine (among_new HC1.out (by omega) [(1000000000001 : Int), (-1000000000001 : Int)] rfl rfl (by simp) (by simp) (-1000000000001) (1000000000001) (by simp only [List.forall_mem_cons, List.not_mem_nil, false_implies, implies_true, and_true]; omega)).mono ?_; rintro e w2 ⟨⟨y, y0, y1, rfl⟩, C2⟩)
  have HC2 := Lib.hid C2
  clear C2
  go_wp2_with fail
  (go_at_call 92; refine (among_new HC2.out (by omega) [(0 : Int), (1 : Int), (-1 : Int), (2 : Int), (3 : Int), (6 : Int), (10 : Int), (x - 30000 : Int), (1000000000000 : Int), (-1000000000000 : Int), (y : Int)] rfl rfl (by simp) (by simp) (-1000000000001) (1000000000001) (by simp only [List.forall_mem_cons, List.not_mem_nil, false_implies, implies_true, and_true]; omega)).mono ?_; rintro e w3 ⟨⟨z, z0, z1, rfl⟩, C3⟩)
  have HC3 := Lib.hid C3
  clear C3
  go_wp2
  go_ret
  exact ⟨⟨_, by omega, by omega, rfl⟩, (HC3.out).le (by omega)⟩
set_option maxHeartbeats 4000000 in
theorem DrawResidueOf_any {A : Option Addr} {l c : Nat} {w : World} (hB : Bytes w A l) :
    Calls Try.prog 77 #[.slice A l c] w fun e w' => (∃ z0 z1 : Int, -1000000000001 ≤ z0 ∧ z0 ≤ 1000000000001 ∧ -7 ≤ z1 ∧ z1 ≤ 1009 ∧ e = .returned ((.tuple #[.int .i64 z0, .int .i64 z1]))) ∧ Below w.heap.size w w' := by
  have HB := Lib.hid hB
  clear hB
  go_enter Try.func77, Try.ntmps77
  go_wp2_with fail
  (go_at_call 91; refine (residueOf_any (HB.out.cursor rfl) (by omega)).mono ?_; rintro e w1 ⟨⟨a, a0, a1, rfl⟩, C1⟩)
  have HC1 := Lib.hid C1
  clear C1
  go_wp2_with fail
  (go_at_call 94; refine (primeOf_any HC1.out (by omega)).mono ?_; rintro e w2 ⟨⟨p, p0, p1, rfl⟩, C2⟩)
  have HC2 := Lib.hid C2
  clear C2
  go_wp2
  refine bodyPost_ret (by simp [results, Try.results77, go_sem, *]; try rfl) rfl ?_
  exact ⟨⟨_, _, by omega, by omega, by omega, by omega, rfl⟩, (HC2.out).out⟩
set_option maxHeartbeats 4000000 in
theorem DrawInverseOf_any {A : Option Addr} {l c : Nat} {w : World} (hB : Bytes w A l) :
    Calls Try.prog 15 #[.slice A l c] w fun e w' => (∃ z0 z1 : Int, -1000000000001 ≤ z0 ∧ z0 ≤ 1000000000001 ∧ -7 ≤ z1 ∧ z1 ≤ 1009 ∧ e = .returned (.tuple #[.int .i64 z0, .int .i64 z1])) ∧ Below w.heap.size w w' := by
  go_enter Try.func15, Try.ntmps15
  go_wp2_with (go_at_call 77; refine (DrawResidueOf_any hB).mono ?_; rintro e w1 ⟨⟨z0, z1, a0, a1, p0, p1, rfl⟩, hb1⟩)
  refine bodyPost_ret (by simp [results, Try.results15, go_sem, *]; try rfl) rfl ?_
  exact ⟨⟨_, _, a0, a1, p0, p1, rfl⟩, hb1⟩
set_option maxHeartbeats 4000000 in
theorem DrawPowerOf_any {A : Option Addr} {l c : Nat} {w : World} (hB : Bytes w A l) :
    Calls Try.prog 27 #[.slice A l c] w fun e w' => (∃ z0 z1 z2 : Int, -1000000000001 ≤ z0 ∧ z0 ≤ 1000000000001 ∧ -1 ≤ z1 ∧ z1 ≤ 1000000001 ∧ -7 ≤ z2 ∧ z2 ≤ 1009 ∧ e = .returned ((.tuple #[.int .i64 z0, .int .i64 z1, .int .i64 z2]))) ∧ Below w.heap.size w w' := by
  have HB := Lib.hid hB
  clear hB
  go_enter Try.func27, Try.ntmps27
  go_wp2_with fail
  (go_at_call 91; refine (residueOf_any (HB.out.cursor rfl) (by omega)).mono ?_; rintro e w1 ⟨⟨a, a0, a1, rfl⟩, C1⟩)
  have HC1 := Lib.hid C1
  clear C1
  go_wp2_with fail
  (go_at_call 93; refine (pick_any HC1.out (by omega) 60000 (by omega) (by omega)).mono ?_; rintro e w2 ⟨⟨x, x0, x1, rfl⟩, C2⟩)
  have HC2 := Lib.hid C2
  clear C2
  go_wp2_with fail
  (go_at_call 92; refine (among_new HC2.out (by omega) [(1000000001 : Int), (-1 : Int)] rfl rfl (by simp) (by simp) (-1) (1000000001) (by simp only [List.forall_mem_cons, List.not_mem_nil, false_implies, implies_true, and_true]; omega)).mono ?_; rintro e w3 ⟨⟨y, y0, y1, rfl⟩, C3⟩)
  have HC3 := Lib.hid C3
  clear C3
  go_wp2_with fail
  (go_at_call 92; refine (among_new HC3.out (by omega) [(0 : Int), (1 : Int), (2 : Int), (5 : Int), (996 : Int), (x : Int), (1000000000 : Int), (y : Int)] rfl rfl (by simp) (by simp) (-1) (1000000001) (by simp only [List.forall_mem_cons, List.not_mem_nil, false_implies, implies_true, and_true]; omega)).mono ?_; rintro e w4 ⟨⟨k, k0, k1, rfl⟩, C4⟩)
  have HC4 := Lib.hid C4
  clear C4
  go_wp2_with fail
  (go_at_call 94; refine (primeOf_any HC4.out (by omega)).mono ?_; rintro e w5 ⟨⟨p, p0, p1, rfl⟩, C5⟩)
  have HC5 := Lib.hid C5
  clear C5
  go_wp2
  refine bodyPost_ret (by simp [results, Try.results27, go_sem, *]; try rfl) rfl ?_
  exact ⟨⟨_, _, _, by omega, by omega, by omega, by omega, by omega, by omega, rfl⟩, (HC5.out).out⟩
set_option maxHeartbeats 4000000 in
theorem DrawPrimitiveRoot_any {A : Option Addr} {l c : Nat} {w : World} (hB : Bytes w A l) :
    Calls Try.prog 51 #[.slice A l c] w fun e w' => (∃ z0 : Int, -7 ≤ z0 ∧ z0 ≤ 1009 ∧ e = .returned (.int .i64 z0)) ∧ Below w.heap.size w w' := by
  have HB := Lib.hid hB
  clear hB
  go_enter Try.func51, Try.ntmps51
  go_wp2_with fail
  (go_at_call 94; refine (primeOf_any (HB.out.cursor rfl) (by omega)).mono ?_; rintro e w1 ⟨⟨p, p0, p1, rfl⟩, C1⟩)
  have HC1 := Lib.hid C1
  clear C1
  go_wp2
  go_ret
  exact ⟨⟨_, by omega, by omega, rfl⟩, (HC1.out).out⟩
set_option maxHeartbeats 4000000 in
theorem DrawLogarithmOf_any {A : Option Addr} {l c : Nat} {w : World} (hB : Bytes w A l) :
    Calls Try.prog 54 #[.slice A l c] w fun e w' => (∃ z0 z1 z2 : Int, -1000000000001 ≤ z0 ∧ z0 ≤ 1000000000001 ∧ -1000000000001 ≤ z1 ∧ z1 ≤ 1000000000001 ∧ -7 ≤ z2 ∧ z2 ≤ 1009 ∧ e = .returned ((.tuple #[.int .i64 z0, .int .i64 z1, .int .i64 z2]))) ∧ Below w.heap.size w w' := by
  have HB := Lib.hid hB
  clear hB
  go_enter Try.func54, Try.ntmps54
  go_wp2_with fail
  (go_at_call 91; refine (residueOf_any (HB.out.cursor rfl) (by omega)).mono ?_; rintro e w1 ⟨⟨a, a0, a1, rfl⟩, C1⟩)
  have HC1 := Lib.hid C1
  clear C1
  go_wp2_with fail
  (go_at_call 91; refine (residueOf_any HC1.out (by omega)).mono ?_; rintro e w2 ⟨⟨g, g0, g1, rfl⟩, C2⟩)
  have HC2 := Lib.hid C2
  clear C2
  go_wp2_with fail
  (go_at_call 92; refine (among_new HC2.out (by omega) [(2 : Int), (3 : Int), (5 : Int), (g : Int)] rfl rfl (by simp) (by simp) (-1000000000001) (1000000000001) (by simp only [List.forall_mem_cons, List.not_mem_nil, false_implies, implies_true, and_true]; omega)).mono ?_; rintro e w3 ⟨⟨q, q0, q1, rfl⟩, C3⟩)
  have HC3 := Lib.hid C3
  clear C3
  go_wp2_with fail
  (go_at_call 94; refine (primeOf_any HC3.out (by omega)).mono ?_; rintro e w4 ⟨⟨p, p0, p1, rfl⟩, C4⟩)
  have HC4 := Lib.hid C4
  clear C4
  go_wp2
  refine bodyPost_ret (by simp [results, Try.results54, go_sem, *]; try rfl) rfl ?_
  exact ⟨⟨_, _, _, by omega, by omega, by omega, by omega, by omega, by omega, rfl⟩, (HC4.out).out⟩
set_option maxHeartbeats 4000000 in
theorem DrawFactorsOf_any {A : Option Addr} {l c : Nat} {w : World} (hB : Bytes w A l) :
    Calls Try.prog 46 #[.slice A l c] w fun e w' => (∃ z0 : Int, 0 ≤ z0 ∧ z0 ≤ 10000000001 ∧ e = .returned (.int .i64 z0)) ∧ Below w.heap.size w w' := by
  have HB := Lib.hid hB
  clear hB
  go_enter Try.func46, Try.ntmps46
  go_wp2_with fail
  (go_at_call 93; refine (pick_any (HB.out.cursor rfl) (by omega) 60000 (by omega) (by omega)).mono ?_; rintro e w1 ⟨⟨x, x0, x1, rfl⟩, C1⟩)
  have HC1 := Lib.hid C1
  clear C1
  go_wp2_with fail
  (go_at_call 92; refine (among_new HC1.out (by omega) [(0 : Int), (10000000001 : Int)] rfl rfl (by simp) (by simp) (0) (10000000001) (by simp only [List.forall_mem_cons, List.not_mem_nil, false_implies, implies_true, and_true]; omega)).mono ?_; rintro e w2 ⟨⟨y, y0, y1, rfl⟩, C2⟩)
  have HC2 := Lib.hid C2
  clear C2
  go_wp2_with fail
  (go_at_call 92; refine (among_new HC2.out (by omega) [(1 : Int), (2 : Int), (360 : Int), (997 : Int), (1018081 : Int), (99400891 : Int), (1073741824 : Int), (x + 1 : Int), (6700000000 : Int), (10000000000 : Int), (y : Int)] rfl rfl (by simp) (by simp) (0) (10000000001) (by simp only [List.forall_mem_cons, List.not_mem_nil, false_implies, implies_true, and_true]; omega)).mono ?_; rintro e w3 ⟨⟨z, z0, z1, rfl⟩, C3⟩)
  have HC3 := Lib.hid C3
  clear C3
  go_wp2
  go_ret
  exact ⟨⟨_, by omega, by omega, rfl⟩, (HC3.out).out⟩
set_option maxHeartbeats 4000000 in
theorem DrawPrimesUpTo_any {A : Option Addr} {l c : Nat} {w : World} (hB : Bytes w A l) :
    Calls Try.prog 60 #[.slice A l c] w fun e w' => (∃ z0 : Int, 0 ≤ z0 ∧ z0 ≤ 998 ∧ e = .returned (.int .i64 z0)) ∧ Below w.heap.size w w' := by
  have HB := Lib.hid hB
  clear hB
  go_enter Try.func60, Try.ntmps60
  go_wp2_with fail
  (go_at_call 93; refine (pick_any (HB.out.cursor rfl) (by omega) 997 (by omega) (by omega)).mono ?_; rintro e w1 ⟨⟨x, x0, x1, rfl⟩, C1⟩)
  have HC1 := Lib.hid C1
  clear C1
  go_wp2_with fail
  (go_at_call 92; refine (among_new HC1.out (by omega) [(0 : Int), (998 : Int)] rfl rfl (by simp) (by simp) (0) (998) (by simp only [List.forall_mem_cons, List.not_mem_nil, false_implies, implies_true, and_true]; omega)).mono ?_; rintro e w2 ⟨⟨y, y0, y1, rfl⟩, C2⟩)
  have HC2 := Lib.hid C2
  clear C2
  go_wp2_with fail
  (go_at_call 92; refine (among_new HC2.out (by omega) [(1 : Int), (2 : Int), (10 : Int), (100 : Int), (x + 1 : Int), (997 : Int), (y : Int)] rfl rfl (by simp) (by simp) (0) (998) (by simp only [List.forall_mem_cons, List.not_mem_nil, false_implies, implies_true, and_true]; omega)).mono ?_; rintro e w3 ⟨⟨z, z0, z1, rfl⟩, C3⟩)
  have HC3 := Lib.hid C3
  clear C3
  go_wp2
  go_ret
  exact ⟨⟨_, by omega, by omega, rfl⟩, (HC3.out).out⟩
set_option maxHeartbeats 4000000 in
theorem DrawIsPrimeNumber_any {A : Option Addr} {l c : Nat} {w : World} (hB : Bytes w A l) :
    Calls Try.prog 64 #[.slice A l c] w fun e w' => (∃ z0 : Int, -7 ≤ z0 ∧ z0 ≤ 1009 ∧ e = .returned (.int .i64 z0)) ∧ Below w.heap.size w w' := by
  have HB := Lib.hid hB
  clear hB
  go_enter Try.func64, Try.ntmps64
  go_wp2_with fail
  (go_at_call 94; refine (primeOf_any (HB.out.cursor rfl) (by omega)).mono ?_; rintro e w1 ⟨⟨p, p0, p1, rfl⟩, C1⟩)
  have HC1 := Lib.hid C1
  clear C1
  go_wp2_with fail
  (go_at_call 93; refine (pick_any HC1.out (by omega) 1000 (by omega) (by omega)).mono ?_; rintro e w2 ⟨⟨x, x0, x1, rfl⟩, C2⟩)
  have HC2 := Lib.hid C2
  clear C2
  go_wp2_with fail
  (go_at_call 92; refine (among_new HC2.out (by omega) [(p : Int), (x : Int), (2 : Int), (961 : Int), (997 : Int), (998 : Int)] rfl rfl (by simp) (by simp) (-7) (1009) (by simp only [List.forall_mem_cons, List.not_mem_nil, false_implies, implies_true, and_true]; omega)).mono ?_; rintro e w3 ⟨⟨z, z0, z1, rfl⟩, C3⟩)
  have HC3 := Lib.hid C3
  clear C3
  go_wp2
  go_ret
  exact ⟨⟨_, by omega, by omega, rfl⟩, (HC3.out).out⟩
theorem mul_bd (x y X Y M : Int) (hx0 : -X ≤ x) (hx1 : x ≤ X) (hy0 : -Y ≤ y) (hy1 : y ≤ Y) (hM : X * Y ≤ M) : -M ≤ x * y ∧ x * y ≤ M := by
  have h5 : x.natAbs * y.natAbs ≤ X.natAbs * Y.natAbs := Nat.mul_le_mul (by omega) (by omega)
  rw [← Int.natAbs_mul, ← Int.natAbs_mul] at h5
  have h6 : 0 ≤ X * Y := Int.mul_nonneg (by omega) (by omega)
  omega
set_option maxHeartbeats 8000000 in
theorem DrawValuationOf_any {A : Option Addr} {l c : Nat} {w : World} (hB : Bytes w A l) :
    Calls Try.prog 57 #[.slice A l c] w fun e w' => (∃ z0 z1 : Int, -1000000000001 ≤ z0 ∧ z0 ≤ 1000000000001 ∧ -7 ≤ z1 ∧ z1 ≤ 1009 ∧ e = .returned (.tuple #[.int .i64 z0, .int .i64 z1])) ∧ Below w.heap.size w w' := by
  have HB := Lib.hid hB
  clear hB
  go_enter Try.func57, Try.ntmps57
  go_wp2_with fail
  (go_at_call 94; refine (primeOf_any (HB.out.cursor rfl) (by omega)).mono ?_; rintro e w1 ⟨⟨p, p0, p1, rfl⟩, C1⟩)
  have HC1 := Lib.hid C1
  clear C1
  go_wp2_with fail
  (go_at_call 91; refine (residueOf_any HC1.out (by omega)).mono ?_; rintro e w2 ⟨⟨a, a0, a1, rfl⟩, C2⟩)
  have HC2 := Lib.hid C2
  clear C2
  have e1 : IntKind.i64.wrap (-p) = -p := IntWalk.i64_in _ (by omega)
  obtain ⟨p2, hp2⟩ : ∃ q, p * p = q := ⟨_, rfl⟩
  have g2 : -10000000 ≤ p2 ∧ p2 ≤ 10000000 := hp2 ▸ mul_bd p p 1009 1009 10000000 (by omega) (by omega) (by omega) (by omega) (by omega)
  obtain ⟨p3, hp3⟩ : ∃ q, 7 * p * p = q := ⟨_, rfl⟩
  have g3 : -100000000 ≤ p3 ∧ p3 ≤ 100000000 := hp3 ▸ mul_bd (7 * p) p 7063 1009 100000000 (by omega) (by omega) (by omega) (by omega) (by omega)
  obtain ⟨p4, hp4⟩ : ∃ q, p3 * p = q := ⟨_, rfl⟩
  have g4 : -1000000000000 ≤ p4 ∧ p4 ≤ 1000000000000 := hp4 ▸ mul_bd p3 p 100000000 1009 1000000000000 (by omega) (by omega) (by omega) (by omega) (by omega)
  rcases Bool.eq_false_or_eq_true (primeB p) with hp | hp
  · go_wp2_with fail
    (go_at_call 107; refine (mdPrime_any _ _).mono ?_; rintro e w' ⟨rfl, rfl⟩)
    go_wp2_with fail
    (go_at_call 98; refine (one_any HC2.out (by omega) 2 (by omega) (by omega)).mono ?_; rintro e w3 ⟨⟨x, rfl⟩, C3⟩)
    have HC3 := Lib.hid C3
    clear C3
    cases x
    · go_wp2
      refine bodyPost_ret (by simp [results, Try.results57, go_sem, *]; try rfl) rfl ?_
      exact ⟨⟨_, _, by omega, by omega, by omega, by omega, rfl⟩, HC3.out.out⟩
    · go_wp2_with fail
      (go_at_call 92; refine (among_new HC3.out (by omega) [p, -p, p2, p4, 12] rfl rfl (by simp) (by simp) (-1000000000000) 1000000000000 (by simp only [List.forall_mem_cons, List.not_mem_nil, false_implies, implies_true, and_true]; omega)).mono ?_; rintro e w4 ⟨⟨y, y0, y1, rfl⟩, C4⟩)
      have HC4 := Lib.hid C4
      clear C4
      go_wp2
      refine bodyPost_ret (by simp [results, Try.results57, go_sem, *]; try rfl) rfl ?_
      exact ⟨⟨_, _, by omega, by omega, by omega, by omega, rfl⟩, HC4.out.out⟩
  · go_wp2_with (go_at_call 107; refine (mdPrime_any _ _).mono ?_; rintro e w' ⟨rfl, rfl⟩)
    refine bodyPost_ret (by simp [results, Try.results57, go_sem, *]; try rfl) rfl ?_
    exact ⟨⟨_, _, by omega, by omega, by omega, by omega, rfl⟩, HC2.out.out⟩
end Go.Proofs.Ytklhmaegpejdbaa
