/- The walk of FnResidues. -/
import Derived.Test.YtklhmaegpejdbaaReLaw
import Derived.Test.YtklhmaegpejdbaaDrawR
import Derived.Test.YtklhmaegpejdbaaDrawL
import Derived.Deep.DeepCutAuto
namespace Go.Proofs.Ytklhmaegpejdbaa.Fr
open Go.RowKit
set_option linter.unusedVariables false
set_option linter.unusedSimpArgs false
set_option maxRecDepth 100000
theorem hidEq {α : Type} (x : α) : ∃ y, Hid (x = y) := ⟨x, Lib.hid rfl⟩
theorem loose {P : Program} {f : FuncId} {args : Array Value} {w : World} {v : Value} (h : Calls P f args w fun e w' => e = .returned v ∧ w = w') : Calls P f args w fun e w' => e = .returned v ∧ Below w.heap.size w w' :=
  h.mono fun e w' ⟨h1, h2⟩ => ⟨h1, h2 ▸ Below.refl _ _⟩
def bigB (l m : Int) : Bool := decide (1048576 < l) || decide (1048576 - l < m)
theorem big_any (A0 : Option Addr) (l0 c0 : Nat) (A1 : Option Addr) (l1 c1 : Nat) (h0 : l0 ≤ 9223372036854775807) (h1 : l1 ≤ 9223372036854775807) (w : World) :
    Calls Try.prog 14 #[.slice A0 l0 c0, .slice A1 l1 c1] w fun e w' => e = .returned (.bool (bigB l0 l1)) ∧ Below w.heap.size w w' := by
  by_cases a : 1048576 < (l0 : Int)
  · have e : bigB l0 l1 = true := by simp [bigB, a]
    rw [e]
    go_enter Try.func14, Try.ntmps14
    go_wp2
    go_ret
    exact ⟨rfl, by repeat' (first | (with_reducible exact Below.refl _ _) | (with_reducible assumption) | (with_reducible refine Below.alloc ?_ ?_ _) | (with_reducible refine Below.drew ?_) | (with_reducible refine below_drewN ?_ _) | (with_reducible refine Below.setCell ?_ ?_ _) | go_size)⟩
  · by_cases b : 1048576 - (l0 : Int) < (l1 : Int)
    · have e : bigB l0 l1 = true := by simp [bigB, b]
      rw [e]
      go_enter Try.func14, Try.ntmps14
      go_wp2
      go_ret
      exact ⟨rfl, by repeat' (first | (with_reducible exact Below.refl _ _) | (with_reducible assumption) | (with_reducible refine Below.alloc ?_ ?_ _) | (with_reducible refine Below.drew ?_) | (with_reducible refine below_drewN ?_ _) | (with_reducible refine Below.setCell ?_ ?_ _) | go_size)⟩
    · have e : bigB l0 l1 = false := by simp [bigB, a, b]
      rw [e]
      go_enter Try.func14, Try.ntmps14
      go_wp2
      go_ret
      exact ⟨rfl, by repeat' (first | (with_reducible exact Below.refl _ _) | (with_reducible assumption) | (with_reducible refine Below.alloc ?_ ?_ _) | (with_reducible refine Below.drew ?_) | (with_reducible refine below_drewN ?_ _) | (with_reducible refine Below.setCell ?_ ?_ _) | go_size)⟩
theorem tmod_of {x p r : Int} (h0 : 0 ≤ x) (h : x % p = r) : x.tmod p = r := by rw [Int.tmod_eq_emod_of_nonneg h0]; exact h
theorem nn_mul {x y : Int} (hx : 0 ≤ x) (hy : 0 ≤ y) : 0 ≤ x * y := Int.mul_nonneg hx hy
theorem le_mul {x y : Int} (hx : 0 ≤ x) (hx2 : x ≤ 997) (hy : 0 ≤ y) (hy2 : y ≤ 997) : x * y ≤ 994009 := by
  have := Int.mul_le_mul hx2 hy2 hy (by omega : (0:Int) ≤ 997); omega
theorem wrap_mul {x y : Int} (hx : 0 ≤ x) (hx2 : x ≤ 997) (hy : 0 ≤ y) (hy2 : y ≤ 997) : IntKind.i64.wrap (x * y) = x * y :=
  IntWalk.i64_in _ (by have := nn_mul hx hy; have := le_mul hx hx2 hy hy2; omega)
set_option maxHeartbeats 4000000 in
theorem frWalk (A0 : Option Addr) (l0 c0 : Nat) (A1 : Option Addr) (l1 c1 : Nat) (w : World) (hB0 : Bytes w A0 l0) (hB1 : Bytes w A1 l1) :
    Calls Try.prog 5 #[.slice A0 l0 c0, .slice A1 l1 c1] w fun e w' => e = .returned (.bool true) ∧ Below w.heap.size w w' := by
  have KB0 := Lib.hid hB0
  have KB1 := Lib.hid hB1
  have q0 := hB0.1
  have q1 := hB1.1
  clear hB0 hB1
  have HB0 := Lib.hid (Below.refl w.heap.size w)
  obtain ⟨bg, Hbg⟩ := hidEq (bigB l0 l1)
  have Cbig : Hid (∀ w : World, Calls Try.prog 14 #[.slice A0 l0 c0, .slice A1 l1 c1] w fun e w' => e = .returned (.bool bg) ∧ Below w.heap.size w w') := Lib.hid (fun w => by rw [← Hbg.out]; exact big_any A0 l0 c0 A1 l1 c1 q0 q1 w)
  clear Hbg
  go_enter Try.func5, Try.ntmps5
  go_wp2_with fail
  (go_at_call 14; refine (Cbig.out _).mono ?_; rintro e w1 ⟨rfl, hb1⟩)
  have HB1 := Lib.hid (HB0.out.trans ((show Below w.heap.size w w1 from Below.trans (by (repeat' (first | (with_reducible exact Below.refl _ _) | (with_reducible assumption) | (with_reducible refine Below.alloc ?_ ?_ _) | (with_reducible refine Below.drew ?_) | (with_reducible refine below_drewN ?_ _) | (with_reducible refine Below.setCell ?_ ?_ _) | go_size))) (hb1.mono (by go_size))).mono HB0.out.size))
  clear hb1
  rcases Bool.eq_false_or_eq_true bg with rfl | rfl
  · go_wp2
    go_ret
    exact ⟨rfl, HB1.out.trans (by (repeat' (first | (with_reducible exact Below.refl _ _) | (with_reducible assumption) | (with_reducible refine Below.alloc ?_ ?_ _) | (with_reducible refine Below.drew ?_) | (with_reducible refine below_drewN ?_ _) | (with_reducible refine Below.setCell ?_ ?_ _) | go_size)))⟩
  go_wp2_with fail
  (go_at_call 15; refine (DrawInverseOf_any (KB0.out.below HB1.out)).mono ?_; rintro e w2 ⟨⟨a, p, a0, a1, p0, p1, rfl⟩, hb2⟩)
  have HB2 := Lib.hid (HB1.out.trans ((show Below w1.heap.size w1 w2 from Below.trans (by (repeat' (first | (with_reducible exact Below.refl _ _) | (with_reducible assumption) | (with_reducible refine Below.alloc ?_ ?_ _) | (with_reducible refine Below.drew ?_) | (with_reducible refine below_drewN ?_ _) | (with_reducible refine Below.setCell ?_ ?_ _) | go_size))) (hb2.mono (by go_size))).mono HB1.out.size))
  clear hb2
  obtain ⟨iv, Hiv⟩ := hidEq (inverseR a p)
  obtain ⟨re, Hre⟩ := hidEq (residueR a p)
  obtain ⟨od, Hod⟩ := hidEq (orderR a p)
  obtain ⟨rt, Hrt⟩ := hidEq (sqrtR a p)
  obtain ⟨sy, Hsy⟩ := hidEq (symR a p)
  obtain ⟨ub, Hub⟩ := hidEq (unitB a p)
  obtain ⟨fb, Hfb⟩ := hidEq (fitsB a p)
  obtain ⟨sb, Hsb⟩ := hidEq (sqrtB a p)
  obtain ⟨yb, Hyb⟩ := hidEq (symB a p)
  have CivI : Hid (∀ w : World, Calls Try.prog 16 #[.int .i64 a, .int .i64 p] w fun e w' => e = .returned (.tuple #[.int .i64 iv, .bool ub]) ∧ Below w.heap.size w w') := Lib.hid (fun w => by rw [← Hiv.out, ← Hub.out]; exact implInverseOf_any a p w)
  have CivS : Hid (∀ w : World, Calls Try.prog 17 #[.int .i64 a, .int .i64 p] w fun e w' => e = .returned (.tuple #[.int .i64 iv, .bool ub]) ∧ Below w.heap.size w w') := Lib.hid (fun w => by rw [← Hiv.out, ← Hub.out]; exact loose (specInverseOf_any a p w))
  have CreI : Hid (∀ w : World, Calls Try.prog 18 #[.int .i64 a, .int .i64 p] w fun e w' => e = .returned (.tuple #[.int .i64 re, .bool fb]) ∧ Below w.heap.size w w') := Lib.hid (fun w => by rw [← Hre.out, ← Hfb.out]; exact loose (implResidueOf_any a p w))
  have CreS : Hid (∀ w : World, Calls Try.prog 19 #[.int .i64 a, .int .i64 p] w fun e w' => e = .returned (.tuple #[.int .i64 re, .bool fb]) ∧ Below w.heap.size w w') := Lib.hid (fun w => by rw [← Hre.out, ← Hfb.out]; exact loose (specResidueOf_any a p w))
  have CodI : Hid (∀ w : World, Calls Try.prog 20 #[.int .i64 a, .int .i64 p] w fun e w' => e = .returned (.tuple #[.int .i64 od, .bool ub]) ∧ Below w.heap.size w w') := Lib.hid (fun w => by rw [← Hod.out, ← Hub.out]; exact loose (implOrderOf_any a p w))
  have CodS : Hid (∀ w : World, Calls Try.prog 21 #[.int .i64 a, .int .i64 p] w fun e w' => e = .returned (.tuple #[.int .i64 od, .bool ub]) ∧ Below w.heap.size w w') := Lib.hid (fun w => by rw [← Hod.out, ← Hub.out]; exact loose (specOrderOf_any a p w))
  have CrtI : Hid (∀ w : World, Calls Try.prog 22 #[.int .i64 a, .int .i64 p] w fun e w' => e = .returned (.tuple #[.int .i64 rt, .bool sb]) ∧ Below w.heap.size w w') := Lib.hid (fun w => by rw [← Hrt.out, ← Hsb.out]; exact loose (implSquareRoot_any a p w))
  have CrtS : Hid (∀ w : World, Calls Try.prog 23 #[.int .i64 a, .int .i64 p] w fun e w' => e = .returned (.tuple #[.int .i64 rt, .bool sb]) ∧ Below w.heap.size w w') := Lib.hid (fun w => by rw [← Hrt.out, ← Hsb.out]; exact specSquareRoot_any a p w)
  have CsyI : Hid (∀ w : World, Calls Try.prog 24 #[.int .i64 a, .int .i64 p] w fun e w' => e = .returned (.tuple #[.int .i64 sy, .bool yb]) ∧ Below w.heap.size w w') := Lib.hid (fun w => by rw [← Hsy.out, ← Hyb.out]; exact implSquareSymbol_any a p w)
  have CsyS : Hid (∀ w : World, Calls Try.prog 25 #[.int .i64 a, .int .i64 p] w fun e w' => e = .returned (.tuple #[.int .i64 sy, .bool yb]) ∧ Below w.heap.size w w') := Lib.hid (fun w => by rw [← Hsy.out, ← Hyb.out]; exact loose (specSquareSymbol_any a p w))
  have LU : Hid (ub = true → fb = true ∧ (2 ≤ p ∧ p ≤ 997) ∧ (1 ≤ iv ∧ iv < p) ∧ (0 ≤ re ∧ re < p) ∧ IntKind.i64.wrap (re * iv) = re * iv ∧ (re * iv).tmod p = 1 ∧ (1 ≤ od ∧ od ≤ 996) ∧ (p - 1).tmod od = 0 ∧
      (∀ w : World, Calls Try.prog 26 #[.int .i64 a, .int .i64 od, .int .i64 p] w fun e w' => e = .returned (.tuple #[.int .i64 1, .bool true]) ∧ Below w.heap.size w w') ∧ (∀ w : World, Calls Try.prog 16 #[.int .i64 iv, .int .i64 p] w fun e w' => e = .returned (.tuple #[.int .i64 re, .bool true]) ∧ Below w.heap.size w w')) := Lib.hid (fun h => by
    rw [← Hub.out] at h
    obtain ⟨i0, i1, i2, i3, i4, i5⟩ := inv_law h
    obtain ⟨o0, o1, o2, o3⟩ := ord_law h
    have hf := unit_fits h
    rw [Hiv.out] at i1 i3 i4 i5
    rw [Hre.out] at i2 i3 i5
    rw [Hod.out] at o0 o1 o2 o3
    rw [Hfb.out] at hf
    refine ⟨hf, i0, i1, i2, wrap_mul (by omega) (by omega) (by omega) (by omega), tmod_of (nn_mul (by omega) (by omega)) i3, o0, tmod_of (by omega) o1, fun w => ?_, fun w => ?_⟩
    · have := implPowerOf_any a od p w; rw [o2, o3] at this; exact this
    · have := implInverseOf_any iv p w; rw [i4, i5] at this; exact this)
  have LS : Hid (sb = true → fb = true ∧ (2 ≤ p ∧ p ≤ 997) ∧ (0 ≤ rt ∧ rt < p) ∧ IntKind.i64.wrap (rt * rt) = rt * rt ∧ (rt * rt).tmod p = re) := Lib.hid (fun h => by
    rw [← Hsb.out] at h
    obtain ⟨i0, i1, i2⟩ := root_law h
    have hf := sqrt_fits h
    rw [Hrt.out] at i1 i2
    rw [Hre.out] at i2
    rw [Hfb.out] at hf
    exact ⟨hf, i0, i1, wrap_mul (by omega) (by omega) (by omega) (by omega), tmod_of (nn_mul (by omega) (by omega)) i2⟩)
  have LY : Hid (yb = true → fb = true ∧ (-1 ≤ sy ∧ sy ≤ 1) ∧ decide (0 ≤ sy) = sb ∧ (sy = 0 ↔ re = 0) ∧ (0 ≤ re ∧ re ≤ 996) ∧ ∃ k7 t7 : Int, IntKind.i64.wrap (k7 * sy) = t7 ∧ (∀ w : World, Calls Try.prog 24 #[.int .i64 7, .int .i64 p] w fun e w' => e = .returned (.tuple #[.int .i64 k7, .bool true]) ∧ Below w.heap.size w w') ∧ (∀ w : World, Calls Try.prog 25 #[.int .i64 7, .int .i64 p] w fun e w' => e = .returned (.tuple #[.int .i64 k7, .bool true]) ∧ Below w.heap.size w w') ∧ (∀ w : World, Calls Try.prog 24 #[.int .i64 (7 * re), .int .i64 p] w fun e w' => e = .returned (.tuple #[.int .i64 t7, .bool true]) ∧ Below w.heap.size w w') ∧ (∀ w : World, Calls Try.prog 25 #[.int .i64 (7 * re), .int .i64 p] w fun e w' => e = .returned (.tuple #[.int .i64 t7, .bool true]) ∧ Below w.heap.size w w')) := Lib.hid (fun h => by
    rw [← Hyb.out] at h
    have hf := (symB_parts h).1
    have c := sym_cases h
    have r := sym_root h
    have z := sym_zero h
    obtain ⟨m0, m1, m2, m3⟩ := sym_mul h
    have c7 := sym_cases m1
    rw [Hsy.out] at c r z m3
    rw [Hre.out] at z m0 m2 m3
    rw [Hsb.out] at r
    rw [Hfb.out] at hf
    refine ⟨hf, by omega, r.symm, by rw [z], m0, symR 7 p, symR (7 * re) p, ?_, fun w => ?_, fun w => ?_, fun w => ?_, fun w => ?_⟩
    · rw [m3]; rcases c with rfl | rfl | rfl <;> rcases c7 with e | e | e <;> rw [e] <;> rfl
    · have := implSquareSymbol_any 7 p w; rw [m1] at this; exact this
    · have := loose (specSquareSymbol_any 7 p w); rw [m1] at this; exact this
    · have := implSquareSymbol_any (7 * re) p w; rw [m2] at this; exact this
    · have := loose (specSquareSymbol_any (7 * re) p w); rw [m2] at this; exact this)
  clear Hiv Hre Hod Hrt Hsy Hub Hfb Hsb Hyb
  go_wp2_with fail
  (go_at_call 16; refine (CivI.out _).mono ?_; rintro e w3 ⟨rfl, hb3⟩)
  have HB3 := Lib.hid (HB2.out.trans ((show Below w2.heap.size w2 w3 from Below.trans (by (repeat' (first | (with_reducible exact Below.refl _ _) | (with_reducible assumption) | (with_reducible refine Below.alloc ?_ ?_ _) | (with_reducible refine Below.drew ?_) | (with_reducible refine below_drewN ?_ _) | (with_reducible refine Below.setCell ?_ ?_ _) | go_size))) (hb3.mono (by go_size))).mono HB2.out.size))
  clear hb3
  go_wp2_with fail
  (go_at_call 17; refine (CivS.out _).mono ?_; rintro e w4 ⟨rfl, hb4⟩)
  have HB4 := Lib.hid (HB3.out.trans ((show Below w3.heap.size w3 w4 from Below.trans (by (repeat' (first | (with_reducible exact Below.refl _ _) | (with_reducible assumption) | (with_reducible refine Below.alloc ?_ ?_ _) | (with_reducible refine Below.drew ?_) | (with_reducible refine below_drewN ?_ _) | (with_reducible refine Below.setCell ?_ ?_ _) | go_size))) (hb4.mono (by go_size))).mono HB3.out.size))
  clear hb4
  go_wp2_with fail
  (go_at_call 18; refine (CreI.out _).mono ?_; rintro e w5 ⟨rfl, hb5⟩)
  have HB5 := Lib.hid (HB4.out.trans ((show Below w4.heap.size w4 w5 from Below.trans (by (repeat' (first | (with_reducible exact Below.refl _ _) | (with_reducible assumption) | (with_reducible refine Below.alloc ?_ ?_ _) | (with_reducible refine Below.drew ?_) | (with_reducible refine below_drewN ?_ _) | (with_reducible refine Below.setCell ?_ ?_ _) | go_size))) (hb5.mono (by go_size))).mono HB4.out.size))
  clear hb5
  go_wp2_with fail
  (go_at_call 19; refine (CreS.out _).mono ?_; rintro e w6 ⟨rfl, hb6⟩)
  have HB6 := Lib.hid (HB5.out.trans ((show Below w5.heap.size w5 w6 from Below.trans (by (repeat' (first | (with_reducible exact Below.refl _ _) | (with_reducible assumption) | (with_reducible refine Below.alloc ?_ ?_ _) | (with_reducible refine Below.drew ?_) | (with_reducible refine below_drewN ?_ _) | (with_reducible refine Below.setCell ?_ ?_ _) | go_size))) (hb6.mono (by go_size))).mono HB5.out.size))
  clear hb6
  go_wp2_with fail
  (go_at_call 20; refine (CodI.out _).mono ?_; rintro e w7 ⟨rfl, hb7⟩)
  have HB7 := Lib.hid (HB6.out.trans ((show Below w6.heap.size w6 w7 from Below.trans (by (repeat' (first | (with_reducible exact Below.refl _ _) | (with_reducible assumption) | (with_reducible refine Below.alloc ?_ ?_ _) | (with_reducible refine Below.drew ?_) | (with_reducible refine below_drewN ?_ _) | (with_reducible refine Below.setCell ?_ ?_ _) | go_size))) (hb7.mono (by go_size))).mono HB6.out.size))
  clear hb7
  go_wp2_with fail
  (go_at_call 21; refine (CodS.out _).mono ?_; rintro e w8 ⟨rfl, hb8⟩)
  have HB8 := Lib.hid (HB7.out.trans ((show Below w7.heap.size w7 w8 from Below.trans (by (repeat' (first | (with_reducible exact Below.refl _ _) | (with_reducible assumption) | (with_reducible refine Below.alloc ?_ ?_ _) | (with_reducible refine Below.drew ?_) | (with_reducible refine below_drewN ?_ _) | (with_reducible refine Below.setCell ?_ ?_ _) | go_size))) (hb8.mono (by go_size))).mono HB7.out.size))
  clear hb8
  go_wp2_with fail
  (go_at_call 22; refine (CrtI.out _).mono ?_; rintro e w9 ⟨rfl, hb9⟩)
  have HB9 := Lib.hid (HB8.out.trans ((show Below w8.heap.size w8 w9 from Below.trans (by (repeat' (first | (with_reducible exact Below.refl _ _) | (with_reducible assumption) | (with_reducible refine Below.alloc ?_ ?_ _) | (with_reducible refine Below.drew ?_) | (with_reducible refine below_drewN ?_ _) | (with_reducible refine Below.setCell ?_ ?_ _) | go_size))) (hb9.mono (by go_size))).mono HB8.out.size))
  clear hb9
  go_wp2_with fail
  (go_at_call 23; refine (CrtS.out _).mono ?_; rintro e w10 ⟨rfl, hb10⟩)
  have HB10 := Lib.hid (HB9.out.trans ((show Below w9.heap.size w9 w10 from Below.trans (by (repeat' (first | (with_reducible exact Below.refl _ _) | (with_reducible assumption) | (with_reducible refine Below.alloc ?_ ?_ _) | (with_reducible refine Below.drew ?_) | (with_reducible refine below_drewN ?_ _) | (with_reducible refine Below.setCell ?_ ?_ _) | go_size))) (hb10.mono (by go_size))).mono HB9.out.size))
  clear hb10
  go_wp2_with fail
  (go_at_call 24; refine (CsyI.out _).mono ?_; rintro e w11 ⟨rfl, hb11⟩)
  have HB11 := Lib.hid (HB10.out.trans ((show Below w10.heap.size w10 w11 from Below.trans (by (repeat' (first | (with_reducible exact Below.refl _ _) | (with_reducible assumption) | (with_reducible refine Below.alloc ?_ ?_ _) | (with_reducible refine Below.drew ?_) | (with_reducible refine below_drewN ?_ _) | (with_reducible refine Below.setCell ?_ ?_ _) | go_size))) (hb11.mono (by go_size))).mono HB10.out.size))
  clear hb11
  go_wp2_with fail
  (go_at_call 25; refine (CsyS.out _).mono ?_; rintro e w12 ⟨rfl, hb12⟩)
  have HB12 := Lib.hid (HB11.out.trans ((show Below w11.heap.size w11 w12 from Below.trans (by (repeat' (first | (with_reducible exact Below.refl _ _) | (with_reducible assumption) | (with_reducible refine Below.alloc ?_ ?_ _) | (with_reducible refine Below.drew ?_) | (with_reducible refine below_drewN ?_ _) | (with_reducible refine Below.setCell ?_ ?_ _) | go_size))) (hb12.mono (by go_size))).mono HB11.out.size))
  clear hb12
  go_upto_region 14 with fail
  go_cut [186] from 1 to 0 (fun t wx => t = .bool false ∧ Hid (Below w.heap.size w wx))
  case first =>
    cases fb
    · obtain rfl : ub = false := by cases ub; rfl; exact absurd (LU.out rfl).1 (by simp)
      obtain rfl : sb = false := by cases sb; rfl; exact absurd (LS.out rfl).1 (by simp)
      go_wp2
      go_meet
      exact ⟨rfl, Lib.hid (HB12.out.trans (by (repeat' (first | (with_reducible exact Below.refl _ _) | (with_reducible assumption) | (with_reducible refine Below.alloc ?_ ?_ _) | (with_reducible refine Below.drew ?_) | (with_reducible refine below_drewN ?_ _) | (with_reducible refine Below.setCell ?_ ?_ _) | go_size))))⟩
    · cases ub
      · cases sb
        · skip
          go_wp2
          go_meet
          exact ⟨rfl, Lib.hid (HB12.out.trans (by (repeat' (first | (with_reducible exact Below.refl _ _) | (with_reducible assumption) | (with_reducible refine Below.alloc ?_ ?_ _) | (with_reducible refine Below.drew ?_) | (with_reducible refine below_drewN ?_ _) | (with_reducible refine Below.setCell ?_ ?_ _) | go_size))))⟩
        · skip
          go_wp2
          go_meet
          exact ⟨rfl, Lib.hid (HB12.out.trans (by (repeat' (first | (with_reducible exact Below.refl _ _) | (with_reducible assumption) | (with_reducible refine Below.alloc ?_ ?_ _) | (with_reducible refine Below.drew ?_) | (with_reducible refine below_drewN ?_ _) | (with_reducible refine Below.setCell ?_ ?_ _) | go_size))))⟩
      · cases sb
        · skip
          go_wp2
          go_meet
          exact ⟨rfl, Lib.hid (HB12.out.trans (by (repeat' (first | (with_reducible exact Below.refl _ _) | (with_reducible assumption) | (with_reducible refine Below.alloc ?_ ?_ _) | (with_reducible refine Below.drew ?_) | (with_reducible refine below_drewN ?_ _) | (with_reducible refine Below.setCell ?_ ?_ _) | go_size))))⟩
        · skip
          go_wp2
          go_meet
          exact ⟨rfl, Lib.hid (HB12.out.trans (by (repeat' (first | (with_reducible exact Below.refl _ _) | (with_reducible assumption) | (with_reducible refine Below.alloc ?_ ?_ _) | (with_reducible refine Below.drew ?_) | (with_reducible refine below_drewN ?_ _) | (with_reducible refine Below.setCell ?_ ?_ _) | go_size))))⟩
  case rest =>
    rename World => w13
    obtain ⟨rfl, HB13⟩ := hcut
    go_upto_if 187 with fail
    go_cut [] from 1 to 0 (fun wx => Hid (Below w.heap.size w wx))
    case first =>
      cases ub
      · skip
        go_wp2
        go_meet
        exact Lib.hid (HB13.out.trans (by (repeat' (first | (with_reducible exact Below.refl _ _) | (with_reducible assumption) | (with_reducible refine Below.alloc ?_ ?_ _) | (with_reducible refine Below.drew ?_) | (with_reducible refine below_drewN ?_ _) | (with_reducible refine Below.setCell ?_ ?_ _) | go_size))))
      · obtain ⟨-, pr, iv1, re1, ew, et, od1, ot, U1, U2⟩ := LU.out rfl
        replace U1 := Lib.hid U1
        replace U2 := Lib.hid U2
        have hod : (od == 0) = false := by simp; omega
        have hpz : (p == 0) = false := by simp; omega
        go_wp2_with fail
        (go_at_call 26; refine (U1.out _).mono ?_; rintro e w14 ⟨rfl, hb14⟩)
        have HB14 := Lib.hid (HB13.out.trans ((show Below w13.heap.size w13 w14 from Below.trans (by (repeat' (first | (with_reducible exact Below.refl _ _) | (with_reducible assumption) | (with_reducible refine Below.alloc ?_ ?_ _) | (with_reducible refine Below.drew ?_) | (with_reducible refine below_drewN ?_ _) | (with_reducible refine Below.setCell ?_ ?_ _) | go_size))) (hb14.mono (by go_size))).mono HB13.out.size))
        clear hb14
        go_wp2_with fail
        (go_at_call 16; refine (U2.out _).mono ?_; rintro e w15 ⟨rfl, hb15⟩)
        have HB15 := Lib.hid (HB14.out.trans ((show Below w14.heap.size w14 w15 from Below.trans (by (repeat' (first | (with_reducible exact Below.refl _ _) | (with_reducible assumption) | (with_reducible refine Below.alloc ?_ ?_ _) | (with_reducible refine Below.drew ?_) | (with_reducible refine below_drewN ?_ _) | (with_reducible refine Below.setCell ?_ ?_ _) | go_size))) (hb15.mono (by go_size))).mono HB14.out.size))
        clear hb15
        go_wp2
        go_meet
        exact Lib.hid (HB15.out.trans (by (repeat' (first | (with_reducible exact Below.refl _ _) | (with_reducible assumption) | (with_reducible refine Below.alloc ?_ ?_ _) | (with_reducible refine Below.drew ?_) | (with_reducible refine below_drewN ?_ _) | (with_reducible refine Below.setCell ?_ ?_ _) | go_size))))
    case rest =>
      rename World => w14
      have HB14 := hcut
      go_upto_region 23 with fail
      go_cut [247] from 1 to 0 (fun t wx => t = .bool false ∧ Hid (Below w.heap.size w wx))
      case first =>
        cases sb
        · skip
          go_wp2
          go_meet
          exact ⟨rfl, Lib.hid (HB14.out.trans (by (repeat' (first | (with_reducible exact Below.refl _ _) | (with_reducible assumption) | (with_reducible refine Below.alloc ?_ ?_ _) | (with_reducible refine Below.drew ?_) | (with_reducible refine below_drewN ?_ _) | (with_reducible refine Below.setCell ?_ ?_ _) | go_size))))⟩
        · obtain ⟨-, pr2, rt1, sw, st⟩ := LS.out rfl
          have hpz : (p == 0) = false := by simp; omega
          go_wp2
          go_meet
          exact ⟨rfl, Lib.hid (HB14.out.trans (by (repeat' (first | (with_reducible exact Below.refl _ _) | (with_reducible assumption) | (with_reducible refine Below.alloc ?_ ?_ _) | (with_reducible refine Below.drew ?_) | (with_reducible refine below_drewN ?_ _) | (with_reducible refine Below.setCell ?_ ?_ _) | go_size))))⟩
      case rest =>
        rename World => w15
        obtain ⟨rfl, HB15⟩ := hcut
        go_upto_region 25 with fail
        go_cut [264] from 1 to 0 (fun t wx => t = .bool false ∧ Hid (Below w.heap.size w wx))
        case first =>
          cases yb
          · skip
            go_wp2
            go_meet
            exact ⟨rfl, Lib.hid (HB15.out.trans (by (repeat' (first | (with_reducible exact Below.refl _ _) | (with_reducible assumption) | (with_reducible refine Below.alloc ?_ ?_ _) | (with_reducible refine Below.drew ?_) | (with_reducible refine below_drewN ?_ _) | (with_reducible refine Below.setCell ?_ ?_ _) | go_size))))⟩
          · obtain ⟨-, sy1, sd, sz, re2, k7, t7, ek, -⟩ := LY.out rfl
            clear ek
            by_cases hz : sy = 0
            · have hr := sz.1 hz
              subst hz hr
              obtain rfl : sb = true := by simpa using sd.symm
              clear sz sd
              go_wp2
              go_meet
              exact ⟨rfl, Lib.hid (HB15.out.trans (by (repeat' (first | (with_reducible exact Below.refl _ _) | (with_reducible assumption) | (with_reducible refine Below.alloc ?_ ?_ _) | (with_reducible refine Below.drew ?_) | (with_reducible refine below_drewN ?_ _) | (with_reducible refine Below.setCell ?_ ?_ _) | go_size))))⟩
            · have hr : ¬ re = 0 := fun e => hz (sz.2 e)
              have hz2 : (sy == 0) = false := beq_false_of_ne hz
              have hr2 : (re == 0) = false := beq_false_of_ne hr
              clear sz
              cases sb
              · have sd2 : ¬ 0 ≤ sy := by simpa using sd
                clear sd
                go_wp2
                go_meet
                exact ⟨rfl, Lib.hid (HB15.out.trans (by (repeat' (first | (with_reducible exact Below.refl _ _) | (with_reducible assumption) | (with_reducible refine Below.alloc ?_ ?_ _) | (with_reducible refine Below.drew ?_) | (with_reducible refine below_drewN ?_ _) | (with_reducible refine Below.setCell ?_ ?_ _) | go_size))))⟩
              · have sd2 : 0 ≤ sy := by simpa using sd
                clear sd
                go_wp2
                go_meet
                exact ⟨rfl, Lib.hid (HB15.out.trans (by (repeat' (first | (with_reducible exact Below.refl _ _) | (with_reducible assumption) | (with_reducible refine Below.alloc ?_ ?_ _) | (with_reducible refine Below.drew ?_) | (with_reducible refine below_drewN ?_ _) | (with_reducible refine Below.setCell ?_ ?_ _) | go_size))))⟩
        case rest =>
          rename World => w16
          obtain ⟨rfl, HB16⟩ := hcut
          go_upto_if 265 with fail
          go_cut [] from 1 to 0 (fun wx => Hid (Below w.heap.size w wx))
          case first =>
            cases yb
            · skip
              go_wp2
              go_meet
              exact Lib.hid (HB16.out.trans (by (repeat' (first | (with_reducible exact Below.refl _ _) | (with_reducible assumption) | (with_reducible refine Below.alloc ?_ ?_ _) | (with_reducible refine Below.drew ?_) | (with_reducible refine below_drewN ?_ _) | (with_reducible refine Below.setCell ?_ ?_ _) | go_size))))
            · obtain ⟨-, sy1, sd, sz, re2, k7, t7, ek, Y1, Y2, Y3, Y4⟩ := LY.out rfl
              replace Y1 := Lib.hid Y1
              replace Y2 := Lib.hid Y2
              replace Y3 := Lib.hid Y3
              replace Y4 := Lib.hid Y4
              clear sd sz
              go_wp2_with fail
              (go_at_call 24; refine (Y1.out _).mono ?_; rintro e w17 ⟨rfl, hb17⟩)
              have HB17 := Lib.hid (HB16.out.trans ((show Below w16.heap.size w16 w17 from Below.trans (by (repeat' (first | (with_reducible exact Below.refl _ _) | (with_reducible assumption) | (with_reducible refine Below.alloc ?_ ?_ _) | (with_reducible refine Below.drew ?_) | (with_reducible refine below_drewN ?_ _) | (with_reducible refine Below.setCell ?_ ?_ _) | go_size))) (hb17.mono (by go_size))).mono HB16.out.size))
              clear hb17
              go_wp2_with fail
              (go_at_call 25; refine (Y2.out _).mono ?_; rintro e w18 ⟨rfl, hb18⟩)
              have HB18 := Lib.hid (HB17.out.trans ((show Below w17.heap.size w17 w18 from Below.trans (by (repeat' (first | (with_reducible exact Below.refl _ _) | (with_reducible assumption) | (with_reducible refine Below.alloc ?_ ?_ _) | (with_reducible refine Below.drew ?_) | (with_reducible refine below_drewN ?_ _) | (with_reducible refine Below.setCell ?_ ?_ _) | go_size))) (hb18.mono (by go_size))).mono HB17.out.size))
              clear hb18
              go_wp2_with fail
              (go_at_call 24; refine (Y3.out _).mono ?_; rintro e w19 ⟨rfl, hb19⟩)
              have HB19 := Lib.hid (HB18.out.trans ((show Below w18.heap.size w18 w19 from Below.trans (by (repeat' (first | (with_reducible exact Below.refl _ _) | (with_reducible assumption) | (with_reducible refine Below.alloc ?_ ?_ _) | (with_reducible refine Below.drew ?_) | (with_reducible refine below_drewN ?_ _) | (with_reducible refine Below.setCell ?_ ?_ _) | go_size))) (hb19.mono (by go_size))).mono HB18.out.size))
              clear hb19
              go_wp2_with fail
              (go_at_call 25; refine (Y4.out _).mono ?_; rintro e w20 ⟨rfl, hb20⟩)
              have HB20 := Lib.hid (HB19.out.trans ((show Below w19.heap.size w19 w20 from Below.trans (by (repeat' (first | (with_reducible exact Below.refl _ _) | (with_reducible assumption) | (with_reducible refine Below.alloc ?_ ?_ _) | (with_reducible refine Below.drew ?_) | (with_reducible refine below_drewN ?_ _) | (with_reducible refine Below.setCell ?_ ?_ _) | go_size))) (hb20.mono (by go_size))).mono HB19.out.size))
              clear hb20
              go_wp2
              go_meet
              exact Lib.hid (HB20.out.trans (by (repeat' (first | (with_reducible exact Below.refl _ _) | (with_reducible assumption) | (with_reducible refine Below.alloc ?_ ?_ _) | (with_reducible refine Below.drew ?_) | (with_reducible refine below_drewN ?_ _) | (with_reducible refine Below.setCell ?_ ?_ _) | go_size))))
          case rest =>
            rename World => w17
            have HB17 := hcut
            clear LU LS LY
            go_wp2_with fail
            (go_at_call 27; refine (DrawPowerOf_any (KB1.out.below HB17.out)).mono ?_; rintro e w18 ⟨⟨u, k, q, u0, u1, k0, k1, q0, q1, rfl⟩, hb18⟩)
            have HB18 := Lib.hid (HB17.out.trans ((show Below w17.heap.size w17 w18 from Below.trans (by (repeat' (first | (with_reducible exact Below.refl _ _) | (with_reducible assumption) | (with_reducible refine Below.alloc ?_ ?_ _) | (with_reducible refine Below.drew ?_) | (with_reducible refine below_drewN ?_ _) | (with_reducible refine Below.setCell ?_ ?_ _) | go_size))) (hb18.mono (by go_size))).mono HB17.out.size))
            clear hb18
            obtain ⟨pw, Hpw⟩ := hidEq (powerR u k q)
            obtain ⟨pb, Hpb⟩ := hidEq (powerB u k q)
            have CpI : Hid (∀ w : World, Calls Try.prog 26 #[.int .i64 u, .int .i64 k, .int .i64 q] w fun e w' => e = .returned (.tuple #[.int .i64 pw, .bool pb]) ∧ Below w.heap.size w w') := Lib.hid (fun w => by rw [← Hpw.out, ← Hpb.out]; exact implPowerOf_any u k q w)
            have CpS : Hid (∀ w : World, Calls Try.prog 28 #[.int .i64 u, .int .i64 k, .int .i64 q] w fun e w' => e = .returned (.tuple #[.int .i64 pw, .bool pb]) ∧ Below w.heap.size w w') := Lib.hid (fun w => by rw [← Hpw.out, ← Hpb.out]; exact loose (specPowerOf_any u k q w))
            have LP : Hid (pb = true → 0 < k → (2 ≤ q ∧ q ≤ 997) ∧ ∃ pl ru : Int, IntKind.i64.wrap (pl * ru) = pl * ru ∧ (pl * ru).tmod q = pw ∧ (∀ w : World, Calls Try.prog 26 #[.int .i64 u, .int .i64 (k - 1), .int .i64 q] w fun e w' => e = .returned (.tuple #[.int .i64 pl, .bool true]) ∧ Below w.heap.size w w') ∧ (∀ w : World, Calls Try.prog 28 #[.int .i64 u, .int .i64 (k - 1), .int .i64 q] w fun e w' => e = .returned (.tuple #[.int .i64 pl, .bool true]) ∧ Below w.heap.size w w') ∧ (∀ w : World, Calls Try.prog 19 #[.int .i64 u, .int .i64 q] w fun e w' => e = .returned (.tuple #[.int .i64 ru, .bool true]) ∧ Below w.heap.size w w')) := Lib.hid (fun h hk => by
              rw [← Hpb.out] at h
              obtain ⟨i0, i1, i2, i3, i4, i5⟩ := pow_law h hk
              rw [Hpw.out] at i5
              refine ⟨i0, powerR u (k - 1) q, residueR u q, wrap_mul (by omega) (by omega) (by omega) (by omega), tmod_of (nn_mul (by omega) (by omega)) i5, fun w => ?_, fun w => ?_, fun w => ?_⟩
              · have := implPowerOf_any u (k - 1) q w; rw [i1] at this; exact this
              · have := loose (specPowerOf_any u (k - 1) q w); rw [i1] at this; exact this
              · have := loose (specResidueOf_any u q w); rw [i2] at this; exact this)
            clear Hpw Hpb
            go_wp2_with fail
            (go_at_call 26; refine (CpI.out _).mono ?_; rintro e w19 ⟨rfl, hb19⟩)
            have HB19 := Lib.hid (HB18.out.trans ((show Below w18.heap.size w18 w19 from Below.trans (by (repeat' (first | (with_reducible exact Below.refl _ _) | (with_reducible assumption) | (with_reducible refine Below.alloc ?_ ?_ _) | (with_reducible refine Below.drew ?_) | (with_reducible refine below_drewN ?_ _) | (with_reducible refine Below.setCell ?_ ?_ _) | go_size))) (hb19.mono (by go_size))).mono HB18.out.size))
            clear hb19
            go_wp2_with fail
            (go_at_call 28; refine (CpS.out _).mono ?_; rintro e w20 ⟨rfl, hb20⟩)
            have HB20 := Lib.hid (HB19.out.trans ((show Below w19.heap.size w19 w20 from Below.trans (by (repeat' (first | (with_reducible exact Below.refl _ _) | (with_reducible assumption) | (with_reducible refine Below.alloc ?_ ?_ _) | (with_reducible refine Below.drew ?_) | (with_reducible refine below_drewN ?_ _) | (with_reducible refine Below.setCell ?_ ?_ _) | go_size))) (hb20.mono (by go_size))).mono HB19.out.size))
            clear hb20
            cases pb
            · skip
              go_wp2
              go_ret
              exact ⟨rfl, HB20.out.trans (by (repeat' (first | (with_reducible exact Below.refl _ _) | (with_reducible assumption) | (with_reducible refine Below.alloc ?_ ?_ _) | (with_reducible refine Below.drew ?_) | (with_reducible refine below_drewN ?_ _) | (with_reducible refine Below.setCell ?_ ?_ _) | go_size)))⟩
            · by_cases hk : 0 < k
              · obtain ⟨i0, pl, ru, e1, e2, D1, D2, D3⟩ := LP.out rfl hk
                replace D1 := Lib.hid D1
                replace D2 := Lib.hid D2
                replace D3 := Lib.hid D3
                have hq : (q == 0) = false := by simp; omega
                go_wp2_with fail
                (go_at_call 26; refine (D1.out _).mono ?_; rintro e w21 ⟨rfl, hb21⟩)
                have HB21 := Lib.hid (HB20.out.trans ((show Below w20.heap.size w20 w21 from Below.trans (by (repeat' (first | (with_reducible exact Below.refl _ _) | (with_reducible assumption) | (with_reducible refine Below.alloc ?_ ?_ _) | (with_reducible refine Below.drew ?_) | (with_reducible refine below_drewN ?_ _) | (with_reducible refine Below.setCell ?_ ?_ _) | go_size))) (hb21.mono (by go_size))).mono HB20.out.size))
                clear hb21
                go_wp2_with fail
                (go_at_call 28; refine (D2.out _).mono ?_; rintro e w22 ⟨rfl, hb22⟩)
                have HB22 := Lib.hid (HB21.out.trans ((show Below w21.heap.size w21 w22 from Below.trans (by (repeat' (first | (with_reducible exact Below.refl _ _) | (with_reducible assumption) | (with_reducible refine Below.alloc ?_ ?_ _) | (with_reducible refine Below.drew ?_) | (with_reducible refine below_drewN ?_ _) | (with_reducible refine Below.setCell ?_ ?_ _) | go_size))) (hb22.mono (by go_size))).mono HB21.out.size))
                clear hb22
                go_wp2_with fail
                (go_at_call 19; refine (D3.out _).mono ?_; rintro e w23 ⟨rfl, hb23⟩)
                have HB23 := Lib.hid (HB22.out.trans ((show Below w22.heap.size w22 w23 from Below.trans (by (repeat' (first | (with_reducible exact Below.refl _ _) | (with_reducible assumption) | (with_reducible refine Below.alloc ?_ ?_ _) | (with_reducible refine Below.drew ?_) | (with_reducible refine below_drewN ?_ _) | (with_reducible refine Below.setCell ?_ ?_ _) | go_size))) (hb23.mono (by go_size))).mono HB22.out.size))
                clear hb23
                go_wp2
                go_ret
                exact ⟨rfl, HB23.out.trans (by (repeat' (first | (with_reducible exact Below.refl _ _) | (with_reducible assumption) | (with_reducible refine Below.alloc ?_ ?_ _) | (with_reducible refine Below.drew ?_) | (with_reducible refine below_drewN ?_ _) | (with_reducible refine Below.setCell ?_ ?_ _) | go_size)))⟩
              · skip
                go_wp2
                go_ret
                exact ⟨rfl, HB20.out.trans (by (repeat' (first | (with_reducible exact Below.refl _ _) | (with_reducible assumption) | (with_reducible refine Below.alloc ?_ ?_ _) | (with_reducible refine Below.drew ?_) | (with_reducible refine below_drewN ?_ _) | (with_reducible refine Below.setCell ?_ ?_ _) | go_size)))⟩
end Go.Proofs.Ytklhmaegpejdbaa.Fr
