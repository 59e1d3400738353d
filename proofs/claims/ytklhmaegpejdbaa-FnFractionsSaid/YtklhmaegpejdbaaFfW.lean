/- The walk of FnFractions. -/
import Derived.Test.YtklhmaegpejdbaaFrLaw2
import Derived.Test.YtklhmaegpejdbaaDrawF
import Derived.Test.YtklhmaegpejdbaaDrawL
namespace Go.Proofs.Ytklhmaegpejdbaa.Ff
open Go.RowKit
set_option linter.unusedVariables false
set_option linter.unusedSimpArgs false
set_option maxRecDepth 100000
theorem hidEq {α : Type} (x : α) : ∃ y, Hid (x = y) := ⟨x, Lib.hid rfl⟩
set_option maxHeartbeats 16000000 in
theorem ffWalk (A0 : Option Addr) (l0 c0 : Nat) (A1 : Option Addr) (l1 c1 : Nat) (w : World) (hB0 : Bytes w A0 l0) (hB1 : Bytes w A1 l1) :
    Calls Try.prog 6 #[.slice A0 l0 c0, .slice A1 l1 c1] w fun e w' => e = .returned (.bool true) ∧ Below w.heap.size w w' := by
  have KB0 := Lib.hid hB0
  have KB1 := Lib.hid hB1
  have q0 := hB0.1
  have q1 := hB1.1
  clear hB0 hB1
  have HB0 := Lib.hid (Below.refl w.heap.size w)
  by_cases hbig : 1048576 < wrap64 ((l0 : Int) + (l1 : Int))
  · go_enter Try.func6, Try.ntmps6
    go_wp2
    go_ret
    exact ⟨rfl, by repeat' (first | (with_reducible exact Below.refl _ _) | (with_reducible assumption) | (with_reducible refine Below.alloc ?_ ?_ _) | (with_reducible refine Below.drew ?_) | (with_reducible refine below_drewN ?_ _) | (with_reducible refine Below.setCell ?_ ?_ _) | go_size)⟩
  go_enter Try.func6, Try.ntmps6
  go_wp2_with fail
  (go_at_call 29; refine (DrawSumOf_any KB0.out).mono ?_; rintro e w1 ⟨⟨x0, y0, x1, y1, HI64, rfl⟩, hb1⟩)
  have T1 := Lib.hid (show Below w.heap.size w w1 from Below.trans (by (repeat' (first | (with_reducible exact Below.refl _ _) | (with_reducible assumption) | (with_reducible refine Below.alloc ?_ ?_ _) | (with_reducible refine Below.drew ?_) | (with_reducible refine below_drewN ?_ _) | (with_reducible refine Below.setCell ?_ ?_ _) | go_size))) (hb1.mono (by go_size)))
  have HB1 := Lib.hid (HB0.out.trans (T1.out.mono HB0.out.size))
  have z1 := HB1.out.size
  clear hb1
  obtain ⟨sN, HsN⟩ := hidEq (sumN x0 y0 x1 y1)
  obtain ⟨sE, HsE⟩ := hidEq (sumE x0 y0 x1 y1)
  obtain ⟨sB, HsB⟩ := hidEq (sumB x0 y0 x1 y1)
  have CsI : Hid (∀ w : World, Calls Try.prog 30 #[.agg #[.int .i64 x0, .int .i64 y0], .agg #[.int .i64 x1, .int .i64 y1]] w fun e w' => e = .returned (.tuple #[.agg #[.int .i64 sN, .int .i64 sE], .bool sB]) ∧ Below w.heap.size w w') := Lib.hid (fun w => by rw [← HsN.out, ← HsE.out, ← HsB.out]; exact implSumOf_any x0 y0 x1 y1 w)
  have CsS : Hid (∀ w : World, Calls Try.prog 31 #[.agg #[.int .i64 x0, .int .i64 y0], .agg #[.int .i64 x1, .int .i64 y1]] w fun e w' => e = .returned (.tuple #[.agg #[.int .i64 sN, .int .i64 sE], .bool sB]) ∧ Below w.heap.size w w') := Lib.hid (fun w => by rw [← HsN.out, ← HsE.out, ← HsB.out]; exact specSumOf_any x0 y0 x1 y1 w)
  obtain ⟨dN, HdN⟩ := hidEq (differenceN x0 y0 x1 y1)
  obtain ⟨dE, HdE⟩ := hidEq (differenceE x0 y0 x1 y1)
  obtain ⟨dB, HdB⟩ := hidEq (differenceB x0 y0 x1 y1)
  have CdI : Hid (∀ w : World, Calls Try.prog 32 #[.agg #[.int .i64 x0, .int .i64 y0], .agg #[.int .i64 x1, .int .i64 y1]] w fun e w' => e = .returned (.tuple #[.agg #[.int .i64 dN, .int .i64 dE], .bool dB]) ∧ Below w.heap.size w w') := Lib.hid (fun w => by rw [← HdN.out, ← HdE.out, ← HdB.out]; exact implDifferenceOf_any x0 y0 x1 y1 w)
  have CdS : Hid (∀ w : World, Calls Try.prog 33 #[.agg #[.int .i64 x0, .int .i64 y0], .agg #[.int .i64 x1, .int .i64 y1]] w fun e w' => e = .returned (.tuple #[.agg #[.int .i64 dN, .int .i64 dE], .bool dB]) ∧ Below w.heap.size w w') := Lib.hid (fun w => by rw [← HdN.out, ← HdE.out, ← HdB.out]; exact specDifferenceOf_any x0 y0 x1 y1 w)
  obtain ⟨pN, HpN⟩ := hidEq (productN x0 y0 x1 y1)
  obtain ⟨pE, HpE⟩ := hidEq (productE x0 y0 x1 y1)
  obtain ⟨pB, HpB⟩ := hidEq (productB x0 y0 x1 y1)
  have CpI : Hid (∀ w : World, Calls Try.prog 34 #[.agg #[.int .i64 x0, .int .i64 y0], .agg #[.int .i64 x1, .int .i64 y1]] w fun e w' => e = .returned (.tuple #[.agg #[.int .i64 pN, .int .i64 pE], .bool pB]) ∧ Below w.heap.size w w') := Lib.hid (fun w => by rw [← HpN.out, ← HpE.out, ← HpB.out]; exact implProductOf_any x0 y0 x1 y1 w)
  have CpS : Hid (∀ w : World, Calls Try.prog 35 #[.agg #[.int .i64 x0, .int .i64 y0], .agg #[.int .i64 x1, .int .i64 y1]] w fun e w' => e = .returned (.tuple #[.agg #[.int .i64 pN, .int .i64 pE], .bool pB]) ∧ Below w.heap.size w w') := Lib.hid (fun w => by rw [← HpN.out, ← HpE.out, ← HpB.out]; exact specProductOf_any x0 y0 x1 y1 w)
  obtain ⟨qN, HqN⟩ := hidEq (quotientN x0 y0 x1 y1)
  obtain ⟨qE, HqE⟩ := hidEq (quotientE x0 y0 x1 y1)
  obtain ⟨qB, HqB⟩ := hidEq (quotientB x0 y0 x1 y1)
  have CqI : Hid (∀ w : World, Calls Try.prog 36 #[.agg #[.int .i64 x0, .int .i64 y0], .agg #[.int .i64 x1, .int .i64 y1]] w fun e w' => e = .returned (.tuple #[.agg #[.int .i64 qN, .int .i64 qE], .bool qB]) ∧ Below w.heap.size w w') := Lib.hid (fun w => by rw [← HqN.out, ← HqE.out, ← HqB.out]; exact implQuotientOf_any x0 y0 x1 y1 w)
  have CqS : Hid (∀ w : World, Calls Try.prog 37 #[.agg #[.int .i64 x0, .int .i64 y0], .agg #[.int .i64 x1, .int .i64 y1]] w fun e w' => e = .returned (.tuple #[.agg #[.int .i64 qN, .int .i64 qE], .bool qB]) ∧ Below w.heap.size w w') := Lib.hid (fun w => by rw [← HqN.out, ← HqE.out, ← HqB.out]; exact specQuotientOf_any x0 y0 x1 y1 w)
  obtain ⟨lR, HlR⟩ := hidEq (lessR x0 y0 x1 y1)
  obtain ⟨tB, HtB⟩ := hidEq (twoB x0 y0 x1 y1)
  have ClI : Hid (∀ w : World, Calls Try.prog 38 #[.agg #[.int .i64 x0, .int .i64 y0], .agg #[.int .i64 x1, .int .i64 y1]] w fun e w' => e = .returned (.tuple #[.bool lR, .bool tB]) ∧ Below w.heap.size w w') := Lib.hid (fun w => by rw [← HlR.out, ← HtB.out]; exact implIsLess_any x0 y0 x1 y1 w)
  have ClS : Hid (∀ w : World, Calls Try.prog 39 #[.agg #[.int .i64 x0, .int .i64 y0], .agg #[.int .i64 x1, .int .i64 y1]] w fun e w' => e = .returned (.tuple #[.bool lR, .bool tB]) ∧ Below w.heap.size w w') := Lib.hid (fun w => by rw [← HlR.out, ← HtB.out]; exact specIsLess_any x0 y0 x1 y1 w)
  have RS : Hid (sB = true → (∀ w : World, Calls Try.prog 32 #[.agg #[.int .i64 sN, .int .i64 sE], .agg #[.int .i64 x1, .int .i64 y1]] w fun e w' => e = .returned (.tuple #[.agg #[.int .i64 x0, .int .i64 y0], .bool true]) ∧ Below w.heap.size w w') ∧ (∀ w : World, Calls Try.prog 30 #[.agg #[.int .i64 x1, .int .i64 y1], .agg #[.int .i64 x0, .int .i64 y0]] w fun e w' => e = .returned (.tuple #[.agg #[.int .i64 sN, .int .i64 sE], .bool true]) ∧ Below w.heap.size w w') ∧ (∀ w : World, Calls Try.prog 43 #[.agg #[.int .i64 sN, .int .i64 sE]] w fun e w' => e = .returned (.bool true) ∧ Below w.heap.size w w')) := Lib.hid (fun h => by
    rw [← HsB.out] at h
    obtain ⟨k0, k1, k2, k3⟩ := fr_sum_back h
    obtain ⟨j0, j1, j2⟩ := fr_sum_comm x0 y0 x1 y1
    rw [HsN.out, HsE.out] at k0 k1 k2 k3
    refine ⟨fun w => ?_, fun w => ?_, fun w => ?_⟩
    · have := implDifferenceOf_any sN sE x1 y1 w; rw [k1, k2, k3] at this; exact this
    · have := implSumOf_any x1 y1 x0 y0 w; rw [j0, j1, j2, HsN.out, HsE.out, h] at this; exact this
    · have := ifraction_any sN sE w; rw [k0] at this; exact this)
  have RQ : Hid (qB = true → (∀ w : World, Calls Try.prog 34 #[.agg #[.int .i64 qN, .int .i64 qE], .agg #[.int .i64 x1, .int .i64 y1]] w fun e w' => e = .returned (.tuple #[.agg #[.int .i64 x0, .int .i64 y0], .bool true]) ∧ Below w.heap.size w w')) := Lib.hid (fun h w => by
    rw [← HqB.out] at h
    obtain ⟨k1, k2, k3⟩ := fr_quot_back h
    rw [HqN.out, HqE.out] at k1 k2 k3
    have := implProductOf_any qN qE x1 y1 w; rw [k1, k2, k3] at this; exact this)
  have RL : Hid (dB = true → lR = decide (dN < 0)) := Lib.hid (fun h => by rw [← HdB.out] at h; rw [← HlR.out, ← HdN.out]; exact fr_less h)
  have RT : Hid (tB = false → sB = false ∧ qB = false ∧ dB = false) := Lib.hid (fun h => by rw [← HtB.out] at h; rw [← HsB.out, ← HqB.out, ← HdB.out]; simp [sumB, sumOk, quotientB, quotientOk, differenceB, differenceOk, h])
  clear HsN HsE HsB HdN HdE HdB HpN HpE HpB HqN HqE HqB HlR HtB
  go_wp2_with fail
  (go_at_call 30; refine (CsI.out _).mono ?_; rintro e w2 ⟨rfl, hb2⟩)
  have T2 := Lib.hid (show Below w1.heap.size w1 w2 from Below.trans (by (repeat' (first | (with_reducible exact Below.refl _ _) | (with_reducible assumption) | (with_reducible refine Below.alloc ?_ ?_ _) | (with_reducible refine Below.drew ?_) | (with_reducible refine below_drewN ?_ _) | (with_reducible refine Below.setCell ?_ ?_ _) | go_size))) (hb2.mono (by go_size)))
  have Xa := Lib.hid ((BoxF.newAt (b := w1.heap.size) w1 (.int .i64 x0) (.int .i64 y0) 24 (by first | rfl | simp)).below (Below.trans (by (repeat' (first | (with_reducible exact Below.refl _ _) | (with_reducible assumption) | (with_reducible refine Below.alloc ?_ ?_ _) | (with_reducible refine Below.drew ?_) | (with_reducible refine below_drewN ?_ _) | (with_reducible refine Below.setCell ?_ ?_ _) | go_size))) (hb2.mono (by go_size))))
  have Xb := Lib.hid ((BoxF.newAt (b := w1.heap.size + 1) (w1.alloc (.cells #[.int .i64 x0, .int .i64 y0] 24)) (.int .i64 x1) (.int .i64 y1) 24 (by first | rfl | simp)).below (Below.trans (by (repeat' (first | (with_reducible exact Below.refl _ _) | (with_reducible assumption) | (with_reducible refine Below.alloc ?_ ?_ _) | (with_reducible refine Below.drew ?_) | (with_reducible refine below_drewN ?_ _) | (with_reducible refine Below.setCell ?_ ?_ _) | go_size))) (hb2.mono (by go_size))))
  have HB2 := Lib.hid (HB1.out.trans (T2.out.mono HB1.out.size))
  have z2 := HB2.out.size
  clear hb2
  obtain ⟨ra0, ra1, ra2⟩ := Xa.out
  obtain ⟨rb0, rb1, rb2⟩ := Xb.out
  go_wp2_with fail
  (go_at_call 31; refine (CsS.out _).mono ?_; rintro e w3 ⟨rfl, hb3⟩)
  have T3 := Lib.hid (show Below w2.heap.size w2 w3 from Below.trans (by (repeat' (first | (with_reducible exact Below.refl _ _) | (with_reducible assumption) | (with_reducible refine Below.alloc ?_ ?_ _) | (with_reducible refine Below.drew ?_) | (with_reducible refine below_drewN ?_ _) | (with_reducible refine Below.setCell ?_ ?_ _) | go_size))) (hb3.mono (by go_size)))
  have XsI := Lib.hid ((BoxF.newAt (b := w2.heap.size) w2 (.int .i64 sN) (.int .i64 sE) 24 (by first | rfl | simp)).below (Below.trans (by (repeat' (first | (with_reducible exact Below.refl _ _) | (with_reducible assumption) | (with_reducible refine Below.alloc ?_ ?_ _) | (with_reducible refine Below.drew ?_) | (with_reducible refine below_drewN ?_ _) | (with_reducible refine Below.setCell ?_ ?_ _) | go_size))) (hb3.mono (by go_size))))
  replace Xa := Lib.hid (Xa.out.below T3.out)
  replace Xb := Lib.hid (Xb.out.below T3.out)
  have HB3 := Lib.hid (HB2.out.trans (T3.out.mono HB2.out.size))
  have z3 := HB3.out.size
  clear hb3
  clear ra0 ra1 ra2 rb0 rb1 rb2
  obtain ⟨ra0, ra1, ra2⟩ := Xa.out
  obtain ⟨rb0, rb1, rb2⟩ := Xb.out
  go_wp2_with fail
  (go_at_call 32; refine (CdI.out _).mono ?_; rintro e w4 ⟨rfl, hb4⟩)
  have T4 := Lib.hid (show Below w3.heap.size w3 w4 from Below.trans (by (repeat' (first | (with_reducible exact Below.refl _ _) | (with_reducible assumption) | (with_reducible refine Below.alloc ?_ ?_ _) | (with_reducible refine Below.drew ?_) | (with_reducible refine below_drewN ?_ _) | (with_reducible refine Below.setCell ?_ ?_ _) | go_size))) (hb4.mono (by go_size)))
  have XsS := Lib.hid ((BoxF.newAt (b := w3.heap.size) w3 (.int .i64 sN) (.int .i64 sE) 24 (by first | rfl | simp)).below (Below.trans (by (repeat' (first | (with_reducible exact Below.refl _ _) | (with_reducible assumption) | (with_reducible refine Below.alloc ?_ ?_ _) | (with_reducible refine Below.drew ?_) | (with_reducible refine below_drewN ?_ _) | (with_reducible refine Below.setCell ?_ ?_ _) | go_size))) (hb4.mono (by go_size))))
  replace Xa := Lib.hid (Xa.out.below T4.out)
  replace Xb := Lib.hid (Xb.out.below T4.out)
  replace XsI := Lib.hid (XsI.out.below T4.out)
  have HB4 := Lib.hid (HB3.out.trans (T4.out.mono HB3.out.size))
  have z4 := HB4.out.size
  clear hb4
  clear ra0 ra1 ra2 rb0 rb1 rb2
  obtain ⟨ra0, ra1, ra2⟩ := Xa.out
  obtain ⟨rb0, rb1, rb2⟩ := Xb.out
  go_wp2_with fail
  (go_at_call 33; refine (CdS.out _).mono ?_; rintro e w5 ⟨rfl, hb5⟩)
  have T5 := Lib.hid (show Below w4.heap.size w4 w5 from Below.trans (by (repeat' (first | (with_reducible exact Below.refl _ _) | (with_reducible assumption) | (with_reducible refine Below.alloc ?_ ?_ _) | (with_reducible refine Below.drew ?_) | (with_reducible refine below_drewN ?_ _) | (with_reducible refine Below.setCell ?_ ?_ _) | go_size))) (hb5.mono (by go_size)))
  have XdI := Lib.hid ((BoxF.newAt (b := w4.heap.size) w4 (.int .i64 dN) (.int .i64 dE) 24 (by first | rfl | simp)).below (Below.trans (by (repeat' (first | (with_reducible exact Below.refl _ _) | (with_reducible assumption) | (with_reducible refine Below.alloc ?_ ?_ _) | (with_reducible refine Below.drew ?_) | (with_reducible refine below_drewN ?_ _) | (with_reducible refine Below.setCell ?_ ?_ _) | go_size))) (hb5.mono (by go_size))))
  replace Xa := Lib.hid (Xa.out.below T5.out)
  replace Xb := Lib.hid (Xb.out.below T5.out)
  replace XsI := Lib.hid (XsI.out.below T5.out)
  replace XsS := Lib.hid (XsS.out.below T5.out)
  have HB5 := Lib.hid (HB4.out.trans (T5.out.mono HB4.out.size))
  have z5 := HB5.out.size
  clear hb5
  clear ra0 ra1 ra2 rb0 rb1 rb2
  obtain ⟨ra0, ra1, ra2⟩ := Xa.out
  obtain ⟨rb0, rb1, rb2⟩ := Xb.out
  go_wp2_with fail
  (go_at_call 34; refine (CpI.out _).mono ?_; rintro e w6 ⟨rfl, hb6⟩)
  have T6 := Lib.hid (show Below w5.heap.size w5 w6 from Below.trans (by (repeat' (first | (with_reducible exact Below.refl _ _) | (with_reducible assumption) | (with_reducible refine Below.alloc ?_ ?_ _) | (with_reducible refine Below.drew ?_) | (with_reducible refine below_drewN ?_ _) | (with_reducible refine Below.setCell ?_ ?_ _) | go_size))) (hb6.mono (by go_size)))
  have XdS := Lib.hid ((BoxF.newAt (b := w5.heap.size) w5 (.int .i64 dN) (.int .i64 dE) 24 (by first | rfl | simp)).below (Below.trans (by (repeat' (first | (with_reducible exact Below.refl _ _) | (with_reducible assumption) | (with_reducible refine Below.alloc ?_ ?_ _) | (with_reducible refine Below.drew ?_) | (with_reducible refine below_drewN ?_ _) | (with_reducible refine Below.setCell ?_ ?_ _) | go_size))) (hb6.mono (by go_size))))
  replace Xa := Lib.hid (Xa.out.below T6.out)
  replace Xb := Lib.hid (Xb.out.below T6.out)
  replace XsI := Lib.hid (XsI.out.below T6.out)
  replace XsS := Lib.hid (XsS.out.below T6.out)
  replace XdI := Lib.hid (XdI.out.below T6.out)
  have HB6 := Lib.hid (HB5.out.trans (T6.out.mono HB5.out.size))
  have z6 := HB6.out.size
  clear hb6
  clear ra0 ra1 ra2 rb0 rb1 rb2
  obtain ⟨ra0, ra1, ra2⟩ := Xa.out
  obtain ⟨rb0, rb1, rb2⟩ := Xb.out
  go_wp2_with fail
  (go_at_call 35; refine (CpS.out _).mono ?_; rintro e w7 ⟨rfl, hb7⟩)
  have T7 := Lib.hid (show Below w6.heap.size w6 w7 from Below.trans (by (repeat' (first | (with_reducible exact Below.refl _ _) | (with_reducible assumption) | (with_reducible refine Below.alloc ?_ ?_ _) | (with_reducible refine Below.drew ?_) | (with_reducible refine below_drewN ?_ _) | (with_reducible refine Below.setCell ?_ ?_ _) | go_size))) (hb7.mono (by go_size)))
  have XpI := Lib.hid ((BoxF.newAt (b := w6.heap.size) w6 (.int .i64 pN) (.int .i64 pE) 24 (by first | rfl | simp)).below (Below.trans (by (repeat' (first | (with_reducible exact Below.refl _ _) | (with_reducible assumption) | (with_reducible refine Below.alloc ?_ ?_ _) | (with_reducible refine Below.drew ?_) | (with_reducible refine below_drewN ?_ _) | (with_reducible refine Below.setCell ?_ ?_ _) | go_size))) (hb7.mono (by go_size))))
  replace Xa := Lib.hid (Xa.out.below T7.out)
  replace Xb := Lib.hid (Xb.out.below T7.out)
  replace XsI := Lib.hid (XsI.out.below T7.out)
  replace XsS := Lib.hid (XsS.out.below T7.out)
  replace XdI := Lib.hid (XdI.out.below T7.out)
  replace XdS := Lib.hid (XdS.out.below T7.out)
  have HB7 := Lib.hid (HB6.out.trans (T7.out.mono HB6.out.size))
  have z7 := HB7.out.size
  clear hb7
  clear ra0 ra1 ra2 rb0 rb1 rb2
  obtain ⟨ra0, ra1, ra2⟩ := Xa.out
  obtain ⟨rb0, rb1, rb2⟩ := Xb.out
  go_wp2_with fail
  (go_at_call 36; refine (CqI.out _).mono ?_; rintro e w8 ⟨rfl, hb8⟩)
  have T8 := Lib.hid (show Below w7.heap.size w7 w8 from Below.trans (by (repeat' (first | (with_reducible exact Below.refl _ _) | (with_reducible assumption) | (with_reducible refine Below.alloc ?_ ?_ _) | (with_reducible refine Below.drew ?_) | (with_reducible refine below_drewN ?_ _) | (with_reducible refine Below.setCell ?_ ?_ _) | go_size))) (hb8.mono (by go_size)))
  have XpS := Lib.hid ((BoxF.newAt (b := w7.heap.size) w7 (.int .i64 pN) (.int .i64 pE) 24 (by first | rfl | simp)).below (Below.trans (by (repeat' (first | (with_reducible exact Below.refl _ _) | (with_reducible assumption) | (with_reducible refine Below.alloc ?_ ?_ _) | (with_reducible refine Below.drew ?_) | (with_reducible refine below_drewN ?_ _) | (with_reducible refine Below.setCell ?_ ?_ _) | go_size))) (hb8.mono (by go_size))))
  replace Xa := Lib.hid (Xa.out.below T8.out)
  replace Xb := Lib.hid (Xb.out.below T8.out)
  replace XsI := Lib.hid (XsI.out.below T8.out)
  replace XsS := Lib.hid (XsS.out.below T8.out)
  replace XdI := Lib.hid (XdI.out.below T8.out)
  replace XdS := Lib.hid (XdS.out.below T8.out)
  replace XpI := Lib.hid (XpI.out.below T8.out)
  have HB8 := Lib.hid (HB7.out.trans (T8.out.mono HB7.out.size))
  have z8 := HB8.out.size
  clear hb8
  clear ra0 ra1 ra2 rb0 rb1 rb2
  obtain ⟨ra0, ra1, ra2⟩ := Xa.out
  obtain ⟨rb0, rb1, rb2⟩ := Xb.out
  go_wp2_with fail
  (go_at_call 37; refine (CqS.out _).mono ?_; rintro e w9 ⟨rfl, hb9⟩)
  have T9 := Lib.hid (show Below w8.heap.size w8 w9 from Below.trans (by (repeat' (first | (with_reducible exact Below.refl _ _) | (with_reducible assumption) | (with_reducible refine Below.alloc ?_ ?_ _) | (with_reducible refine Below.drew ?_) | (with_reducible refine below_drewN ?_ _) | (with_reducible refine Below.setCell ?_ ?_ _) | go_size))) (hb9.mono (by go_size)))
  have XqI := Lib.hid ((BoxF.newAt (b := w8.heap.size) w8 (.int .i64 qN) (.int .i64 qE) 24 (by first | rfl | simp)).below (Below.trans (by (repeat' (first | (with_reducible exact Below.refl _ _) | (with_reducible assumption) | (with_reducible refine Below.alloc ?_ ?_ _) | (with_reducible refine Below.drew ?_) | (with_reducible refine below_drewN ?_ _) | (with_reducible refine Below.setCell ?_ ?_ _) | go_size))) (hb9.mono (by go_size))))
  replace Xa := Lib.hid (Xa.out.below T9.out)
  replace Xb := Lib.hid (Xb.out.below T9.out)
  replace XsI := Lib.hid (XsI.out.below T9.out)
  replace XsS := Lib.hid (XsS.out.below T9.out)
  replace XdI := Lib.hid (XdI.out.below T9.out)
  replace XdS := Lib.hid (XdS.out.below T9.out)
  replace XpI := Lib.hid (XpI.out.below T9.out)
  replace XpS := Lib.hid (XpS.out.below T9.out)
  have HB9 := Lib.hid (HB8.out.trans (T9.out.mono HB8.out.size))
  have z9 := HB9.out.size
  clear hb9
  clear ra0 ra1 ra2 rb0 rb1 rb2
  obtain ⟨ra0, ra1, ra2⟩ := Xa.out
  obtain ⟨rb0, rb1, rb2⟩ := Xb.out
  go_wp2_with fail
  (go_at_call 38; refine (ClI.out _).mono ?_; rintro e w10 ⟨rfl, hb10⟩)
  have T10 := Lib.hid (show Below w9.heap.size w9 w10 from Below.trans (by (repeat' (first | (with_reducible exact Below.refl _ _) | (with_reducible assumption) | (with_reducible refine Below.alloc ?_ ?_ _) | (with_reducible refine Below.drew ?_) | (with_reducible refine below_drewN ?_ _) | (with_reducible refine Below.setCell ?_ ?_ _) | go_size))) (hb10.mono (by go_size)))
  have XqS := Lib.hid ((BoxF.newAt (b := w9.heap.size) w9 (.int .i64 qN) (.int .i64 qE) 24 (by first | rfl | simp)).below (Below.trans (by (repeat' (first | (with_reducible exact Below.refl _ _) | (with_reducible assumption) | (with_reducible refine Below.alloc ?_ ?_ _) | (with_reducible refine Below.drew ?_) | (with_reducible refine below_drewN ?_ _) | (with_reducible refine Below.setCell ?_ ?_ _) | go_size))) (hb10.mono (by go_size))))
  replace Xa := Lib.hid (Xa.out.below T10.out)
  replace Xb := Lib.hid (Xb.out.below T10.out)
  replace XsI := Lib.hid (XsI.out.below T10.out)
  replace XsS := Lib.hid (XsS.out.below T10.out)
  replace XdI := Lib.hid (XdI.out.below T10.out)
  replace XdS := Lib.hid (XdS.out.below T10.out)
  replace XpI := Lib.hid (XpI.out.below T10.out)
  replace XpS := Lib.hid (XpS.out.below T10.out)
  replace XqI := Lib.hid (XqI.out.below T10.out)
  have HB10 := Lib.hid (HB9.out.trans (T10.out.mono HB9.out.size))
  have z10 := HB10.out.size
  clear hb10
  clear ra0 ra1 ra2 rb0 rb1 rb2
  obtain ⟨ra0, ra1, ra2⟩ := Xa.out
  obtain ⟨rb0, rb1, rb2⟩ := Xb.out
  go_wp2_with fail
  (go_at_call 39; refine (ClS.out _).mono ?_; rintro e w11 ⟨rfl, hb11⟩)
  have T11 := Lib.hid (show Below w10.heap.size w10 w11 from Below.trans (by (repeat' (first | (with_reducible exact Below.refl _ _) | (with_reducible assumption) | (with_reducible refine Below.alloc ?_ ?_ _) | (with_reducible refine Below.drew ?_) | (with_reducible refine below_drewN ?_ _) | (with_reducible refine Below.setCell ?_ ?_ _) | go_size))) (hb11.mono (by go_size)))
  replace Xa := Lib.hid (Xa.out.below T11.out)
  replace Xb := Lib.hid (Xb.out.below T11.out)
  replace XsI := Lib.hid (XsI.out.below T11.out)
  replace XsS := Lib.hid (XsS.out.below T11.out)
  replace XdI := Lib.hid (XdI.out.below T11.out)
  replace XdS := Lib.hid (XdS.out.below T11.out)
  replace XpI := Lib.hid (XpI.out.below T11.out)
  replace XpS := Lib.hid (XpS.out.below T11.out)
  replace XqI := Lib.hid (XqI.out.below T11.out)
  replace XqS := Lib.hid (XqS.out.below T11.out)
  have HB11 := Lib.hid (HB10.out.trans (T11.out.mono HB10.out.size))
  have z11 := HB11.out.size
  clear hb11
  clear ra0 ra1 ra2 rb0 rb1 rb2
  go_wp2_with fail
  (go_at_call 40; refine (DrawFractionOf_any (KB1.out.below (Below.trans HB11.out (by (repeat' (first | (with_reducible exact Below.refl _ _) | (with_reducible assumption) | (with_reducible refine Below.alloc ?_ ?_ _) | (with_reducible refine Below.drew ?_) | (with_reducible refine below_drewN ?_ _) | (with_reducible refine Below.setCell ?_ ?_ _) | go_size)))))).mono ?_; rintro e w12 ⟨⟨n, m, HNM, rfl⟩, hb12⟩)
  have T12 := Lib.hid (show Below w11.heap.size w11 w12 from Below.trans (by (repeat' (first | (with_reducible exact Below.refl _ _) | (with_reducible assumption) | (with_reducible refine Below.alloc ?_ ?_ _) | (with_reducible refine Below.drew ?_) | (with_reducible refine below_drewN ?_ _) | (with_reducible refine Below.setCell ?_ ?_ _) | go_size))) (hb12.mono (by go_size)))
  replace Xa := Lib.hid (Xa.out.below T12.out)
  replace Xb := Lib.hid (Xb.out.below T12.out)
  replace XsI := Lib.hid (XsI.out.below T12.out)
  replace XsS := Lib.hid (XsS.out.below T12.out)
  replace XdI := Lib.hid (XdI.out.below T12.out)
  replace XdS := Lib.hid (XdS.out.below T12.out)
  replace XpI := Lib.hid (XpI.out.below T12.out)
  replace XpS := Lib.hid (XpS.out.below T12.out)
  replace XqI := Lib.hid (XqI.out.below T12.out)
  replace XqS := Lib.hid (XqS.out.below T12.out)
  have HB12 := Lib.hid (HB11.out.trans (T12.out.mono HB11.out.size))
  have z12 := HB12.out.size
  clear hb12
  obtain ⟨fN, HfN⟩ := hidEq (fofN n m)
  obtain ⟨fE, HfE⟩ := hidEq (fofE n m)
  obtain ⟨fB, HfB⟩ := hidEq (fofB n m)
  have CfI : Hid (∀ w : World, Calls Try.prog 41 #[.int .i64 n, .int .i64 m] w fun e w' => e = .returned (.tuple #[.agg #[.int .i64 fN, .int .i64 fE], .bool fB]) ∧ Below w.heap.size w w') := Lib.hid (fun w => by rw [← HfN.out, ← HfE.out, ← HfB.out]; exact implFractionOf_any n m w)
  have CfS : Hid (∀ w : World, Calls Try.prog 42 #[.int .i64 n, .int .i64 m] w fun e w' => e = .returned (.tuple #[.agg #[.int .i64 fN, .int .i64 fE], .bool fB]) ∧ Below w.heap.size w w') := Lib.hid (fun w => by rw [← HfN.out, ← HfE.out, ← HfB.out]; exact specFractionOf_any n m w)
  have RF : Hid (fB = true → ∃ gg u v z : Int, (∀ w : World, Calls Try.prog 44 #[.int .i64 n, .int .i64 m] w fun e w' => e = .returned (.int .i64 gg) ∧ w = w') ∧ (∀ w : World, Calls Try.prog 43 #[.agg #[.int .i64 fN, .int .i64 fE]] w fun e w' => e = .returned (.bool true) ∧ Below w.heap.size w w') ∧
    (∀ w : World, Calls Try.prog 45 #[.int .i64 fN] w fun e w' => e = .returned (.int .i64 u) ∧ w = w') ∧ (∀ w : World, Calls Try.prog 45 #[.int .i64 n] w fun e w' => e = .returned (.int .i64 v) ∧ w = w') ∧ (∀ w : World, Calls Try.prog 45 #[.int .i64 m] w fun e w' => e = .returned (.int .i64 z) ∧ w = w') ∧ IntKind.i64.wrap (u * gg) = v ∧ IntKind.i64.wrap (fE * gg) = z) := Lib.hid (fun h => by
    rw [← HfB.out] at h
    obtain ⟨⟨k0, k1, k2, k3, k4⟩, k5, k6, k7, k8⟩ := fof_parts h
    rw [HfN.out] at k5 k6
    rw [HfE.out] at k5 k7
    obtain ⟨b0, b1, a0, a1, _⟩ := fracB_range k5
    refine ⟨gcdI n m, absI fN, absI n, absI m, fun w => qGcd_any n m (by omega) (by omega) (by omega) (by omega) k8 w, fun w => ?_, fun w => qAbs_any fN (by omega) (by omega) w, fun w => qAbs_any n (by omega) (by omega) w, fun w => qAbs_any m (by omega) (by omega) w, ?_, ?_⟩
    · have := ifraction_any fN fE w; rw [k5] at this; exact this
    · rw [k6]; exact IntWalk.i64_in _ (by unfold absI; omega)
    · rw [k7]; exact IntWalk.i64_in _ (by unfold absI; omega))
  clear HfN HfE HfB HNM HI64
  go_wp2_with fail
  (go_at_call 41; refine (CfI.out _).mono ?_; rintro e w13 ⟨rfl, hb13⟩)
  have T13 := Lib.hid (show Below w12.heap.size w12 w13 from Below.trans (by (repeat' (first | (with_reducible exact Below.refl _ _) | (with_reducible assumption) | (with_reducible refine Below.alloc ?_ ?_ _) | (with_reducible refine Below.drew ?_) | (with_reducible refine below_drewN ?_ _) | (with_reducible refine Below.setCell ?_ ?_ _) | go_size))) (hb13.mono (by go_size)))
  replace Xa := Lib.hid (Xa.out.below T13.out)
  replace Xb := Lib.hid (Xb.out.below T13.out)
  replace XsI := Lib.hid (XsI.out.below T13.out)
  replace XsS := Lib.hid (XsS.out.below T13.out)
  replace XdI := Lib.hid (XdI.out.below T13.out)
  replace XdS := Lib.hid (XdS.out.below T13.out)
  replace XpI := Lib.hid (XpI.out.below T13.out)
  replace XpS := Lib.hid (XpS.out.below T13.out)
  replace XqI := Lib.hid (XqI.out.below T13.out)
  replace XqS := Lib.hid (XqS.out.below T13.out)
  have HB13 := Lib.hid (HB12.out.trans (T13.out.mono HB12.out.size))
  have z13 := HB13.out.size
  clear hb13
  go_wp2_with fail
  (go_at_call 42; refine (CfS.out _).mono ?_; rintro e w14 ⟨rfl, hb14⟩)
  have T14 := Lib.hid (show Below w13.heap.size w13 w14 from Below.trans (by (repeat' (first | (with_reducible exact Below.refl _ _) | (with_reducible assumption) | (with_reducible refine Below.alloc ?_ ?_ _) | (with_reducible refine Below.drew ?_) | (with_reducible refine below_drewN ?_ _) | (with_reducible refine Below.setCell ?_ ?_ _) | go_size))) (hb14.mono (by go_size)))
  have XfI := Lib.hid ((BoxF.newAt (b := w13.heap.size) w13 (.int .i64 fN) (.int .i64 fE) 24 (by first | rfl | simp)).below (Below.trans (by (repeat' (first | (with_reducible exact Below.refl _ _) | (with_reducible assumption) | (with_reducible refine Below.alloc ?_ ?_ _) | (with_reducible refine Below.drew ?_) | (with_reducible refine below_drewN ?_ _) | (with_reducible refine Below.setCell ?_ ?_ _) | go_size))) (hb14.mono (by go_size))))
  replace Xa := Lib.hid (Xa.out.below T14.out)
  replace Xb := Lib.hid (Xb.out.below T14.out)
  replace XsI := Lib.hid (XsI.out.below T14.out)
  replace XsS := Lib.hid (XsS.out.below T14.out)
  replace XdI := Lib.hid (XdI.out.below T14.out)
  replace XdS := Lib.hid (XdS.out.below T14.out)
  replace XpI := Lib.hid (XpI.out.below T14.out)
  replace XpS := Lib.hid (XpS.out.below T14.out)
  replace XqI := Lib.hid (XqI.out.below T14.out)
  replace XqS := Lib.hid (XqS.out.below T14.out)
  have HB14 := Lib.hid (HB13.out.trans (T14.out.mono HB13.out.size))
  have z14 := HB14.out.size
  clear hb14
  obtain ⟨rsI0, rsI1, rsI2⟩ := XsI.out
  obtain ⟨rsS0, rsS1, rsS2⟩ := XsS.out
  obtain ⟨rdI0, rdI1, rdI2⟩ := XdI.out
  obtain ⟨rdS0, rdS1, rdS2⟩ := XdS.out
  obtain ⟨rpI0, rpI1, rpI2⟩ := XpI.out
  obtain ⟨rpS0, rpS1, rpS2⟩ := XpS.out
  obtain ⟨rqI0, rqI1, rqI2⟩ := XqI.out
  obtain ⟨rqS0, rqS1, rqS2⟩ := XqS.out
  obtain ⟨rfI0, rfI1, rfI2⟩ := XfI.out
  cases tB
  · skip
    obtain ⟨rfl, rfl, rfl⟩ := RT.out rfl
    cases fB
    · go_wp2
      go_ret
      exact ⟨rfl, HB14.out.trans (by (repeat' (first | (with_reducible exact Below.refl _ _) | (with_reducible assumption) | (with_reducible refine Below.alloc ?_ ?_ _) | (with_reducible refine Below.drew ?_) | (with_reducible refine below_drewN ?_ _) | (with_reducible refine Below.setCell ?_ ?_ _) | go_size)))⟩
    · obtain ⟨gg, u, v, z, CG, CI, CA, CN, CM, eu, ev⟩ := RF.out rfl
      replace CG := Lib.hid CG
      replace CI := Lib.hid CI
      replace CA := Lib.hid CA
      replace CN := Lib.hid CN
      replace CM := Lib.hid CM
      go_wp2_with fail
      (go_at_call 44; refine (CG.out _).mono ?_; rintro e w' ⟨rfl, rfl⟩)
      obtain ⟨rfI0, rfI1, rfI2⟩ := XfI.out
      go_wp2_with fail
      go_region_held3 (fun w' => w'.cell? ⟨w13.heap.size, 0, none⟩ = some (.int .i64 fN) ∧ w'.cell? ⟨w13.heap.size, 1, none⟩ = some (.int .i64 fE) ∧ w'.cell? ⟨w14.heap.size, 0, none⟩ = some (.int .i64 fN) ∧ w'.cell? ⟨w14.heap.size, 1, none⟩ = some (.int .i64 fE)) ((first | exact ⟨by with_reducible assumption, by with_reducible assumption, by with_reducible assumption, by with_reducible assumption⟩ | ((try dsimp only); (repeat' apply And.intro); all_goals (first | (with_reducible assumption) | (go_keep; done) | (simp [go_sem]; done))))) (first | (go_at_call 43; (with_reducible refine (CI.out _).mono ?_); rintro e w15 ⟨rfl, hb15⟩; (have T15 := Lib.hid (show Below w14.heap.size w14 w15 from Below.trans (by (repeat' (first | (with_reducible exact Below.refl _ _) | (with_reducible assumption) | (with_reducible refine Below.alloc ?_ ?_ _) | (with_reducible refine Below.drew ?_) | (with_reducible refine below_drewN ?_ _) | (with_reducible refine Below.setCell ?_ ?_ _) | go_size))) (hb15.mono (by go_size)))); (have hs15 := T15.out.size); (have HB15 := Lib.hid (HB14.out.trans (T15.out.mono HB14.out.size))); (have k0 : w15.cell? ⟨w13.heap.size, 0, none⟩ = some (.int .i64 fN) := by (rw [hb15.cell (by first | (simp; done) | (simp; omega) | omega)]; first | (with_reducible assumption) | (simp [go_sem]; done) | (simp [go_sem, *]; done))); (have k1 : w15.cell? ⟨w13.heap.size, 1, none⟩ = some (.int .i64 fE) := by (rw [hb15.cell (by first | (simp; done) | (simp; omega) | omega)]; first | (with_reducible assumption) | (simp [go_sem]; done) | (simp [go_sem, *]; done))); (have k2 : w15.cell? ⟨w14.heap.size, 0, none⟩ = some (.int .i64 fN) := by (rw [hb15.cell (by first | (simp; done) | (simp; omega) | omega)]; first | (with_reducible assumption) | (simp [go_sem]; done) | (simp [go_sem, *]; done))); (have k3 : w15.cell? ⟨w14.heap.size, 1, none⟩ = some (.int .i64 fE) := by (rw [hb15.cell (by first | (simp; done) | (simp; omega) | omega)]; first | (with_reducible assumption) | (simp [go_sem]; done) | (simp [go_sem, *]; done)))) | (go_at_call 45; (with_reducible refine (CA.out _).mono ?_); rintro e w' ⟨rfl, rfl⟩) | (go_at_call 45; (with_reducible refine (CN.out _).mono ?_); rintro e w' ⟨rfl, rfl⟩) | (go_at_call 45; (with_reducible refine (CM.out _).mono ?_); rintro e w' ⟨rfl, rfl⟩))
      go_wp2
      go_ret
      exact ⟨rfl, by first | exact HB15.out.trans (by (repeat' (first | (with_reducible exact Below.refl _ _) | (with_reducible assumption) | (with_reducible refine Below.alloc ?_ ?_ _) | (with_reducible refine Below.drew ?_) | (with_reducible refine below_drewN ?_ _) | (with_reducible refine Below.setCell ?_ ?_ _) | go_size))) | exact HB14.out.trans (by (repeat' (first | (with_reducible exact Below.refl _ _) | (with_reducible assumption) | (with_reducible refine Below.alloc ?_ ?_ _) | (with_reducible refine Below.drew ?_) | (with_reducible refine below_drewN ?_ _) | (with_reducible refine Below.setCell ?_ ?_ _) | go_size)))⟩
  · skip
    cases sB
    · skip
      cases qB
      · skip
        cases dB
        · skip
          obtain ⟨rdI0, rdI1, rdI2⟩ := XdI.out
          obtain ⟨rdS0, rdS1, rdS2⟩ := XdS.out
          cases fB
          · go_wp2
            go_ret
            exact ⟨rfl, HB14.out.trans (by (repeat' (first | (with_reducible exact Below.refl _ _) | (with_reducible assumption) | (with_reducible refine Below.alloc ?_ ?_ _) | (with_reducible refine Below.drew ?_) | (with_reducible refine below_drewN ?_ _) | (with_reducible refine Below.setCell ?_ ?_ _) | go_size)))⟩
          · obtain ⟨gg, u, v, z, CG, CI, CA, CN, CM, eu, ev⟩ := RF.out rfl
            replace CG := Lib.hid CG
            replace CI := Lib.hid CI
            replace CA := Lib.hid CA
            replace CN := Lib.hid CN
            replace CM := Lib.hid CM
            go_wp2_with fail
            (go_at_call 44; refine (CG.out _).mono ?_; rintro e w' ⟨rfl, rfl⟩)
            obtain ⟨rfI0, rfI1, rfI2⟩ := XfI.out
            go_wp2_with fail
            go_region_held3 (fun w' => w'.cell? ⟨w13.heap.size, 0, none⟩ = some (.int .i64 fN) ∧ w'.cell? ⟨w13.heap.size, 1, none⟩ = some (.int .i64 fE) ∧ w'.cell? ⟨w14.heap.size, 0, none⟩ = some (.int .i64 fN) ∧ w'.cell? ⟨w14.heap.size, 1, none⟩ = some (.int .i64 fE)) ((first | exact ⟨by with_reducible assumption, by with_reducible assumption, by with_reducible assumption, by with_reducible assumption⟩ | ((try dsimp only); (repeat' apply And.intro); all_goals (first | (with_reducible assumption) | (go_keep; done) | (simp [go_sem]; done))))) (first | (go_at_call 43; (with_reducible refine (CI.out _).mono ?_); rintro e w15 ⟨rfl, hb15⟩; (have T15 := Lib.hid (show Below w14.heap.size w14 w15 from Below.trans (by (repeat' (first | (with_reducible exact Below.refl _ _) | (with_reducible assumption) | (with_reducible refine Below.alloc ?_ ?_ _) | (with_reducible refine Below.drew ?_) | (with_reducible refine below_drewN ?_ _) | (with_reducible refine Below.setCell ?_ ?_ _) | go_size))) (hb15.mono (by go_size)))); (have hs15 := T15.out.size); (have HB15 := Lib.hid (HB14.out.trans (T15.out.mono HB14.out.size))); (have k0 : w15.cell? ⟨w13.heap.size, 0, none⟩ = some (.int .i64 fN) := by (rw [hb15.cell (by first | (simp; done) | (simp; omega) | omega)]; first | (with_reducible assumption) | (simp [go_sem]; done) | (simp [go_sem, *]; done))); (have k1 : w15.cell? ⟨w13.heap.size, 1, none⟩ = some (.int .i64 fE) := by (rw [hb15.cell (by first | (simp; done) | (simp; omega) | omega)]; first | (with_reducible assumption) | (simp [go_sem]; done) | (simp [go_sem, *]; done))); (have k2 : w15.cell? ⟨w14.heap.size, 0, none⟩ = some (.int .i64 fN) := by (rw [hb15.cell (by first | (simp; done) | (simp; omega) | omega)]; first | (with_reducible assumption) | (simp [go_sem]; done) | (simp [go_sem, *]; done))); (have k3 : w15.cell? ⟨w14.heap.size, 1, none⟩ = some (.int .i64 fE) := by (rw [hb15.cell (by first | (simp; done) | (simp; omega) | omega)]; first | (with_reducible assumption) | (simp [go_sem]; done) | (simp [go_sem, *]; done)))) | (go_at_call 45; (with_reducible refine (CA.out _).mono ?_); rintro e w' ⟨rfl, rfl⟩) | (go_at_call 45; (with_reducible refine (CN.out _).mono ?_); rintro e w' ⟨rfl, rfl⟩) | (go_at_call 45; (with_reducible refine (CM.out _).mono ?_); rintro e w' ⟨rfl, rfl⟩))
            go_wp2
            go_ret
            exact ⟨rfl, by first | exact HB15.out.trans (by (repeat' (first | (with_reducible exact Below.refl _ _) | (with_reducible assumption) | (with_reducible refine Below.alloc ?_ ?_ _) | (with_reducible refine Below.drew ?_) | (with_reducible refine below_drewN ?_ _) | (with_reducible refine Below.setCell ?_ ?_ _) | go_size))) | exact HB14.out.trans (by (repeat' (first | (with_reducible exact Below.refl _ _) | (with_reducible assumption) | (with_reducible refine Below.alloc ?_ ?_ _) | (with_reducible refine Below.drew ?_) | (with_reducible refine below_drewN ?_ _) | (with_reducible refine Below.setCell ?_ ?_ _) | go_size)))⟩
        · skip
          obtain rfl := RL.out rfl
          obtain ⟨rdI0, rdI1, rdI2⟩ := XdI.out
          obtain ⟨rdS0, rdS1, rdS2⟩ := XdS.out
          cases fB
          · go_wp2
            go_ret
            exact ⟨rfl, HB14.out.trans (by (repeat' (first | (with_reducible exact Below.refl _ _) | (with_reducible assumption) | (with_reducible refine Below.alloc ?_ ?_ _) | (with_reducible refine Below.drew ?_) | (with_reducible refine below_drewN ?_ _) | (with_reducible refine Below.setCell ?_ ?_ _) | go_size)))⟩
          · obtain ⟨gg, u, v, z, CG, CI, CA, CN, CM, eu, ev⟩ := RF.out rfl
            replace CG := Lib.hid CG
            replace CI := Lib.hid CI
            replace CA := Lib.hid CA
            replace CN := Lib.hid CN
            replace CM := Lib.hid CM
            go_wp2_with fail
            (go_at_call 44; refine (CG.out _).mono ?_; rintro e w' ⟨rfl, rfl⟩)
            obtain ⟨rfI0, rfI1, rfI2⟩ := XfI.out
            go_wp2_with fail
            go_region_held3 (fun w' => w'.cell? ⟨w13.heap.size, 0, none⟩ = some (.int .i64 fN) ∧ w'.cell? ⟨w13.heap.size, 1, none⟩ = some (.int .i64 fE) ∧ w'.cell? ⟨w14.heap.size, 0, none⟩ = some (.int .i64 fN) ∧ w'.cell? ⟨w14.heap.size, 1, none⟩ = some (.int .i64 fE)) ((first | exact ⟨by with_reducible assumption, by with_reducible assumption, by with_reducible assumption, by with_reducible assumption⟩ | ((try dsimp only); (repeat' apply And.intro); all_goals (first | (with_reducible assumption) | (go_keep; done) | (simp [go_sem]; done))))) (first | (go_at_call 43; (with_reducible refine (CI.out _).mono ?_); rintro e w15 ⟨rfl, hb15⟩; (have T15 := Lib.hid (show Below w14.heap.size w14 w15 from Below.trans (by (repeat' (first | (with_reducible exact Below.refl _ _) | (with_reducible assumption) | (with_reducible refine Below.alloc ?_ ?_ _) | (with_reducible refine Below.drew ?_) | (with_reducible refine below_drewN ?_ _) | (with_reducible refine Below.setCell ?_ ?_ _) | go_size))) (hb15.mono (by go_size)))); (have hs15 := T15.out.size); (have HB15 := Lib.hid (HB14.out.trans (T15.out.mono HB14.out.size))); (have k0 : w15.cell? ⟨w13.heap.size, 0, none⟩ = some (.int .i64 fN) := by (rw [hb15.cell (by first | (simp; done) | (simp; omega) | omega)]; first | (with_reducible assumption) | (simp [go_sem]; done) | (simp [go_sem, *]; done))); (have k1 : w15.cell? ⟨w13.heap.size, 1, none⟩ = some (.int .i64 fE) := by (rw [hb15.cell (by first | (simp; done) | (simp; omega) | omega)]; first | (with_reducible assumption) | (simp [go_sem]; done) | (simp [go_sem, *]; done))); (have k2 : w15.cell? ⟨w14.heap.size, 0, none⟩ = some (.int .i64 fN) := by (rw [hb15.cell (by first | (simp; done) | (simp; omega) | omega)]; first | (with_reducible assumption) | (simp [go_sem]; done) | (simp [go_sem, *]; done))); (have k3 : w15.cell? ⟨w14.heap.size, 1, none⟩ = some (.int .i64 fE) := by (rw [hb15.cell (by first | (simp; done) | (simp; omega) | omega)]; first | (with_reducible assumption) | (simp [go_sem]; done) | (simp [go_sem, *]; done)))) | (go_at_call 45; (with_reducible refine (CA.out _).mono ?_); rintro e w' ⟨rfl, rfl⟩) | (go_at_call 45; (with_reducible refine (CN.out _).mono ?_); rintro e w' ⟨rfl, rfl⟩) | (go_at_call 45; (with_reducible refine (CM.out _).mono ?_); rintro e w' ⟨rfl, rfl⟩))
            go_wp2
            go_ret
            exact ⟨rfl, by first | exact HB15.out.trans (by (repeat' (first | (with_reducible exact Below.refl _ _) | (with_reducible assumption) | (with_reducible refine Below.alloc ?_ ?_ _) | (with_reducible refine Below.drew ?_) | (with_reducible refine below_drewN ?_ _) | (with_reducible refine Below.setCell ?_ ?_ _) | go_size))) | exact HB14.out.trans (by (repeat' (first | (with_reducible exact Below.refl _ _) | (with_reducible assumption) | (with_reducible refine Below.alloc ?_ ?_ _) | (with_reducible refine Below.drew ?_) | (with_reducible refine below_drewN ?_ _) | (with_reducible refine Below.setCell ?_ ?_ _) | go_size)))⟩
      · skip
        obtain ⟨rqI0, rqI1, rqI2⟩ := XqI.out
        obtain ⟨rb0, rb1, rb2⟩ := Xb.out
        go_wp2_with fail
        (go_at_call 34; refine (RQ.out (by first | exact rfl | exact trivial) _).mono ?_; rintro e w15 ⟨rfl, hb15⟩)
        have T15 := Lib.hid (show Below w14.heap.size w14 w15 from Below.trans (by (repeat' (first | (with_reducible exact Below.refl _ _) | (with_reducible assumption) | (with_reducible refine Below.alloc ?_ ?_ _) | (with_reducible refine Below.drew ?_) | (with_reducible refine below_drewN ?_ _) | (with_reducible refine Below.setCell ?_ ?_ _) | go_size))) (hb15.mono (by go_size)))
        have XfS := Lib.hid ((BoxF.newAt (b := w14.heap.size) w14 (.int .i64 fN) (.int .i64 fE) 24 (by first | rfl | simp)).below (Below.trans (by (repeat' (first | (with_reducible exact Below.refl _ _) | (with_reducible assumption) | (with_reducible refine Below.alloc ?_ ?_ _) | (with_reducible refine Below.drew ?_) | (with_reducible refine below_drewN ?_ _) | (with_reducible refine Below.setCell ?_ ?_ _) | go_size))) (hb15.mono (by go_size))))
        replace Xa := Lib.hid (Xa.out.below T15.out)
        replace Xb := Lib.hid (Xb.out.below T15.out)
        replace XsI := Lib.hid (XsI.out.below T15.out)
        replace XsS := Lib.hid (XsS.out.below T15.out)
        replace XdI := Lib.hid (XdI.out.below T15.out)
        replace XdS := Lib.hid (XdS.out.below T15.out)
        replace XpI := Lib.hid (XpI.out.below T15.out)
        replace XpS := Lib.hid (XpS.out.below T15.out)
        replace XqI := Lib.hid (XqI.out.below T15.out)
        replace XqS := Lib.hid (XqS.out.below T15.out)
        replace XfI := Lib.hid (XfI.out.below T15.out)
        have HB15 := Lib.hid (HB14.out.trans (T15.out.mono HB14.out.size))
        have z15 := HB15.out.size
        clear hb15
        clear rqI0 rqI1 rqI2 rb0 rb1 rb2
        obtain ⟨ra0, ra1, ra2⟩ := Xa.out
        cases dB
        · skip
          obtain ⟨rdI0, rdI1, rdI2⟩ := XdI.out
          obtain ⟨rdS0, rdS1, rdS2⟩ := XdS.out
          cases fB
          · go_wp2
            go_ret
            exact ⟨rfl, HB15.out.trans (by (repeat' (first | (with_reducible exact Below.refl _ _) | (with_reducible assumption) | (with_reducible refine Below.alloc ?_ ?_ _) | (with_reducible refine Below.drew ?_) | (with_reducible refine below_drewN ?_ _) | (with_reducible refine Below.setCell ?_ ?_ _) | go_size)))⟩
          · obtain ⟨gg, u, v, z, CG, CI, CA, CN, CM, eu, ev⟩ := RF.out rfl
            replace CG := Lib.hid CG
            replace CI := Lib.hid CI
            replace CA := Lib.hid CA
            replace CN := Lib.hid CN
            replace CM := Lib.hid CM
            go_wp2_with fail
            (go_at_call 44; refine (CG.out _).mono ?_; rintro e w' ⟨rfl, rfl⟩)
            obtain ⟨rfI0, rfI1, rfI2⟩ := XfI.out
            obtain ⟨rfS0, rfS1, rfS2⟩ := XfS.out
            go_wp2_with fail
            go_region_held3 (fun w' => w'.cell? ⟨w13.heap.size, 0, none⟩ = some (.int .i64 fN) ∧ w'.cell? ⟨w13.heap.size, 1, none⟩ = some (.int .i64 fE) ∧ w'.cell? ⟨w14.heap.size, 0, none⟩ = some (.int .i64 fN) ∧ w'.cell? ⟨w14.heap.size, 1, none⟩ = some (.int .i64 fE)) ((first | exact ⟨by with_reducible assumption, by with_reducible assumption, by with_reducible assumption, by with_reducible assumption⟩ | ((try dsimp only); (repeat' apply And.intro); all_goals (first | (with_reducible assumption) | (go_keep; done) | (simp [go_sem]; done))))) (first | (go_at_call 43; (with_reducible refine (CI.out _).mono ?_); rintro e w16 ⟨rfl, hb16⟩; (have T16 := Lib.hid (show Below w15.heap.size w15 w16 from Below.trans (by (repeat' (first | (with_reducible exact Below.refl _ _) | (with_reducible assumption) | (with_reducible refine Below.alloc ?_ ?_ _) | (with_reducible refine Below.drew ?_) | (with_reducible refine below_drewN ?_ _) | (with_reducible refine Below.setCell ?_ ?_ _) | go_size))) (hb16.mono (by go_size)))); (have hs16 := T16.out.size); (have HB16 := Lib.hid (HB15.out.trans (T16.out.mono HB15.out.size))); (have k0 : w16.cell? ⟨w13.heap.size, 0, none⟩ = some (.int .i64 fN) := by (rw [hb16.cell (by first | (simp; done) | (simp; omega) | omega)]; first | (with_reducible assumption) | (simp [go_sem]; done) | (simp [go_sem, *]; done))); (have k1 : w16.cell? ⟨w13.heap.size, 1, none⟩ = some (.int .i64 fE) := by (rw [hb16.cell (by first | (simp; done) | (simp; omega) | omega)]; first | (with_reducible assumption) | (simp [go_sem]; done) | (simp [go_sem, *]; done))); (have k2 : w16.cell? ⟨w14.heap.size, 0, none⟩ = some (.int .i64 fN) := by (rw [hb16.cell (by first | (simp; done) | (simp; omega) | omega)]; first | (with_reducible assumption) | (simp [go_sem]; done) | (simp [go_sem, *]; done))); (have k3 : w16.cell? ⟨w14.heap.size, 1, none⟩ = some (.int .i64 fE) := by (rw [hb16.cell (by first | (simp; done) | (simp; omega) | omega)]; first | (with_reducible assumption) | (simp [go_sem]; done) | (simp [go_sem, *]; done)))) | (go_at_call 45; (with_reducible refine (CA.out _).mono ?_); rintro e w' ⟨rfl, rfl⟩) | (go_at_call 45; (with_reducible refine (CN.out _).mono ?_); rintro e w' ⟨rfl, rfl⟩) | (go_at_call 45; (with_reducible refine (CM.out _).mono ?_); rintro e w' ⟨rfl, rfl⟩))
            go_wp2
            go_ret
            exact ⟨rfl, by first | exact HB16.out.trans (by (repeat' (first | (with_reducible exact Below.refl _ _) | (with_reducible assumption) | (with_reducible refine Below.alloc ?_ ?_ _) | (with_reducible refine Below.drew ?_) | (with_reducible refine below_drewN ?_ _) | (with_reducible refine Below.setCell ?_ ?_ _) | go_size))) | exact HB15.out.trans (by (repeat' (first | (with_reducible exact Below.refl _ _) | (with_reducible assumption) | (with_reducible refine Below.alloc ?_ ?_ _) | (with_reducible refine Below.drew ?_) | (with_reducible refine below_drewN ?_ _) | (with_reducible refine Below.setCell ?_ ?_ _) | go_size)))⟩
        · skip
          obtain rfl := RL.out rfl
          obtain ⟨rdI0, rdI1, rdI2⟩ := XdI.out
          obtain ⟨rdS0, rdS1, rdS2⟩ := XdS.out
          cases fB
          · go_wp2
            go_ret
            exact ⟨rfl, HB15.out.trans (by (repeat' (first | (with_reducible exact Below.refl _ _) | (with_reducible assumption) | (with_reducible refine Below.alloc ?_ ?_ _) | (with_reducible refine Below.drew ?_) | (with_reducible refine below_drewN ?_ _) | (with_reducible refine Below.setCell ?_ ?_ _) | go_size)))⟩
          · obtain ⟨gg, u, v, z, CG, CI, CA, CN, CM, eu, ev⟩ := RF.out rfl
            replace CG := Lib.hid CG
            replace CI := Lib.hid CI
            replace CA := Lib.hid CA
            replace CN := Lib.hid CN
            replace CM := Lib.hid CM
            go_wp2_with fail
            (go_at_call 44; refine (CG.out _).mono ?_; rintro e w' ⟨rfl, rfl⟩)
            obtain ⟨rfI0, rfI1, rfI2⟩ := XfI.out
            obtain ⟨rfS0, rfS1, rfS2⟩ := XfS.out
            go_wp2_with fail
            go_region_held3 (fun w' => w'.cell? ⟨w13.heap.size, 0, none⟩ = some (.int .i64 fN) ∧ w'.cell? ⟨w13.heap.size, 1, none⟩ = some (.int .i64 fE) ∧ w'.cell? ⟨w14.heap.size, 0, none⟩ = some (.int .i64 fN) ∧ w'.cell? ⟨w14.heap.size, 1, none⟩ = some (.int .i64 fE)) ((first | exact ⟨by with_reducible assumption, by with_reducible assumption, by with_reducible assumption, by with_reducible assumption⟩ | ((try dsimp only); (repeat' apply And.intro); all_goals (first | (with_reducible assumption) | (go_keep; done) | (simp [go_sem]; done))))) (first | (go_at_call 43; (with_reducible refine (CI.out _).mono ?_); rintro e w16 ⟨rfl, hb16⟩; (have T16 := Lib.hid (show Below w15.heap.size w15 w16 from Below.trans (by (repeat' (first | (with_reducible exact Below.refl _ _) | (with_reducible assumption) | (with_reducible refine Below.alloc ?_ ?_ _) | (with_reducible refine Below.drew ?_) | (with_reducible refine below_drewN ?_ _) | (with_reducible refine Below.setCell ?_ ?_ _) | go_size))) (hb16.mono (by go_size)))); (have hs16 := T16.out.size); (have HB16 := Lib.hid (HB15.out.trans (T16.out.mono HB15.out.size))); (have k0 : w16.cell? ⟨w13.heap.size, 0, none⟩ = some (.int .i64 fN) := by (rw [hb16.cell (by first | (simp; done) | (simp; omega) | omega)]; first | (with_reducible assumption) | (simp [go_sem]; done) | (simp [go_sem, *]; done))); (have k1 : w16.cell? ⟨w13.heap.size, 1, none⟩ = some (.int .i64 fE) := by (rw [hb16.cell (by first | (simp; done) | (simp; omega) | omega)]; first | (with_reducible assumption) | (simp [go_sem]; done) | (simp [go_sem, *]; done))); (have k2 : w16.cell? ⟨w14.heap.size, 0, none⟩ = some (.int .i64 fN) := by (rw [hb16.cell (by first | (simp; done) | (simp; omega) | omega)]; first | (with_reducible assumption) | (simp [go_sem]; done) | (simp [go_sem, *]; done))); (have k3 : w16.cell? ⟨w14.heap.size, 1, none⟩ = some (.int .i64 fE) := by (rw [hb16.cell (by first | (simp; done) | (simp; omega) | omega)]; first | (with_reducible assumption) | (simp [go_sem]; done) | (simp [go_sem, *]; done)))) | (go_at_call 45; (with_reducible refine (CA.out _).mono ?_); rintro e w' ⟨rfl, rfl⟩) | (go_at_call 45; (with_reducible refine (CN.out _).mono ?_); rintro e w' ⟨rfl, rfl⟩) | (go_at_call 45; (with_reducible refine (CM.out _).mono ?_); rintro e w' ⟨rfl, rfl⟩))
            go_wp2
            go_ret
            exact ⟨rfl, by first | exact HB16.out.trans (by (repeat' (first | (with_reducible exact Below.refl _ _) | (with_reducible assumption) | (with_reducible refine Below.alloc ?_ ?_ _) | (with_reducible refine Below.drew ?_) | (with_reducible refine below_drewN ?_ _) | (with_reducible refine Below.setCell ?_ ?_ _) | go_size))) | exact HB15.out.trans (by (repeat' (first | (with_reducible exact Below.refl _ _) | (with_reducible assumption) | (with_reducible refine Below.alloc ?_ ?_ _) | (with_reducible refine Below.drew ?_) | (with_reducible refine below_drewN ?_ _) | (with_reducible refine Below.setCell ?_ ?_ _) | go_size)))⟩
    · skip
      obtain ⟨RS0, RS1, RS2⟩ := RS.out rfl
      replace RS0 := Lib.hid RS0
      replace RS1 := Lib.hid RS1
      replace RS2 := Lib.hid RS2
      obtain ⟨rsI0, rsI1, rsI2⟩ := XsI.out
      obtain ⟨rb0, rb1, rb2⟩ := Xb.out
      go_wp2_with fail
      (go_at_call 32; refine (RS0.out _).mono ?_; rintro e w15 ⟨rfl, hb15⟩)
      have T15 := Lib.hid (show Below w14.heap.size w14 w15 from Below.trans (by (repeat' (first | (with_reducible exact Below.refl _ _) | (with_reducible assumption) | (with_reducible refine Below.alloc ?_ ?_ _) | (with_reducible refine Below.drew ?_) | (with_reducible refine below_drewN ?_ _) | (with_reducible refine Below.setCell ?_ ?_ _) | go_size))) (hb15.mono (by go_size)))
      have XfS := Lib.hid ((BoxF.newAt (b := w14.heap.size) w14 (.int .i64 fN) (.int .i64 fE) 24 (by first | rfl | simp)).below (Below.trans (by (repeat' (first | (with_reducible exact Below.refl _ _) | (with_reducible assumption) | (with_reducible refine Below.alloc ?_ ?_ _) | (with_reducible refine Below.drew ?_) | (with_reducible refine below_drewN ?_ _) | (with_reducible refine Below.setCell ?_ ?_ _) | go_size))) (hb15.mono (by go_size))))
      replace Xa := Lib.hid (Xa.out.below T15.out)
      replace Xb := Lib.hid (Xb.out.below T15.out)
      replace XsI := Lib.hid (XsI.out.below T15.out)
      replace XsS := Lib.hid (XsS.out.below T15.out)
      replace XdI := Lib.hid (XdI.out.below T15.out)
      replace XdS := Lib.hid (XdS.out.below T15.out)
      replace XpI := Lib.hid (XpI.out.below T15.out)
      replace XpS := Lib.hid (XpS.out.below T15.out)
      replace XqI := Lib.hid (XqI.out.below T15.out)
      replace XqS := Lib.hid (XqS.out.below T15.out)
      replace XfI := Lib.hid (XfI.out.below T15.out)
      have HB15 := Lib.hid (HB14.out.trans (T15.out.mono HB14.out.size))
      have z15 := HB15.out.size
      clear hb15
      clear rsI0 rsI1 rsI2 rb0 rb1 rb2
      obtain ⟨rb0, rb1, rb2⟩ := Xb.out
      obtain ⟨ra0, ra1, ra2⟩ := Xa.out
      go_wp2_with fail
      (go_at_call 30; refine (RS1.out _).mono ?_; rintro e w16 ⟨rfl, hb16⟩)
      have T16 := Lib.hid (show Below w15.heap.size w15 w16 from Below.trans (by (repeat' (first | (with_reducible exact Below.refl _ _) | (with_reducible assumption) | (with_reducible refine Below.alloc ?_ ?_ _) | (with_reducible refine Below.drew ?_) | (with_reducible refine below_drewN ?_ _) | (with_reducible refine Below.setCell ?_ ?_ _) | go_size))) (hb16.mono (by go_size)))
      have Xs1 := Lib.hid ((BoxF.newAt (b := w15.heap.size) w15 (.int .i64 x0) (.int .i64 y0) 24 (by first | rfl | simp)).below (Below.trans (by (repeat' (first | (with_reducible exact Below.refl _ _) | (with_reducible assumption) | (with_reducible refine Below.alloc ?_ ?_ _) | (with_reducible refine Below.drew ?_) | (with_reducible refine below_drewN ?_ _) | (with_reducible refine Below.setCell ?_ ?_ _) | go_size))) (hb16.mono (by go_size))))
      replace Xa := Lib.hid (Xa.out.below T16.out)
      replace Xb := Lib.hid (Xb.out.below T16.out)
      replace XsI := Lib.hid (XsI.out.below T16.out)
      replace XsS := Lib.hid (XsS.out.below T16.out)
      replace XdI := Lib.hid (XdI.out.below T16.out)
      replace XdS := Lib.hid (XdS.out.below T16.out)
      replace XpI := Lib.hid (XpI.out.below T16.out)
      replace XpS := Lib.hid (XpS.out.below T16.out)
      replace XqI := Lib.hid (XqI.out.below T16.out)
      replace XqS := Lib.hid (XqS.out.below T16.out)
      replace XfI := Lib.hid (XfI.out.below T16.out)
      replace XfS := Lib.hid (XfS.out.below T16.out)
      have HB16 := Lib.hid (HB15.out.trans (T16.out.mono HB15.out.size))
      have z16 := HB16.out.size
      clear hb16
      clear rb0 rb1 rb2 ra0 ra1 ra2
      obtain ⟨rs10, rs11, rs12⟩ := Xs1.out
      obtain ⟨ra0, ra1, ra2⟩ := Xa.out
      obtain ⟨rsS0, rsS1, rsS2⟩ := XsS.out
      obtain ⟨rsI0, rsI1, rsI2⟩ := XsI.out
      go_wp2_with fail
      (go_at_call 43; refine (RS2.out _).mono ?_; rintro e w17 ⟨rfl, hb17⟩)
      have T17 := Lib.hid (show Below w16.heap.size w16 w17 from Below.trans (by (repeat' (first | (with_reducible exact Below.refl _ _) | (with_reducible assumption) | (with_reducible refine Below.alloc ?_ ?_ _) | (with_reducible refine Below.drew ?_) | (with_reducible refine below_drewN ?_ _) | (with_reducible refine Below.setCell ?_ ?_ _) | go_size))) (hb17.mono (by go_size)))
      have Xs2 := Lib.hid ((BoxF.newAt (b := w16.heap.size) w16 (.int .i64 sN) (.int .i64 sE) 24 (by first | rfl | simp)).below (Below.trans (by (repeat' (first | (with_reducible exact Below.refl _ _) | (with_reducible assumption) | (with_reducible refine Below.alloc ?_ ?_ _) | (with_reducible refine Below.drew ?_) | (with_reducible refine below_drewN ?_ _) | (with_reducible refine Below.setCell ?_ ?_ _) | go_size))) (hb17.mono (by go_size))))
      replace Xa := Lib.hid (Xa.out.below T17.out)
      replace Xb := Lib.hid (Xb.out.below T17.out)
      replace XsI := Lib.hid (XsI.out.below T17.out)
      replace XsS := Lib.hid (XsS.out.below T17.out)
      replace XdI := Lib.hid (XdI.out.below T17.out)
      replace XdS := Lib.hid (XdS.out.below T17.out)
      replace XpI := Lib.hid (XpI.out.below T17.out)
      replace XpS := Lib.hid (XpS.out.below T17.out)
      replace XqI := Lib.hid (XqI.out.below T17.out)
      replace XqS := Lib.hid (XqS.out.below T17.out)
      replace XfI := Lib.hid (XfI.out.below T17.out)
      replace XfS := Lib.hid (XfS.out.below T17.out)
      replace Xs1 := Lib.hid (Xs1.out.below T17.out)
      have HB17 := Lib.hid (HB16.out.trans (T17.out.mono HB16.out.size))
      have z17 := HB17.out.size
      clear hb17
      clear rs10 rs11 rs12 ra0 ra1 ra2 rsS0 rsS1 rsS2 rsI0 rsI1 rsI2
      cases qB
      · skip
        cases dB
        · skip
          obtain ⟨rdI0, rdI1, rdI2⟩ := XdI.out
          obtain ⟨rdS0, rdS1, rdS2⟩ := XdS.out
          cases fB
          · go_wp2
            go_ret
            exact ⟨rfl, HB17.out.trans (by (repeat' (first | (with_reducible exact Below.refl _ _) | (with_reducible assumption) | (with_reducible refine Below.alloc ?_ ?_ _) | (with_reducible refine Below.drew ?_) | (with_reducible refine below_drewN ?_ _) | (with_reducible refine Below.setCell ?_ ?_ _) | go_size)))⟩
          · obtain ⟨gg, u, v, z, CG, CI, CA, CN, CM, eu, ev⟩ := RF.out rfl
            replace CG := Lib.hid CG
            replace CI := Lib.hid CI
            replace CA := Lib.hid CA
            replace CN := Lib.hid CN
            replace CM := Lib.hid CM
            go_wp2_with fail
            (go_at_call 44; refine (CG.out _).mono ?_; rintro e w' ⟨rfl, rfl⟩)
            obtain ⟨rfI0, rfI1, rfI2⟩ := XfI.out
            obtain ⟨rfS0, rfS1, rfS2⟩ := XfS.out
            go_wp2_with fail
            go_region_held3 (fun w' => w'.cell? ⟨w13.heap.size, 0, none⟩ = some (.int .i64 fN) ∧ w'.cell? ⟨w13.heap.size, 1, none⟩ = some (.int .i64 fE) ∧ w'.cell? ⟨w14.heap.size, 0, none⟩ = some (.int .i64 fN) ∧ w'.cell? ⟨w14.heap.size, 1, none⟩ = some (.int .i64 fE)) ((first | exact ⟨by with_reducible assumption, by with_reducible assumption, by with_reducible assumption, by with_reducible assumption⟩ | ((try dsimp only); (repeat' apply And.intro); all_goals (first | (with_reducible assumption) | (go_keep; done) | (simp [go_sem]; done))))) (first | (go_at_call 43; (with_reducible refine (CI.out _).mono ?_); rintro e w18 ⟨rfl, hb18⟩; (have T18 := Lib.hid (show Below w17.heap.size w17 w18 from Below.trans (by (repeat' (first | (with_reducible exact Below.refl _ _) | (with_reducible assumption) | (with_reducible refine Below.alloc ?_ ?_ _) | (with_reducible refine Below.drew ?_) | (with_reducible refine below_drewN ?_ _) | (with_reducible refine Below.setCell ?_ ?_ _) | go_size))) (hb18.mono (by go_size)))); (have hs18 := T18.out.size); (have HB18 := Lib.hid (HB17.out.trans (T18.out.mono HB17.out.size))); (have k0 : w18.cell? ⟨w13.heap.size, 0, none⟩ = some (.int .i64 fN) := by (rw [hb18.cell (by first | (simp; done) | (simp; omega) | omega)]; first | (with_reducible assumption) | (simp [go_sem]; done) | (simp [go_sem, *]; done))); (have k1 : w18.cell? ⟨w13.heap.size, 1, none⟩ = some (.int .i64 fE) := by (rw [hb18.cell (by first | (simp; done) | (simp; omega) | omega)]; first | (with_reducible assumption) | (simp [go_sem]; done) | (simp [go_sem, *]; done))); (have k2 : w18.cell? ⟨w14.heap.size, 0, none⟩ = some (.int .i64 fN) := by (rw [hb18.cell (by first | (simp; done) | (simp; omega) | omega)]; first | (with_reducible assumption) | (simp [go_sem]; done) | (simp [go_sem, *]; done))); (have k3 : w18.cell? ⟨w14.heap.size, 1, none⟩ = some (.int .i64 fE) := by (rw [hb18.cell (by first | (simp; done) | (simp; omega) | omega)]; first | (with_reducible assumption) | (simp [go_sem]; done) | (simp [go_sem, *]; done)))) | (go_at_call 45; (with_reducible refine (CA.out _).mono ?_); rintro e w' ⟨rfl, rfl⟩) | (go_at_call 45; (with_reducible refine (CN.out _).mono ?_); rintro e w' ⟨rfl, rfl⟩) | (go_at_call 45; (with_reducible refine (CM.out _).mono ?_); rintro e w' ⟨rfl, rfl⟩))
            go_wp2
            go_ret
            exact ⟨rfl, by first | exact HB18.out.trans (by (repeat' (first | (with_reducible exact Below.refl _ _) | (with_reducible assumption) | (with_reducible refine Below.alloc ?_ ?_ _) | (with_reducible refine Below.drew ?_) | (with_reducible refine below_drewN ?_ _) | (with_reducible refine Below.setCell ?_ ?_ _) | go_size))) | exact HB17.out.trans (by (repeat' (first | (with_reducible exact Below.refl _ _) | (with_reducible assumption) | (with_reducible refine Below.alloc ?_ ?_ _) | (with_reducible refine Below.drew ?_) | (with_reducible refine below_drewN ?_ _) | (with_reducible refine Below.setCell ?_ ?_ _) | go_size)))⟩
        · skip
          obtain rfl := RL.out rfl
          obtain ⟨rdI0, rdI1, rdI2⟩ := XdI.out
          obtain ⟨rdS0, rdS1, rdS2⟩ := XdS.out
          cases fB
          · go_wp2
            go_ret
            exact ⟨rfl, HB17.out.trans (by (repeat' (first | (with_reducible exact Below.refl _ _) | (with_reducible assumption) | (with_reducible refine Below.alloc ?_ ?_ _) | (with_reducible refine Below.drew ?_) | (with_reducible refine below_drewN ?_ _) | (with_reducible refine Below.setCell ?_ ?_ _) | go_size)))⟩
          · obtain ⟨gg, u, v, z, CG, CI, CA, CN, CM, eu, ev⟩ := RF.out rfl
            replace CG := Lib.hid CG
            replace CI := Lib.hid CI
            replace CA := Lib.hid CA
            replace CN := Lib.hid CN
            replace CM := Lib.hid CM
            go_wp2_with fail
            (go_at_call 44; refine (CG.out _).mono ?_; rintro e w' ⟨rfl, rfl⟩)
            obtain ⟨rfI0, rfI1, rfI2⟩ := XfI.out
            obtain ⟨rfS0, rfS1, rfS2⟩ := XfS.out
            go_wp2_with fail
            go_region_held3 (fun w' => w'.cell? ⟨w13.heap.size, 0, none⟩ = some (.int .i64 fN) ∧ w'.cell? ⟨w13.heap.size, 1, none⟩ = some (.int .i64 fE) ∧ w'.cell? ⟨w14.heap.size, 0, none⟩ = some (.int .i64 fN) ∧ w'.cell? ⟨w14.heap.size, 1, none⟩ = some (.int .i64 fE)) ((first | exact ⟨by with_reducible assumption, by with_reducible assumption, by with_reducible assumption, by with_reducible assumption⟩ | ((try dsimp only); (repeat' apply And.intro); all_goals (first | (with_reducible assumption) | (go_keep; done) | (simp [go_sem]; done))))) (first | (go_at_call 43; (with_reducible refine (CI.out _).mono ?_); rintro e w18 ⟨rfl, hb18⟩; (have T18 := Lib.hid (show Below w17.heap.size w17 w18 from Below.trans (by (repeat' (first | (with_reducible exact Below.refl _ _) | (with_reducible assumption) | (with_reducible refine Below.alloc ?_ ?_ _) | (with_reducible refine Below.drew ?_) | (with_reducible refine below_drewN ?_ _) | (with_reducible refine Below.setCell ?_ ?_ _) | go_size))) (hb18.mono (by go_size)))); (have hs18 := T18.out.size); (have HB18 := Lib.hid (HB17.out.trans (T18.out.mono HB17.out.size))); (have k0 : w18.cell? ⟨w13.heap.size, 0, none⟩ = some (.int .i64 fN) := by (rw [hb18.cell (by first | (simp; done) | (simp; omega) | omega)]; first | (with_reducible assumption) | (simp [go_sem]; done) | (simp [go_sem, *]; done))); (have k1 : w18.cell? ⟨w13.heap.size, 1, none⟩ = some (.int .i64 fE) := by (rw [hb18.cell (by first | (simp; done) | (simp; omega) | omega)]; first | (with_reducible assumption) | (simp [go_sem]; done) | (simp [go_sem, *]; done))); (have k2 : w18.cell? ⟨w14.heap.size, 0, none⟩ = some (.int .i64 fN) := by (rw [hb18.cell (by first | (simp; done) | (simp; omega) | omega)]; first | (with_reducible assumption) | (simp [go_sem]; done) | (simp [go_sem, *]; done))); (have k3 : w18.cell? ⟨w14.heap.size, 1, none⟩ = some (.int .i64 fE) := by (rw [hb18.cell (by first | (simp; done) | (simp; omega) | omega)]; first | (with_reducible assumption) | (simp [go_sem]; done) | (simp [go_sem, *]; done)))) | (go_at_call 45; (with_reducible refine (CA.out _).mono ?_); rintro e w' ⟨rfl, rfl⟩) | (go_at_call 45; (with_reducible refine (CN.out _).mono ?_); rintro e w' ⟨rfl, rfl⟩) | (go_at_call 45; (with_reducible refine (CM.out _).mono ?_); rintro e w' ⟨rfl, rfl⟩))
            go_wp2
            go_ret
            exact ⟨rfl, by first | exact HB18.out.trans (by (repeat' (first | (with_reducible exact Below.refl _ _) | (with_reducible assumption) | (with_reducible refine Below.alloc ?_ ?_ _) | (with_reducible refine Below.drew ?_) | (with_reducible refine below_drewN ?_ _) | (with_reducible refine Below.setCell ?_ ?_ _) | go_size))) | exact HB17.out.trans (by (repeat' (first | (with_reducible exact Below.refl _ _) | (with_reducible assumption) | (with_reducible refine Below.alloc ?_ ?_ _) | (with_reducible refine Below.drew ?_) | (with_reducible refine below_drewN ?_ _) | (with_reducible refine Below.setCell ?_ ?_ _) | go_size)))⟩
      · skip
        obtain ⟨rqI0, rqI1, rqI2⟩ := XqI.out
        obtain ⟨rb0, rb1, rb2⟩ := Xb.out
        go_wp2_with fail
        (go_at_call 34; refine (RQ.out (by first | exact rfl | exact trivial) _).mono ?_; rintro e w18 ⟨rfl, hb18⟩)
        have T18 := Lib.hid (show Below w17.heap.size w17 w18 from Below.trans (by (repeat' (first | (with_reducible exact Below.refl _ _) | (with_reducible assumption) | (with_reducible refine Below.alloc ?_ ?_ _) | (with_reducible refine Below.drew ?_) | (with_reducible refine below_drewN ?_ _) | (with_reducible refine Below.setCell ?_ ?_ _) | go_size))) (hb18.mono (by go_size)))
        replace Xa := Lib.hid (Xa.out.below T18.out)
        replace Xb := Lib.hid (Xb.out.below T18.out)
        replace XsI := Lib.hid (XsI.out.below T18.out)
        replace XsS := Lib.hid (XsS.out.below T18.out)
        replace XdI := Lib.hid (XdI.out.below T18.out)
        replace XdS := Lib.hid (XdS.out.below T18.out)
        replace XpI := Lib.hid (XpI.out.below T18.out)
        replace XpS := Lib.hid (XpS.out.below T18.out)
        replace XqI := Lib.hid (XqI.out.below T18.out)
        replace XqS := Lib.hid (XqS.out.below T18.out)
        replace XfI := Lib.hid (XfI.out.below T18.out)
        replace XfS := Lib.hid (XfS.out.below T18.out)
        replace Xs1 := Lib.hid (Xs1.out.below T18.out)
        replace Xs2 := Lib.hid (Xs2.out.below T18.out)
        have HB18 := Lib.hid (HB17.out.trans (T18.out.mono HB17.out.size))
        have z18 := HB18.out.size
        clear hb18
        clear rqI0 rqI1 rqI2 rb0 rb1 rb2
        obtain ⟨ra0, ra1, ra2⟩ := Xa.out
        cases dB
        · skip
          obtain ⟨rdI0, rdI1, rdI2⟩ := XdI.out
          obtain ⟨rdS0, rdS1, rdS2⟩ := XdS.out
          cases fB
          · go_wp2
            go_ret
            exact ⟨rfl, HB18.out.trans (by (repeat' (first | (with_reducible exact Below.refl _ _) | (with_reducible assumption) | (with_reducible refine Below.alloc ?_ ?_ _) | (with_reducible refine Below.drew ?_) | (with_reducible refine below_drewN ?_ _) | (with_reducible refine Below.setCell ?_ ?_ _) | go_size)))⟩
          · obtain ⟨gg, u, v, z, CG, CI, CA, CN, CM, eu, ev⟩ := RF.out rfl
            replace CG := Lib.hid CG
            replace CI := Lib.hid CI
            replace CA := Lib.hid CA
            replace CN := Lib.hid CN
            replace CM := Lib.hid CM
            go_wp2_with fail
            (go_at_call 44; refine (CG.out _).mono ?_; rintro e w' ⟨rfl, rfl⟩)
            obtain ⟨rfI0, rfI1, rfI2⟩ := XfI.out
            obtain ⟨rfS0, rfS1, rfS2⟩ := XfS.out
            go_wp2_with fail
            go_region_held3 (fun w' => w'.cell? ⟨w13.heap.size, 0, none⟩ = some (.int .i64 fN) ∧ w'.cell? ⟨w13.heap.size, 1, none⟩ = some (.int .i64 fE) ∧ w'.cell? ⟨w14.heap.size, 0, none⟩ = some (.int .i64 fN) ∧ w'.cell? ⟨w14.heap.size, 1, none⟩ = some (.int .i64 fE)) ((first | exact ⟨by with_reducible assumption, by with_reducible assumption, by with_reducible assumption, by with_reducible assumption⟩ | ((try dsimp only); (repeat' apply And.intro); all_goals (first | (with_reducible assumption) | (go_keep; done) | (simp [go_sem]; done))))) (first | (go_at_call 43; (with_reducible refine (CI.out _).mono ?_); rintro e w19 ⟨rfl, hb19⟩; (have T19 := Lib.hid (show Below w18.heap.size w18 w19 from Below.trans (by (repeat' (first | (with_reducible exact Below.refl _ _) | (with_reducible assumption) | (with_reducible refine Below.alloc ?_ ?_ _) | (with_reducible refine Below.drew ?_) | (with_reducible refine below_drewN ?_ _) | (with_reducible refine Below.setCell ?_ ?_ _) | go_size))) (hb19.mono (by go_size)))); (have hs19 := T19.out.size); (have HB19 := Lib.hid (HB18.out.trans (T19.out.mono HB18.out.size))); (have k0 : w19.cell? ⟨w13.heap.size, 0, none⟩ = some (.int .i64 fN) := by (rw [hb19.cell (by first | (simp; done) | (simp; omega) | omega)]; first | (with_reducible assumption) | (simp [go_sem]; done) | (simp [go_sem, *]; done))); (have k1 : w19.cell? ⟨w13.heap.size, 1, none⟩ = some (.int .i64 fE) := by (rw [hb19.cell (by first | (simp; done) | (simp; omega) | omega)]; first | (with_reducible assumption) | (simp [go_sem]; done) | (simp [go_sem, *]; done))); (have k2 : w19.cell? ⟨w14.heap.size, 0, none⟩ = some (.int .i64 fN) := by (rw [hb19.cell (by first | (simp; done) | (simp; omega) | omega)]; first | (with_reducible assumption) | (simp [go_sem]; done) | (simp [go_sem, *]; done))); (have k3 : w19.cell? ⟨w14.heap.size, 1, none⟩ = some (.int .i64 fE) := by (rw [hb19.cell (by first | (simp; done) | (simp; omega) | omega)]; first | (with_reducible assumption) | (simp [go_sem]; done) | (simp [go_sem, *]; done)))) | (go_at_call 45; (with_reducible refine (CA.out _).mono ?_); rintro e w' ⟨rfl, rfl⟩) | (go_at_call 45; (with_reducible refine (CN.out _).mono ?_); rintro e w' ⟨rfl, rfl⟩) | (go_at_call 45; (with_reducible refine (CM.out _).mono ?_); rintro e w' ⟨rfl, rfl⟩))
            go_wp2
            go_ret
            exact ⟨rfl, by first | exact HB19.out.trans (by (repeat' (first | (with_reducible exact Below.refl _ _) | (with_reducible assumption) | (with_reducible refine Below.alloc ?_ ?_ _) | (with_reducible refine Below.drew ?_) | (with_reducible refine below_drewN ?_ _) | (with_reducible refine Below.setCell ?_ ?_ _) | go_size))) | exact HB18.out.trans (by (repeat' (first | (with_reducible exact Below.refl _ _) | (with_reducible assumption) | (with_reducible refine Below.alloc ?_ ?_ _) | (with_reducible refine Below.drew ?_) | (with_reducible refine below_drewN ?_ _) | (with_reducible refine Below.setCell ?_ ?_ _) | go_size)))⟩
        · skip
          obtain rfl := RL.out rfl
          obtain ⟨rdI0, rdI1, rdI2⟩ := XdI.out
          obtain ⟨rdS0, rdS1, rdS2⟩ := XdS.out
          cases fB
          · go_wp2
            go_ret
            exact ⟨rfl, HB18.out.trans (by (repeat' (first | (with_reducible exact Below.refl _ _) | (with_reducible assumption) | (with_reducible refine Below.alloc ?_ ?_ _) | (with_reducible refine Below.drew ?_) | (with_reducible refine below_drewN ?_ _) | (with_reducible refine Below.setCell ?_ ?_ _) | go_size)))⟩
          · obtain ⟨gg, u, v, z, CG, CI, CA, CN, CM, eu, ev⟩ := RF.out rfl
            replace CG := Lib.hid CG
            replace CI := Lib.hid CI
            replace CA := Lib.hid CA
            replace CN := Lib.hid CN
            replace CM := Lib.hid CM
            go_wp2_with fail
            (go_at_call 44; refine (CG.out _).mono ?_; rintro e w' ⟨rfl, rfl⟩)
            obtain ⟨rfI0, rfI1, rfI2⟩ := XfI.out
            obtain ⟨rfS0, rfS1, rfS2⟩ := XfS.out
            go_wp2_with fail
            go_region_held3 (fun w' => w'.cell? ⟨w13.heap.size, 0, none⟩ = some (.int .i64 fN) ∧ w'.cell? ⟨w13.heap.size, 1, none⟩ = some (.int .i64 fE) ∧ w'.cell? ⟨w14.heap.size, 0, none⟩ = some (.int .i64 fN) ∧ w'.cell? ⟨w14.heap.size, 1, none⟩ = some (.int .i64 fE)) ((first | exact ⟨by with_reducible assumption, by with_reducible assumption, by with_reducible assumption, by with_reducible assumption⟩ | ((try dsimp only); (repeat' apply And.intro); all_goals (first | (with_reducible assumption) | (go_keep; done) | (simp [go_sem]; done))))) (first | (go_at_call 43; (with_reducible refine (CI.out _).mono ?_); rintro e w19 ⟨rfl, hb19⟩; (have T19 := Lib.hid (show Below w18.heap.size w18 w19 from Below.trans (by (repeat' (first | (with_reducible exact Below.refl _ _) | (with_reducible assumption) | (with_reducible refine Below.alloc ?_ ?_ _) | (with_reducible refine Below.drew ?_) | (with_reducible refine below_drewN ?_ _) | (with_reducible refine Below.setCell ?_ ?_ _) | go_size))) (hb19.mono (by go_size)))); (have hs19 := T19.out.size); (have HB19 := Lib.hid (HB18.out.trans (T19.out.mono HB18.out.size))); (have k0 : w19.cell? ⟨w13.heap.size, 0, none⟩ = some (.int .i64 fN) := by (rw [hb19.cell (by first | (simp; done) | (simp; omega) | omega)]; first | (with_reducible assumption) | (simp [go_sem]; done) | (simp [go_sem, *]; done))); (have k1 : w19.cell? ⟨w13.heap.size, 1, none⟩ = some (.int .i64 fE) := by (rw [hb19.cell (by first | (simp; done) | (simp; omega) | omega)]; first | (with_reducible assumption) | (simp [go_sem]; done) | (simp [go_sem, *]; done))); (have k2 : w19.cell? ⟨w14.heap.size, 0, none⟩ = some (.int .i64 fN) := by (rw [hb19.cell (by first | (simp; done) | (simp; omega) | omega)]; first | (with_reducible assumption) | (simp [go_sem]; done) | (simp [go_sem, *]; done))); (have k3 : w19.cell? ⟨w14.heap.size, 1, none⟩ = some (.int .i64 fE) := by (rw [hb19.cell (by first | (simp; done) | (simp; omega) | omega)]; first | (with_reducible assumption) | (simp [go_sem]; done) | (simp [go_sem, *]; done)))) | (go_at_call 45; (with_reducible refine (CA.out _).mono ?_); rintro e w' ⟨rfl, rfl⟩) | (go_at_call 45; (with_reducible refine (CN.out _).mono ?_); rintro e w' ⟨rfl, rfl⟩) | (go_at_call 45; (with_reducible refine (CM.out _).mono ?_); rintro e w' ⟨rfl, rfl⟩))
            go_wp2
            go_ret
            exact ⟨rfl, by first | exact HB19.out.trans (by (repeat' (first | (with_reducible exact Below.refl _ _) | (with_reducible assumption) | (with_reducible refine Below.alloc ?_ ?_ _) | (with_reducible refine Below.drew ?_) | (with_reducible refine below_drewN ?_ _) | (with_reducible refine Below.setCell ?_ ?_ _) | go_size))) | exact HB18.out.trans (by (repeat' (first | (with_reducible exact Below.refl _ _) | (with_reducible assumption) | (with_reducible refine Below.alloc ?_ ?_ _) | (with_reducible refine Below.drew ?_) | (with_reducible refine below_drewN ?_ _) | (with_reducible refine Below.setCell ?_ ?_ _) | go_size)))⟩
end Go.Proofs.Ytklhmaegpejdbaa.Ff
