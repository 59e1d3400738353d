/- The walk of FnFractionParts. -/
import Derived.Test.YtklhmaegpejdbaaDoorFpE
import Derived.Test.YtklhmaegpejdbaaDoorFpC
import Derived.Test.YtklhmaegpejdbaaDoorFpD
import Derived.Test.YtklhmaegpejdbaaDoorSiW
import Derived.Test.YtklhmaegpejdbaaDoorDrawQ
import Derived.Test.YtklhmaegpejdbaaDoorDrawT
import Derived.Deep.DeepCutAuto
namespace Go.Proofs.YtklhmaegpejdbaaDoor.Fp
open Go.RowKit
open Go.Proofs.YtklhmaegpejdbaaDoor.Dp
set_option linter.unusedVariables false
set_option linter.unusedSimpArgs false
set_option maxRecDepth 100000
theorem hidEq {α : Type} (x : α) : ∃ y, Hid (x = y) := ⟨x, Lib.hid rfl⟩
theorem bs_len (u : ByteArray) (h : u.size ≤ 64) : u.data.toList.length ≤ 1048576 := by
  have : u.data.toList.length = u.size := Array.length_toList
  omega
theorem bs_same (u : ByteArray) : bsOf u.data.toList = u := by simp [bsOf]
set_option maxHeartbeats 16000000 in
theorem walk (A0 : Option Addr) (l0 c0 : Nat) (A1 : Option Addr) (l1 c1 : Nat) (w : World) (hB0 : Bytes w A0 l0) (hr0 : True) (hB1 : Bytes w A1 l1) (hr1 : True) (ht : Tab5 w) :
    Calls Tryd.prog 8 #[.slice A0 l0 c0, .slice A1 l1 c1] w fun e w' => e = .returned (.bool true) ∧ Below w.heap.size w w' := by
  have KB0 := Lib.hid hB0
  have KB1 := Lib.hid hB1
  have KT := Lib.hid ht
  have q0 := hB0.1
  have q1 := hB1.1
  clear hB0 hB1 ht hr0 hr1
  have HB0 := Lib.hid (Below.refl w.heap.size w)
  by_cases hbig : 1048576 < wrap64 ((l0 : Int) + (l1 : Int))
  · go_enter Tryd.func8, Tryd.ntmps8
    go_wp2
    go_ret
    exact ⟨rfl, by repeat' (first | (with_reducible exact Below.refl _ _) | (with_reducible assumption) | (with_reducible refine Below.alloc ?_ ?_ _) | (with_reducible refine Below.drew ?_) | (with_reducible refine below_drewN ?_ _) | (with_reducible refine Below.setCell ?_ ?_ _) | go_size)⟩
  go_enter Tryd.func8, Tryd.ntmps8
  go_wp2_with fail
  (go_at_call 27; refine (DrawFloorAndRest_any KB0.out).mono ?_; rintro e w1 ⟨⟨x, y, HXY, rfl⟩, hb1⟩)
  have T1 := Lib.hid (show Below w.heap.size w w1 from Below.trans (by (repeat' (first | (with_reducible exact Below.refl _ _) | (with_reducible assumption) | (with_reducible refine Below.alloc ?_ ?_ _) | (with_reducible refine Below.drew ?_) | (with_reducible refine below_drewN ?_ _) | (with_reducible refine Below.setCell ?_ ?_ _) | go_size))) (hb1.mono (by go_size)))
  have HB1 := Lib.hid (HB0.out.trans (T1.out.mono HB0.out.size))
  have z1 := HB1.out.size
  clear hb1
  clear KB0 HXY
  obtain ⟨fl, Hfl⟩ := hidEq (floR x y)
  obtain ⟨rN, HrN⟩ := hidEq (restN x y)
  obtain ⟨rE, HrE⟩ := hidEq (restE x y)
  obtain ⟨ab, Hab⟩ := hidEq (fracB x y)
  obtain ⟨tS, HtS⟩ := hidEq (Ft.res x y)
  obtain ⟨hh, Hhh⟩ := hidEq (heightR x y)
  have CfI : Hid (∀ w : World, Calls Tryd.prog 28 #[.agg #[.int .i64 x, .int .i64 y]] w fun e w' => e = .returned (.tuple #[.int .i64 fl, .agg #[.int .i64 rN, .int .i64 rE], .bool ab]) ∧ Below w.heap.size w w') := Lib.hid (fun w => by rw [← Hfl.out, ← HrN.out, ← HrE.out, ← Hab.out]; exact implFloorAndRest_any x y w)
  have CfS : Hid (∀ w : World, Calls Tryd.prog 29 #[.agg #[.int .i64 x, .int .i64 y]] w fun e w' => e = .returned (.tuple #[.int .i64 fl, .agg #[.int .i64 rN, .int .i64 rE], .bool ab]) ∧ Below w.heap.size w w') := Lib.hid (fun w => by rw [← Hfl.out, ← HrN.out, ← HrE.out, ← Hab.out]; exact specFloorAndRest_any x y w)
  have CtI : Hid (∀ w : World, Tab w → Calls Tryd.prog 23 #[.agg #[.int .i64 x, .int .i64 y]] w fun e w' => e = .returned (.tuple #[.string tS, .bool ab]) ∧ Below w.heap.size w w') := Lib.hid (fun w ht => by rw [← HtS.out, ← Hab.out]; exact Ft.impl_any x y w ht)
  have CtS : Hid (∀ w : World, Calls Tryd.prog 21 #[.agg #[.int .i64 x, .int .i64 y]] w fun e w' => e = .returned (.tuple #[.string tS, .bool ab]) ∧ Below w.heap.size w w') := Lib.hid (fun w => by rw [← HtS.out, ← Hab.out]; exact Ft.spec_any x y w)
  have ChI : Hid (∀ w : World, Calls Tryd.prog 30 #[.agg #[.int .i64 x, .int .i64 y]] w fun e w' => e = .returned (.tuple #[.int .i64 hh, .bool ab]) ∧ Below w.heap.size w w') := Lib.hid (fun w => by rw [← Hhh.out, ← Hab.out]; exact implFractionHeight_any x y w)
  have ChS : Hid (∀ w : World, Calls Tryd.prog 31 #[.agg #[.int .i64 x, .int .i64 y]] w fun e w' => e = .returned (.tuple #[.int .i64 hh, .bool ab]) ∧ Below w.heap.size w w') := Lib.hid (fun w => by rw [← Hhh.out, ← Hab.out]; exact specFractionHeight_any x y w)
  have CiI : Hid (∀ w : World, Calls Tryd.prog 39 #[.agg #[.int .i64 x, .int .i64 y]] w fun e w' => e = .returned (.bool ab) ∧ Below w.heap.size w w') := Lib.hid (fun w => by rw [← Hab.out]; exact implIsFraction_any x y w)
  have LF : Hid (ab = true → (∀ w : World, Calls Tryd.prog 42 #[.agg #[.int .i64 fl, .int .i64 1], .agg #[.int .i64 rN, .int .i64 rE]] w fun e w' => e = .returned (.tuple #[.agg #[.int .i64 x, .int .i64 y], .bool true]) ∧ Below w.heap.size w w') ∧ (∀ w : World, Tab5 w → Calls Tryd.prog 19 #[.string tS] w fun e w' => e = .returned (.tuple #[.agg #[.int .i64 x, .int .i64 y], .bool true]) ∧ Below w.heap.size w w') ∧ (0 ≤ rN ∧ rN < rE) ∧ y ≤ hh) := Lib.hid (fun h => by
    rw [← Hab.out] at h
    obtain ⟨⟨k0, k1, k2⟩, ⟨k3, k4⟩, k5⟩ := fl_law h
    have e1 : fl = x / y := by rw [← Hfl.out]; unfold floR; rw [if_pos h]
    have e2 : rN = x % y := by rw [← HrN.out]; unfold restN; rw [if_pos h]
    have e3 : rE = y := by rw [← HrE.out]; unfold restE; rw [if_pos h]
    have e4 : tS = bsOf (ftL x y) := by rw [← HtS.out]; unfold Ft.res; rw [if_pos h]; exact ftS_list x y
    obtain ⟨p0, p1, p2⟩ := pf_yes (s := ftL x y) (n := x) (d := y) ⟨h, rfl⟩
    have hl : (ftL x y).length ≤ 1048576 := by have := pf_short (s := ftL x y) (n := x) (d := y) ⟨h, rfl⟩; omega
    refine ⟨fun w => ?_, fun w ht => ?_, by rw [e2, e3]; exact ⟨k3, k4⟩, by rw [← Hhh.out]; exact k5⟩
    · have := implSumOf_any (x / y) 1 (x % y) y w; rw [k0, k1, k2] at this; rw [e1, e2, e3]; exact this
    · have := ParseFraction_impl (ftL x y) hl w ht.1 ht.2; rw [p0, p1, p2] at this; rw [e4]; exact this)
  clear Hfl HrN HrE Hab HtS Hhh
  go_wp2_with fail
  (go_at_call 28; refine (CfI.out _).mono ?_; rintro e w2 ⟨rfl, hb2⟩)
  have T2 := Lib.hid (show Below w1.heap.size w1 w2 from Below.trans (by (repeat' (first | (with_reducible exact Below.refl _ _) | (with_reducible assumption) | (with_reducible refine Below.alloc ?_ ?_ _) | (with_reducible refine Below.drew ?_) | (with_reducible refine below_drewN ?_ _) | (with_reducible refine Below.setCell ?_ ?_ _) | go_size))) (hb2.mono (by go_size)))
  have Xa := Lib.hid ((BoxF.newAt (b := w1.heap.size) w1 (.int .i64 x) (.int .i64 y) 37 (by first | rfl | simp)).below (Below.trans (by (repeat' (first | (with_reducible exact Below.refl _ _) | (with_reducible assumption) | (with_reducible refine Below.alloc ?_ ?_ _) | (with_reducible refine Below.drew ?_) | (with_reducible refine below_drewN ?_ _) | (with_reducible refine Below.setCell ?_ ?_ _) | go_size))) (hb2.mono (by go_size))))
  have HB2 := Lib.hid (HB1.out.trans (T2.out.mono HB1.out.size))
  have z2 := HB2.out.size
  clear hb2
  obtain ⟨ra0, ra1, ra2⟩ := Xa.out
  go_wp2_with fail
  (go_at_call 29; refine (CfS.out _).mono ?_; rintro e w3 ⟨rfl, hb3⟩)
  have T3 := Lib.hid (show Below w2.heap.size w2 w3 from Below.trans (by (repeat' (first | (with_reducible exact Below.refl _ _) | (with_reducible assumption) | (with_reducible refine Below.alloc ?_ ?_ _) | (with_reducible refine Below.drew ?_) | (with_reducible refine below_drewN ?_ _) | (with_reducible refine Below.setCell ?_ ?_ _) | go_size))) (hb3.mono (by go_size)))
  have Xr := Lib.hid ((BoxF.newAt (b := w2.heap.size) w2 (.int .i64 rN) (.int .i64 rE) 37 (by first | rfl | simp)).below (Below.trans (by (repeat' (first | (with_reducible exact Below.refl _ _) | (with_reducible assumption) | (with_reducible refine Below.alloc ?_ ?_ _) | (with_reducible refine Below.drew ?_) | (with_reducible refine below_drewN ?_ _) | (with_reducible refine Below.setCell ?_ ?_ _) | go_size))) (hb3.mono (by go_size))))
  replace Xa := Lib.hid (Xa.out.below T3.out)
  have HB3 := Lib.hid (HB2.out.trans (T3.out.mono HB2.out.size))
  have z3 := HB3.out.size
  clear hb3
  clear ra0 ra1 ra2
  obtain ⟨ra0, ra1, ra2⟩ := Xa.out
  go_wp2_with fail
  (go_at_call 23; refine (CtI.out _ (KT.out.below (Below.trans HB3.out (by (repeat' (first | (with_reducible exact Below.refl _ _) | (with_reducible assumption) | (with_reducible refine Below.alloc ?_ ?_ _) | (with_reducible refine Below.drew ?_) | (with_reducible refine below_drewN ?_ _) | (with_reducible refine Below.setCell ?_ ?_ _) | go_size))))).1).mono ?_; rintro e w4 ⟨rfl, hb4⟩)
  have T4 := Lib.hid (show Below w3.heap.size w3 w4 from Below.trans (by (repeat' (first | (with_reducible exact Below.refl _ _) | (with_reducible assumption) | (with_reducible refine Below.alloc ?_ ?_ _) | (with_reducible refine Below.drew ?_) | (with_reducible refine below_drewN ?_ _) | (with_reducible refine Below.setCell ?_ ?_ _) | go_size))) (hb4.mono (by go_size)))
  have Xq := Lib.hid ((BoxF.newAt (b := w3.heap.size) w3 (.int .i64 rN) (.int .i64 rE) 37 (by first | rfl | simp)).below (Below.trans (by (repeat' (first | (with_reducible exact Below.refl _ _) | (with_reducible assumption) | (with_reducible refine Below.alloc ?_ ?_ _) | (with_reducible refine Below.drew ?_) | (with_reducible refine below_drewN ?_ _) | (with_reducible refine Below.setCell ?_ ?_ _) | go_size))) (hb4.mono (by go_size))))
  replace Xa := Lib.hid (Xa.out.below T4.out)
  replace Xr := Lib.hid (Xr.out.below T4.out)
  have HB4 := Lib.hid (HB3.out.trans (T4.out.mono HB3.out.size))
  have z4 := HB4.out.size
  clear hb4
  clear ra0 ra1 ra2
  obtain ⟨ra0, ra1, ra2⟩ := Xa.out
  go_wp2_with fail
  (go_at_call 21; refine (CtS.out _).mono ?_; rintro e w5 ⟨rfl, hb5⟩)
  have T5 := Lib.hid (show Below w4.heap.size w4 w5 from Below.trans (by (repeat' (first | (with_reducible exact Below.refl _ _) | (with_reducible assumption) | (with_reducible refine Below.alloc ?_ ?_ _) | (with_reducible refine Below.drew ?_) | (with_reducible refine below_drewN ?_ _) | (with_reducible refine Below.setCell ?_ ?_ _) | go_size))) (hb5.mono (by go_size)))
  replace Xa := Lib.hid (Xa.out.below T5.out)
  replace Xr := Lib.hid (Xr.out.below T5.out)
  replace Xq := Lib.hid (Xq.out.below T5.out)
  have HB5 := Lib.hid (HB4.out.trans (T5.out.mono HB4.out.size))
  have z5 := HB5.out.size
  clear hb5
  clear ra0 ra1 ra2
  obtain ⟨ra0, ra1, ra2⟩ := Xa.out
  go_wp2_with fail
  (go_at_call 30; refine (ChI.out _).mono ?_; rintro e w6 ⟨rfl, hb6⟩)
  have T6 := Lib.hid (show Below w5.heap.size w5 w6 from Below.trans (by (repeat' (first | (with_reducible exact Below.refl _ _) | (with_reducible assumption) | (with_reducible refine Below.alloc ?_ ?_ _) | (with_reducible refine Below.drew ?_) | (with_reducible refine below_drewN ?_ _) | (with_reducible refine Below.setCell ?_ ?_ _) | go_size))) (hb6.mono (by go_size)))
  replace Xa := Lib.hid (Xa.out.below T6.out)
  replace Xr := Lib.hid (Xr.out.below T6.out)
  replace Xq := Lib.hid (Xq.out.below T6.out)
  have HB6 := Lib.hid (HB5.out.trans (T6.out.mono HB5.out.size))
  have z6 := HB6.out.size
  clear hb6
  clear ra0 ra1 ra2
  obtain ⟨ra0, ra1, ra2⟩ := Xa.out
  go_wp2_with fail
  (go_at_call 31; refine (ChS.out _).mono ?_; rintro e w7 ⟨rfl, hb7⟩)
  have T7 := Lib.hid (show Below w6.heap.size w6 w7 from Below.trans (by (repeat' (first | (with_reducible exact Below.refl _ _) | (with_reducible assumption) | (with_reducible refine Below.alloc ?_ ?_ _) | (with_reducible refine Below.drew ?_) | (with_reducible refine below_drewN ?_ _) | (with_reducible refine Below.setCell ?_ ?_ _) | go_size))) (hb7.mono (by go_size)))
  replace Xa := Lib.hid (Xa.out.below T7.out)
  replace Xr := Lib.hid (Xr.out.below T7.out)
  replace Xq := Lib.hid (Xq.out.below T7.out)
  have HB7 := Lib.hid (HB6.out.trans (T7.out.mono HB6.out.size))
  have z7 := HB7.out.size
  clear hb7
  clear ra0 ra1 ra2
  go_wp2_with fail
  (go_at_call 32; refine (DrawSquareRootOf_any (KB1.out.below (Below.trans HB7.out (by (repeat' (first | (with_reducible exact Below.refl _ _) | (with_reducible assumption) | (with_reducible refine Below.alloc ?_ ?_ _) | (with_reducible refine Below.drew ?_) | (with_reducible refine below_drewN ?_ _) | (with_reducible refine Below.setCell ?_ ?_ _) | go_size)))))).mono ?_; rintro e w8 ⟨⟨u, v, HUV, rfl⟩, hb8⟩)
  have T8 := Lib.hid (show Below w7.heap.size w7 w8 from Below.trans (by (repeat' (first | (with_reducible exact Below.refl _ _) | (with_reducible assumption) | (with_reducible refine Below.alloc ?_ ?_ _) | (with_reducible refine Below.drew ?_) | (with_reducible refine below_drewN ?_ _) | (with_reducible refine Below.setCell ?_ ?_ _) | go_size))) (hb8.mono (by go_size)))
  replace Xa := Lib.hid (Xa.out.below T8.out)
  replace Xr := Lib.hid (Xr.out.below T8.out)
  replace Xq := Lib.hid (Xq.out.below T8.out)
  have HB8 := Lib.hid (HB7.out.trans (T8.out.mono HB7.out.size))
  have z8 := HB8.out.size
  clear hb8
  clear HUV CfI CfS CtI CtS ChI ChS
  obtain ⟨sN, HsN⟩ := hidEq (srN u v)
  obtain ⟨sE, HsE⟩ := hidEq (srE u v)
  obtain ⟨sB, HsB⟩ := hidEq (srB u v)
  have CsI : Hid (∀ w : World, Calls Tryd.prog 33 #[.agg #[.int .i64 u, .int .i64 v]] w fun e w' => e = .returned (.tuple #[.agg #[.int .i64 sN, .int .i64 sE], .bool sB]) ∧ Below w.heap.size w w') := Lib.hid (fun w => by rw [← HsN.out, ← HsE.out, ← HsB.out]; exact implSquareRootOf_any u v w)
  have CsS : Hid (∀ w : World, Calls Tryd.prog 34 #[.agg #[.int .i64 u, .int .i64 v]] w fun e w' => e = .returned (.tuple #[.agg #[.int .i64 sN, .int .i64 sE], .bool sB]) ∧ Below w.heap.size w w') := Lib.hid (fun w => by rw [← HsN.out, ← HsE.out, ← HsB.out]; exact specSquareRootOf_any u v w)
  have LP : Hid (sB = true → (∀ w : World, Calls Tryd.prog 40 #[.agg #[.int .i64 sN, .int .i64 sE], .agg #[.int .i64 sN, .int .i64 sE]] w fun e w' => e = .returned (.tuple #[.agg #[.int .i64 u, .int .i64 v], .bool true]) ∧ Below w.heap.size w w') ∧ 0 ≤ sN) := Lib.hid (fun h => by
    rw [← HsB.out] at h
    obtain ⟨k0, k1, k2, k3⟩ := root_law h
    rw [HsN.out] at k0 k1 k2 k3
    rw [HsE.out] at k0 k1 k2
    exact ⟨fun w => by have := implProductOf_any sN sE sN sE w; rw [k0, k1, k2] at this; exact this, k3⟩)
  clear HsN HsE HsB
  go_wp2_with fail
  (go_at_call 33; refine (CsI.out _).mono ?_; rintro e w9 ⟨rfl, hb9⟩)
  have T9 := Lib.hid (show Below w8.heap.size w8 w9 from Below.trans (by (repeat' (first | (with_reducible exact Below.refl _ _) | (with_reducible assumption) | (with_reducible refine Below.alloc ?_ ?_ _) | (with_reducible refine Below.drew ?_) | (with_reducible refine below_drewN ?_ _) | (with_reducible refine Below.setCell ?_ ?_ _) | go_size))) (hb9.mono (by go_size)))
  have Xb := Lib.hid ((BoxF.newAt (b := w8.heap.size) w8 (.int .i64 u) (.int .i64 v) 37 (by first | rfl | simp)).below (Below.trans (by (repeat' (first | (with_reducible exact Below.refl _ _) | (with_reducible assumption) | (with_reducible refine Below.alloc ?_ ?_ _) | (with_reducible refine Below.drew ?_) | (with_reducible refine below_drewN ?_ _) | (with_reducible refine Below.setCell ?_ ?_ _) | go_size))) (hb9.mono (by go_size))))
  replace Xa := Lib.hid (Xa.out.below T9.out)
  replace Xr := Lib.hid (Xr.out.below T9.out)
  replace Xq := Lib.hid (Xq.out.below T9.out)
  have HB9 := Lib.hid (HB8.out.trans (T9.out.mono HB8.out.size))
  have z9 := HB9.out.size
  clear hb9
  obtain ⟨rb0, rb1, rb2⟩ := Xb.out
  go_wp2_with fail
  (go_at_call 34; refine (CsS.out _).mono ?_; rintro e w10 ⟨rfl, hb10⟩)
  have T10 := Lib.hid (show Below w9.heap.size w9 w10 from Below.trans (by (repeat' (first | (with_reducible exact Below.refl _ _) | (with_reducible assumption) | (with_reducible refine Below.alloc ?_ ?_ _) | (with_reducible refine Below.drew ?_) | (with_reducible refine below_drewN ?_ _) | (with_reducible refine Below.setCell ?_ ?_ _) | go_size))) (hb10.mono (by go_size)))
  have Xs := Lib.hid ((BoxF.newAt (b := w9.heap.size) w9 (.int .i64 sN) (.int .i64 sE) 37 (by first | rfl | simp)).below (Below.trans (by (repeat' (first | (with_reducible exact Below.refl _ _) | (with_reducible assumption) | (with_reducible refine Below.alloc ?_ ?_ _) | (with_reducible refine Below.drew ?_) | (with_reducible refine below_drewN ?_ _) | (with_reducible refine Below.setCell ?_ ?_ _) | go_size))) (hb10.mono (by go_size))))
  replace Xa := Lib.hid (Xa.out.below T10.out)
  replace Xr := Lib.hid (Xr.out.below T10.out)
  replace Xq := Lib.hid (Xq.out.below T10.out)
  replace Xb := Lib.hid (Xb.out.below T10.out)
  have HB10 := Lib.hid (HB9.out.trans (T10.out.mono HB9.out.size))
  have z10 := HB10.out.size
  clear hb10
  clear rb0 rb1 rb2
  go_wp2_with fail
  (go_at_call 35; refine (Dq.DrawSimplestIn_any (KB1.out.below (Below.trans HB10.out (by (repeat' (first | (with_reducible exact Below.refl _ _) | (with_reducible assumption) | (with_reducible refine Below.alloc ?_ ?_ _) | (with_reducible refine Below.drew ?_) | (with_reducible refine below_drewN ?_ _) | (with_reducible refine Below.setCell ?_ ?_ _) | go_size)))))).mono ?_; rintro e w11 ⟨⟨x0, y0, x1, y1, HI4, rfl⟩, hb11⟩)
  have T11 := Lib.hid (show Below w10.heap.size w10 w11 from Below.trans (by (repeat' (first | (with_reducible exact Below.refl _ _) | (with_reducible assumption) | (with_reducible refine Below.alloc ?_ ?_ _) | (with_reducible refine Below.drew ?_) | (with_reducible refine below_drewN ?_ _) | (with_reducible refine Below.setCell ?_ ?_ _) | go_size))) (hb11.mono (by go_size)))
  have Xo := Lib.hid ((BoxF.newAt (b := w10.heap.size) w10 (.int .i64 sN) (.int .i64 sE) 37 (by first | rfl | simp)).below (Below.trans (by (repeat' (first | (with_reducible exact Below.refl _ _) | (with_reducible assumption) | (with_reducible refine Below.alloc ?_ ?_ _) | (with_reducible refine Below.drew ?_) | (with_reducible refine below_drewN ?_ _) | (with_reducible refine Below.setCell ?_ ?_ _) | go_size))) (hb11.mono (by go_size))))
  replace Xa := Lib.hid (Xa.out.below T11.out)
  replace Xr := Lib.hid (Xr.out.below T11.out)
  replace Xq := Lib.hid (Xq.out.below T11.out)
  replace Xb := Lib.hid (Xb.out.below T11.out)
  replace Xs := Lib.hid (Xs.out.below T11.out)
  have HB11 := Lib.hid (HB10.out.trans (T11.out.mono HB10.out.size))
  have z11 := HB11.out.size
  clear hb11
  clear HI4 CsI CsS
  obtain ⟨mN, HmN⟩ := hidEq (siN x0 y0 x1 y1)
  obtain ⟨mE, HmE⟩ := hidEq (siE x0 y0 x1 y1)
  obtain ⟨mB, HmB⟩ := hidEq (siB x0 y0 x1 y1)
  have CmI : Hid (∀ w : World, Calls Tryd.prog 36 #[.agg #[.int .i64 x0, .int .i64 y0], .agg #[.int .i64 x1, .int .i64 y1]] w fun e w' => e = .returned (.tuple #[.agg #[.int .i64 mN, .int .i64 mE], .bool mB]) ∧ Below w.heap.size w w') := Lib.hid (fun w => by rw [← HmN.out, ← HmE.out, ← HmB.out]; exact implSimplestIn_any x0 y0 x1 y1 w)
  have CmS : Hid (∀ w : World, Calls Tryd.prog 37 #[.agg #[.int .i64 x0, .int .i64 y0], .agg #[.int .i64 x1, .int .i64 y1]] w fun e w' => e = .returned (.tuple #[.agg #[.int .i64 mN, .int .i64 mE], .bool mB]) ∧ Below w.heap.size w w') := Lib.hid (fun w => by rw [← HmN.out, ← HmE.out, ← HmB.out]; exact specSimplestIn_any x0 y0 x1 y1 w)
  have LS : Hid (mB = true → (∀ w : World, Calls Tryd.prog 41 #[.agg #[.int .i64 mN, .int .i64 mE], .agg #[.int .i64 x0, .int .i64 y0]] w fun e w' => e = .returned (.bool false) ∧ Below w.heap.size w w') ∧ (∀ w : World, Calls Tryd.prog 41 #[.agg #[.int .i64 x1, .int .i64 y1], .agg #[.int .i64 mN, .int .i64 mE]] w fun e w' => e = .returned (.bool false) ∧ Below w.heap.size w w') ∧ mE ≤ 1000 ∧ mE ≤ y0 ∧ mE ≤ y1) := Lib.hid (fun h => by
    rw [← HmB.out] at h
    obtain ⟨k0, k1, k2, k3, k4⟩ := si_law h
    rw [HmN.out] at k0 k1
    rw [HmE.out] at k0 k1 k2 k3 k4
    exact ⟨fun w => by have := qLess_any mN mE x0 y0 w; rw [k0] at this; exact this, fun w => by have := qLess_any x1 y1 mN mE w; rw [k1] at this; exact this, k2, k3, k4⟩)
  clear HmN HmE HmB
  go_wp2_with fail
  (go_at_call 36; refine (CmI.out _).mono ?_; rintro e w12 ⟨rfl, hb12⟩)
  have T12 := Lib.hid (show Below w11.heap.size w11 w12 from Below.trans (by (repeat' (first | (with_reducible exact Below.refl _ _) | (with_reducible assumption) | (with_reducible refine Below.alloc ?_ ?_ _) | (with_reducible refine Below.drew ?_) | (with_reducible refine below_drewN ?_ _) | (with_reducible refine Below.setCell ?_ ?_ _) | go_size))) (hb12.mono (by go_size)))
  have XX := Lib.hid ((BoxF.newAt (b := w11.heap.size) w11 (.int .i64 x0) (.int .i64 y0) 37 (by first | rfl | simp)).below (Below.trans (by (repeat' (first | (with_reducible exact Below.refl _ _) | (with_reducible assumption) | (with_reducible refine Below.alloc ?_ ?_ _) | (with_reducible refine Below.drew ?_) | (with_reducible refine below_drewN ?_ _) | (with_reducible refine Below.setCell ?_ ?_ _) | go_size))) (hb12.mono (by go_size))))
  have XY := Lib.hid ((BoxF.newAt (b := w11.heap.size + 1) (w11.alloc (.cells #[.int .i64 x0, .int .i64 y0] 37)) (.int .i64 x1) (.int .i64 y1) 37 (by first | rfl | simp)).below (Below.trans (by (repeat' (first | (with_reducible exact Below.refl _ _) | (with_reducible assumption) | (with_reducible refine Below.alloc ?_ ?_ _) | (with_reducible refine Below.drew ?_) | (with_reducible refine below_drewN ?_ _) | (with_reducible refine Below.setCell ?_ ?_ _) | go_size))) (hb12.mono (by go_size))))
  replace Xa := Lib.hid (Xa.out.below T12.out)
  replace Xr := Lib.hid (Xr.out.below T12.out)
  replace Xq := Lib.hid (Xq.out.below T12.out)
  replace Xb := Lib.hid (Xb.out.below T12.out)
  replace Xs := Lib.hid (Xs.out.below T12.out)
  replace Xo := Lib.hid (Xo.out.below T12.out)
  have HB12 := Lib.hid (HB11.out.trans (T12.out.mono HB11.out.size))
  have z12 := HB12.out.size
  clear hb12
  obtain ⟨rX0, rX1, rX2⟩ := XX.out
  obtain ⟨rY0, rY1, rY2⟩ := XY.out
  go_wp2_with fail
  (go_at_call 37; refine (CmS.out _).mono ?_; rintro e w13 ⟨rfl, hb13⟩)
  have T13 := Lib.hid (show Below w12.heap.size w12 w13 from Below.trans (by (repeat' (first | (with_reducible exact Below.refl _ _) | (with_reducible assumption) | (with_reducible refine Below.alloc ?_ ?_ _) | (with_reducible refine Below.drew ?_) | (with_reducible refine below_drewN ?_ _) | (with_reducible refine Below.setCell ?_ ?_ _) | go_size))) (hb13.mono (by go_size)))
  have Xi := Lib.hid ((BoxF.newAt (b := w12.heap.size) w12 (.int .i64 mN) (.int .i64 mE) 37 (by first | rfl | simp)).below (Below.trans (by (repeat' (first | (with_reducible exact Below.refl _ _) | (with_reducible assumption) | (with_reducible refine Below.alloc ?_ ?_ _) | (with_reducible refine Below.drew ?_) | (with_reducible refine below_drewN ?_ _) | (with_reducible refine Below.setCell ?_ ?_ _) | go_size))) (hb13.mono (by go_size))))
  replace Xa := Lib.hid (Xa.out.below T13.out)
  replace Xr := Lib.hid (Xr.out.below T13.out)
  replace Xq := Lib.hid (Xq.out.below T13.out)
  replace Xb := Lib.hid (Xb.out.below T13.out)
  replace Xs := Lib.hid (Xs.out.below T13.out)
  replace Xo := Lib.hid (Xo.out.below T13.out)
  replace XX := Lib.hid (XX.out.below T13.out)
  replace XY := Lib.hid (XY.out.below T13.out)
  have HB13 := Lib.hid (HB12.out.trans (T13.out.mono HB12.out.size))
  have z13 := HB13.out.size
  clear hb13
  clear rX0 rX1 rX2 rY0 rY1 rY2
  go_wp2_with fail
  (go_at_call 38; refine (Dt.DrawParseFraction_any (KB1.out.below (Below.trans HB13.out (by (repeat' (first | (with_reducible exact Below.refl _ _) | (with_reducible assumption) | (with_reducible refine Below.alloc ?_ ?_ _) | (with_reducible refine Below.drew ?_) | (with_reducible refine below_drewN ?_ _) | (with_reducible refine Below.setCell ?_ ?_ _) | go_size)))))).mono ?_; rintro e w14 ⟨⟨us, hus, rfl⟩, hb14⟩)
  have T14 := Lib.hid (show Below w13.heap.size w13 w14 from Below.trans (by (repeat' (first | (with_reducible exact Below.refl _ _) | (with_reducible assumption) | (with_reducible refine Below.alloc ?_ ?_ _) | (with_reducible refine Below.drew ?_) | (with_reducible refine below_drewN ?_ _) | (with_reducible refine Below.setCell ?_ ?_ _) | go_size))) (hb14.mono (by go_size)))
  have Xn := Lib.hid ((BoxF.newAt (b := w13.heap.size) w13 (.int .i64 mN) (.int .i64 mE) 37 (by first | rfl | simp)).below (Below.trans (by (repeat' (first | (with_reducible exact Below.refl _ _) | (with_reducible assumption) | (with_reducible refine Below.alloc ?_ ?_ _) | (with_reducible refine Below.drew ?_) | (with_reducible refine below_drewN ?_ _) | (with_reducible refine Below.setCell ?_ ?_ _) | go_size))) (hb14.mono (by go_size))))
  replace Xa := Lib.hid (Xa.out.below T14.out)
  replace Xr := Lib.hid (Xr.out.below T14.out)
  replace Xq := Lib.hid (Xq.out.below T14.out)
  replace Xb := Lib.hid (Xb.out.below T14.out)
  replace Xs := Lib.hid (Xs.out.below T14.out)
  replace Xo := Lib.hid (Xo.out.below T14.out)
  replace XX := Lib.hid (XX.out.below T14.out)
  replace XY := Lib.hid (XY.out.below T14.out)
  replace Xi := Lib.hid (Xi.out.below T14.out)
  have HB14 := Lib.hid (HB13.out.trans (T14.out.mono HB13.out.size))
  have z14 := HB14.out.size
  clear hb14
  clear CmI CmS KB1
  obtain ⟨dN, HdN⟩ := hidEq (pfN us.data.toList)
  obtain ⟨dE, HdE⟩ := hidEq (pfE us.data.toList)
  obtain ⟨dB, HdB⟩ := hidEq (pfB us.data.toList)
  have CdI : Hid (∀ w : World, Tab5 w → Calls Tryd.prog 19 #[.string us] w fun e w' => e = .returned (.tuple #[.agg #[.int .i64 dN, .int .i64 dE], .bool dB]) ∧ Below w.heap.size w w') := Lib.hid (fun w ht => by rw [← HdN.out, ← HdE.out, ← HdB.out]; have := ParseFraction_impl us.data.toList (bs_len us hus) w ht.1 ht.2; rwa [bs_same us] at this)
  have CdS : Hid (∀ w : World, Calls Tryd.prog 18 #[.string us] w fun e w' => e = .returned (.tuple #[.agg #[.int .i64 dN, .int .i64 dE], .bool dB]) ∧ Below w.heap.size w w') := Lib.hid (fun w => by rw [← HdN.out, ← HdE.out, ← HdB.out]; have := ParseFraction_spec us.data.toList (bs_len us hus) w; rwa [bs_same us] at this)
  clear HdN HdE HdB hus
  go_wp2_with fail
  (go_at_call 19; refine (CdI.out _ (KT.out.below (Below.trans HB14.out (by (repeat' (first | (with_reducible exact Below.refl _ _) | (with_reducible assumption) | (with_reducible refine Below.alloc ?_ ?_ _) | (with_reducible refine Below.drew ?_) | (with_reducible refine below_drewN ?_ _) | (with_reducible refine Below.setCell ?_ ?_ _) | go_size)))))).mono ?_; rintro e w15 ⟨rfl, hb15⟩)
  have T15 := Lib.hid (show Below w14.heap.size w14 w15 from Below.trans (by (repeat' (first | (with_reducible exact Below.refl _ _) | (with_reducible assumption) | (with_reducible refine Below.alloc ?_ ?_ _) | (with_reducible refine Below.drew ?_) | (with_reducible refine below_drewN ?_ _) | (with_reducible refine Below.setCell ?_ ?_ _) | go_size))) (hb15.mono (by go_size)))
  replace Xa := Lib.hid (Xa.out.below T15.out)
  replace Xr := Lib.hid (Xr.out.below T15.out)
  replace Xq := Lib.hid (Xq.out.below T15.out)
  replace Xb := Lib.hid (Xb.out.below T15.out)
  replace Xs := Lib.hid (Xs.out.below T15.out)
  replace Xo := Lib.hid (Xo.out.below T15.out)
  replace XX := Lib.hid (XX.out.below T15.out)
  replace XY := Lib.hid (XY.out.below T15.out)
  replace Xi := Lib.hid (Xi.out.below T15.out)
  replace Xn := Lib.hid (Xn.out.below T15.out)
  have HB15 := Lib.hid (HB14.out.trans (T15.out.mono HB14.out.size))
  have z15 := HB15.out.size
  clear hb15
  go_wp2_with fail
  (go_at_call 18; refine (CdS.out _).mono ?_; rintro e w16 ⟨rfl, hb16⟩)
  have T16 := Lib.hid (show Below w15.heap.size w15 w16 from Below.trans (by (repeat' (first | (with_reducible exact Below.refl _ _) | (with_reducible assumption) | (with_reducible refine Below.alloc ?_ ?_ _) | (with_reducible refine Below.drew ?_) | (with_reducible refine below_drewN ?_ _) | (with_reducible refine Below.setCell ?_ ?_ _) | go_size))) (hb16.mono (by go_size)))
  have Xp := Lib.hid ((BoxF.newAt (b := w15.heap.size) w15 (.int .i64 dN) (.int .i64 dE) 37 (by first | rfl | simp)).below (Below.trans (by (repeat' (first | (with_reducible exact Below.refl _ _) | (with_reducible assumption) | (with_reducible refine Below.alloc ?_ ?_ _) | (with_reducible refine Below.drew ?_) | (with_reducible refine below_drewN ?_ _) | (with_reducible refine Below.setCell ?_ ?_ _) | go_size))) (hb16.mono (by go_size))))
  replace Xa := Lib.hid (Xa.out.below T16.out)
  replace Xr := Lib.hid (Xr.out.below T16.out)
  replace Xq := Lib.hid (Xq.out.below T16.out)
  replace Xb := Lib.hid (Xb.out.below T16.out)
  replace Xs := Lib.hid (Xs.out.below T16.out)
  replace Xo := Lib.hid (Xo.out.below T16.out)
  replace XX := Lib.hid (XX.out.below T16.out)
  replace XY := Lib.hid (XY.out.below T16.out)
  replace Xi := Lib.hid (Xi.out.below T16.out)
  replace Xn := Lib.hid (Xn.out.below T16.out)
  have HB16 := Lib.hid (HB15.out.trans (T16.out.mono HB15.out.size))
  have z16 := HB16.out.size
  clear hb16
  clear CdI CdS
  obtain ⟨ra0, ra1, ra2⟩ := Xa.out
  obtain ⟨rr0, rr1, rr2⟩ := Xr.out
  obtain ⟨rq0, rq1, rq2⟩ := Xq.out
  obtain ⟨rs0, rs1, rs2⟩ := Xs.out
  obtain ⟨ro0, ro1, ro2⟩ := Xo.out
  obtain ⟨ri0, ri1, ri2⟩ := Xi.out
  obtain ⟨rn0, rn1, rn2⟩ := Xn.out
  obtain ⟨rp0, rp1, rp2⟩ := Xp.out
  go_upto_if 202 with (go_at_call 39; refine (CiI.out _).mono ?_; rintro e w17 ⟨rfl, hb17⟩)
  clear CiI
  have T17 := Lib.hid (show Below w16.heap.size w16 w17 from Below.trans (by (repeat' (first | (with_reducible exact Below.refl _ _) | (with_reducible assumption) | (with_reducible refine Below.alloc ?_ ?_ _) | (with_reducible refine Below.drew ?_) | (with_reducible refine below_drewN ?_ _) | (with_reducible refine Below.setCell ?_ ?_ _) | go_size))) (hb17.mono (by go_size)))
  have Xd := Lib.hid ((BoxF.newAt (b := w16.heap.size) w16 (.int .i64 dN) (.int .i64 dE) 37 (by first | rfl | simp)).below (Below.trans (by (repeat' (first | (with_reducible exact Below.refl _ _) | (with_reducible assumption) | (with_reducible refine Below.alloc ?_ ?_ _) | (with_reducible refine Below.drew ?_) | (with_reducible refine below_drewN ?_ _) | (with_reducible refine Below.setCell ?_ ?_ _) | go_size))) (hb17.mono (by go_size))))
  replace Xa := Lib.hid (Xa.out.below T17.out)
  replace Xr := Lib.hid (Xr.out.below T17.out)
  replace Xq := Lib.hid (Xq.out.below T17.out)
  replace Xb := Lib.hid (Xb.out.below T17.out)
  replace Xs := Lib.hid (Xs.out.below T17.out)
  replace Xo := Lib.hid (Xo.out.below T17.out)
  replace XX := Lib.hid (XX.out.below T17.out)
  replace XY := Lib.hid (XY.out.below T17.out)
  replace Xi := Lib.hid (Xi.out.below T17.out)
  replace Xn := Lib.hid (Xn.out.below T17.out)
  replace Xp := Lib.hid (Xp.out.below T17.out)
  have HB17 := Lib.hid (HB16.out.trans (T17.out.mono HB16.out.size))
  have z17 := HB17.out.size
  clear hb17
  clear ra0 ra1 ra2 rr0 rr1 rr2 rq0 rq1 rq2 rs0 rs1 rs2 ro0 ro1 ro2 ri0 ri1 ri2 rn0 rn1 rn2 rp0 rp1 rp2
  go_cut [] from 1 to 0 (fun wx => Hid (Below w17.heap.size w17 wx))
  case first =>
    cases sB
    · skip
      go_wp2
      go_meet
      exact Lib.hid (by (repeat' (first | (with_reducible exact Below.refl _ _) | (with_reducible assumption) | (with_reducible refine Below.alloc ?_ ?_ _) | (with_reducible refine Below.drew ?_) | (with_reducible refine below_drewN ?_ _) | (with_reducible refine Below.setCell ?_ ?_ _) | go_size)))
    · skip
      obtain ⟨O1, O2⟩ := LP.out rfl
      replace O1 := Lib.hid O1
      obtain ⟨rs0, rs1, rs2⟩ := Xs.out
      go_wp2_with fail
      (go_at_call 40; refine (O1.out _).mono ?_; rintro e w18 ⟨rfl, hb18⟩)
      have T18 := Lib.hid (show Below w17.heap.size w17 w18 from Below.trans (by (repeat' (first | (with_reducible exact Below.refl _ _) | (with_reducible assumption) | (with_reducible refine Below.alloc ?_ ?_ _) | (with_reducible refine Below.drew ?_) | (with_reducible refine below_drewN ?_ _) | (with_reducible refine Below.setCell ?_ ?_ _) | go_size))) (hb18.mono (by go_size)))
      replace Xa := Lib.hid (Xa.out.below T18.out)
      replace Xr := Lib.hid (Xr.out.below T18.out)
      replace Xq := Lib.hid (Xq.out.below T18.out)
      replace Xb := Lib.hid (Xb.out.below T18.out)
      replace Xs := Lib.hid (Xs.out.below T18.out)
      replace Xo := Lib.hid (Xo.out.below T18.out)
      replace XX := Lib.hid (XX.out.below T18.out)
      replace XY := Lib.hid (XY.out.below T18.out)
      replace Xi := Lib.hid (Xi.out.below T18.out)
      replace Xn := Lib.hid (Xn.out.below T18.out)
      replace Xp := Lib.hid (Xp.out.below T18.out)
      replace Xd := Lib.hid (Xd.out.below T18.out)
      have HB18 := Lib.hid (HB17.out.trans (T18.out.mono HB17.out.size))
      have z18 := HB18.out.size
      clear hb18
      clear rs0 rs1 rs2
      have t18 := T18.out.size
      obtain ⟨rb0, rb1, rb2⟩ := Xb.out
      obtain ⟨ro0, ro1, ro2⟩ := Xo.out
      go_wp2
      go_meet
      exact Lib.hid (T18.out.trans (by (repeat' (first | (with_reducible exact Below.refl _ _) | (with_reducible assumption) | (with_reducible refine Below.alloc ?_ ?_ _) | (with_reducible refine Below.drew ?_) | (with_reducible refine below_drewN ?_ _) | (with_reducible refine Below.setCell ?_ ?_ _) | go_size))))
  case rest =>
    rename World => w18
    have T18 := hcut
    replace Xa := Lib.hid (Xa.out.below T18.out)
    replace Xr := Lib.hid (Xr.out.below T18.out)
    replace Xq := Lib.hid (Xq.out.below T18.out)
    replace Xb := Lib.hid (Xb.out.below T18.out)
    replace Xs := Lib.hid (Xs.out.below T18.out)
    replace Xo := Lib.hid (Xo.out.below T18.out)
    replace XX := Lib.hid (XX.out.below T18.out)
    replace XY := Lib.hid (XY.out.below T18.out)
    replace Xi := Lib.hid (Xi.out.below T18.out)
    replace Xn := Lib.hid (Xn.out.below T18.out)
    replace Xp := Lib.hid (Xp.out.below T18.out)
    replace Xd := Lib.hid (Xd.out.below T18.out)
    have HB18 := Lib.hid (HB17.out.trans (T18.out.mono HB17.out.size))
    have z18 := HB18.out.size
    have t18 := T18.out.size
    clear LP
    go_upto_if 221 with fail
    go_cut [] from 1 to 0 (fun wx => Hid (Below w18.heap.size w18 wx))
    case first =>
      cases mB
      · skip
        go_wp2
        go_meet
        exact Lib.hid (by (repeat' (first | (with_reducible exact Below.refl _ _) | (with_reducible assumption) | (with_reducible refine Below.alloc ?_ ?_ _) | (with_reducible refine Below.drew ?_) | (with_reducible refine below_drewN ?_ _) | (with_reducible refine Below.setCell ?_ ?_ _) | go_size)))
      · skip
        obtain ⟨O1, O2, m0, m1, m2⟩ := LS.out rfl
        replace O1 := Lib.hid O1
        replace O2 := Lib.hid O2
        have f0 : ¬ 1000 < mE := by omega
        have f1 : ¬ y0 < mE := by omega
        have f2 : ¬ y1 < mE := by omega
        obtain ⟨rX0, rX1, rX2⟩ := XX.out
        obtain ⟨rY0, rY1, rY2⟩ := XY.out
        obtain ⟨rn0, rn1, rn2⟩ := Xn.out
        go_wp2_with fail
        (go_at_call 41; refine (O1.out _).mono ?_; rintro e w19 ⟨rfl, hb19⟩)
        have T19 := Lib.hid (show Below w18.heap.size w18 w19 from Below.trans (by (repeat' (first | (with_reducible exact Below.refl _ _) | (with_reducible assumption) | (with_reducible refine Below.alloc ?_ ?_ _) | (with_reducible refine Below.drew ?_) | (with_reducible refine below_drewN ?_ _) | (with_reducible refine Below.setCell ?_ ?_ _) | go_size))) (hb19.mono (by go_size)))
        replace Xa := Lib.hid (Xa.out.below T19.out)
        replace Xr := Lib.hid (Xr.out.below T19.out)
        replace Xq := Lib.hid (Xq.out.below T19.out)
        replace Xb := Lib.hid (Xb.out.below T19.out)
        replace Xs := Lib.hid (Xs.out.below T19.out)
        replace Xo := Lib.hid (Xo.out.below T19.out)
        replace XX := Lib.hid (XX.out.below T19.out)
        replace XY := Lib.hid (XY.out.below T19.out)
        replace Xi := Lib.hid (Xi.out.below T19.out)
        replace Xn := Lib.hid (Xn.out.below T19.out)
        replace Xp := Lib.hid (Xp.out.below T19.out)
        replace Xd := Lib.hid (Xd.out.below T19.out)
        have HB19 := Lib.hid (HB18.out.trans (T19.out.mono HB18.out.size))
        have z19 := HB19.out.size
        clear hb19
        clear rX0 rX1 rX2 rY0 rY1 rY2 rn0 rn1 rn2
        obtain ⟨rX0, rX1, rX2⟩ := XX.out
        obtain ⟨rY0, rY1, rY2⟩ := XY.out
        obtain ⟨rn0, rn1, rn2⟩ := Xn.out
        go_wp2_with fail
        (go_at_call 41; refine (O2.out _).mono ?_; rintro e w20 ⟨rfl, hb20⟩)
        have T20 := Lib.hid (show Below w19.heap.size w19 w20 from Below.trans (by (repeat' (first | (with_reducible exact Below.refl _ _) | (with_reducible assumption) | (with_reducible refine Below.alloc ?_ ?_ _) | (with_reducible refine Below.drew ?_) | (with_reducible refine below_drewN ?_ _) | (with_reducible refine Below.setCell ?_ ?_ _) | go_size))) (hb20.mono (by go_size)))
        replace Xa := Lib.hid (Xa.out.below T20.out)
        replace Xr := Lib.hid (Xr.out.below T20.out)
        replace Xq := Lib.hid (Xq.out.below T20.out)
        replace Xb := Lib.hid (Xb.out.below T20.out)
        replace Xs := Lib.hid (Xs.out.below T20.out)
        replace Xo := Lib.hid (Xo.out.below T20.out)
        replace XX := Lib.hid (XX.out.below T20.out)
        replace XY := Lib.hid (XY.out.below T20.out)
        replace Xi := Lib.hid (Xi.out.below T20.out)
        replace Xn := Lib.hid (Xn.out.below T20.out)
        replace Xp := Lib.hid (Xp.out.below T20.out)
        replace Xd := Lib.hid (Xd.out.below T20.out)
        have HB20 := Lib.hid (HB19.out.trans (T20.out.mono HB19.out.size))
        have z20 := HB20.out.size
        clear hb20
        clear rX0 rX1 rX2 rY0 rY1 rY2 rn0 rn1 rn2
        obtain ⟨rX0, rX1, rX2⟩ := XX.out
        obtain ⟨rY0, rY1, rY2⟩ := XY.out
        obtain ⟨rn0, rn1, rn2⟩ := Xn.out
        have t19 := T19.out.size
        have t20 := T20.out.size
        have C20 := Lib.hid (T19.out.trans (T20.out.mono T19.out.size))
        go_wp2
        go_meet
        exact Lib.hid (C20.out.trans (by (repeat' (first | (with_reducible exact Below.refl _ _) | (with_reducible assumption) | (with_reducible refine Below.alloc ?_ ?_ _) | (with_reducible refine Below.drew ?_) | (with_reducible refine below_drewN ?_ _) | (with_reducible refine Below.setCell ?_ ?_ _) | go_size))))
    case rest =>
      rename World => w19
      have T19 := hcut
      replace Xa := Lib.hid (Xa.out.below T19.out)
      replace Xr := Lib.hid (Xr.out.below T19.out)
      replace Xq := Lib.hid (Xq.out.below T19.out)
      replace Xb := Lib.hid (Xb.out.below T19.out)
      replace Xs := Lib.hid (Xs.out.below T19.out)
      replace Xo := Lib.hid (Xo.out.below T19.out)
      replace XX := Lib.hid (XX.out.below T19.out)
      replace XY := Lib.hid (XY.out.below T19.out)
      replace Xi := Lib.hid (Xi.out.below T19.out)
      replace Xn := Lib.hid (Xn.out.below T19.out)
      replace Xp := Lib.hid (Xp.out.below T19.out)
      replace Xd := Lib.hid (Xd.out.below T19.out)
      have HB19 := Lib.hid (HB18.out.trans (T19.out.mono HB18.out.size))
      have z19 := HB19.out.size
      have t19 := T19.out.size
      clear LS
      cases ab
      · go_wp2
        go_ret
        exact ⟨rfl, HB19.out.trans (by (repeat' (first | (with_reducible exact Below.refl _ _) | (with_reducible assumption) | (with_reducible refine Below.alloc ?_ ?_ _) | (with_reducible refine Below.drew ?_) | (with_reducible refine below_drewN ?_ _) | (with_reducible refine Below.setCell ?_ ?_ _) | go_size)))⟩
      · obtain ⟨OA, OB, ⟨u0, u1⟩, u2⟩ := LF.out rfl
        replace OA := Lib.hid OA
        replace OB := Lib.hid OB
        go_wp2_with fail
        (go_at_call 19; refine (OB.out _ (KT.out.below (Below.trans HB19.out (by (repeat' (first | (with_reducible exact Below.refl _ _) | (with_reducible assumption) | (with_reducible refine Below.alloc ?_ ?_ _) | (with_reducible refine Below.drew ?_) | (with_reducible refine below_drewN ?_ _) | (with_reducible refine Below.setCell ?_ ?_ _) | go_size)))))).mono ?_; rintro e w20 ⟨rfl, hb20⟩)
        have T20 := Lib.hid (show Below w19.heap.size w19 w20 from Below.trans (by (repeat' (first | (with_reducible exact Below.refl _ _) | (with_reducible assumption) | (with_reducible refine Below.alloc ?_ ?_ _) | (with_reducible refine Below.drew ?_) | (with_reducible refine below_drewN ?_ _) | (with_reducible refine Below.setCell ?_ ?_ _) | go_size))) (hb20.mono (by go_size)))
        replace Xa := Lib.hid (Xa.out.below T20.out)
        replace Xr := Lib.hid (Xr.out.below T20.out)
        replace Xq := Lib.hid (Xq.out.below T20.out)
        replace Xb := Lib.hid (Xb.out.below T20.out)
        replace Xs := Lib.hid (Xs.out.below T20.out)
        replace Xo := Lib.hid (Xo.out.below T20.out)
        replace XX := Lib.hid (XX.out.below T20.out)
        replace XY := Lib.hid (XY.out.below T20.out)
        replace Xi := Lib.hid (Xi.out.below T20.out)
        replace Xn := Lib.hid (Xn.out.below T20.out)
        replace Xp := Lib.hid (Xp.out.below T20.out)
        replace Xd := Lib.hid (Xd.out.below T20.out)
        have HB20 := Lib.hid (HB19.out.trans (T20.out.mono HB19.out.size))
        have z20 := HB20.out.size
        clear hb20
        obtain ⟨rr0, rr1, rr2⟩ := Xr.out
        go_wp2_with fail
        (go_at_call 42; refine (OA.out _).mono ?_; rintro e w21 ⟨rfl, hb21⟩)
        have T21 := Lib.hid (show Below w20.heap.size w20 w21 from Below.trans (by (repeat' (first | (with_reducible exact Below.refl _ _) | (with_reducible assumption) | (with_reducible refine Below.alloc ?_ ?_ _) | (with_reducible refine Below.drew ?_) | (with_reducible refine below_drewN ?_ _) | (with_reducible refine Below.setCell ?_ ?_ _) | go_size))) (hb21.mono (by go_size)))
        have XK := Lib.hid ((BoxF.newAt (b := w20.heap.size) w20 (.int .i64 x) (.int .i64 y) 37 (by first | rfl | simp)).below (Below.trans (by (repeat' (first | (with_reducible exact Below.refl _ _) | (with_reducible assumption) | (with_reducible refine Below.alloc ?_ ?_ _) | (with_reducible refine Below.drew ?_) | (with_reducible refine below_drewN ?_ _) | (with_reducible refine Below.setCell ?_ ?_ _) | go_size))) (hb21.mono (by go_size))))
        replace Xa := Lib.hid (Xa.out.below T21.out)
        replace Xr := Lib.hid (Xr.out.below T21.out)
        replace Xq := Lib.hid (Xq.out.below T21.out)
        replace Xb := Lib.hid (Xb.out.below T21.out)
        replace Xs := Lib.hid (Xs.out.below T21.out)
        replace Xo := Lib.hid (Xo.out.below T21.out)
        replace XX := Lib.hid (XX.out.below T21.out)
        replace XY := Lib.hid (XY.out.below T21.out)
        replace Xi := Lib.hid (Xi.out.below T21.out)
        replace Xn := Lib.hid (Xn.out.below T21.out)
        replace Xp := Lib.hid (Xp.out.below T21.out)
        replace Xd := Lib.hid (Xd.out.below T21.out)
        have HB21 := Lib.hid (HB20.out.trans (T21.out.mono HB20.out.size))
        have z21 := HB21.out.size
        clear hb21
        clear rr0 rr1 rr2
        obtain ⟨ra0, ra1, ra2⟩ := Xa.out
        obtain ⟨rq0, rq1, rq2⟩ := Xq.out
        obtain ⟨rK0, rK1, rK2⟩ := XK.out
        go_wp2
        go_ret
        exact ⟨rfl, HB21.out.trans (by (repeat' (first | (with_reducible exact Below.refl _ _) | (with_reducible assumption) | (with_reducible refine Below.alloc ?_ ?_ _) | (with_reducible refine Below.drew ?_) | (with_reducible refine below_drewN ?_ _) | (with_reducible refine Below.setCell ?_ ?_ _) | go_size)))⟩
end Go.Proofs.YtklhmaegpejdbaaDoor.Fp
