/- impl.ParseWhole and spec.ParseWhole; the walk of FnExactParseWhole. -/
import Derived.Test.YtklhmaegpejdbaaDoorPzI
import Derived.Test.YtklhmaegpejdbaaDoorStr
import Derived.Test.YtklhmaegpejdbaaDoorPzS
namespace Go.Proofs.YtklhmaegpejdbaaDoor.Pz
open Go.RowKit
set_option linter.unusedVariables false
set_option linter.unusedSimpArgs false
set_option maxRecDepth 100000
theorem spec_any {s : List UInt8} {S : ByteArray} (HS : Hid (bsOf s = S)) (hl : s.length ≤ 1048576) (w : World) :
    Calls Tryd.prog 9 #[.string S] w fun e w' => ∃ A c, e = .returned (.tuple #[.agg #[.bool (wneg (pwZ s)), .slice A (wlimbs (pwZ s)).length c], .bool (pwB s)]) ∧ Nums w' w.heap.size (.slice A (wlimbs (pwZ s)).length c) (wlimbs (pwZ s)) ∧ Below w.heap.size w w' := by
  rw [← HS.out]; exact ParseWhole_spec s hl w
theorem impl_any {s : List UInt8} {S : ByteArray} (HS : Hid (bsOf s = S)) (hl : s.length ≤ 1048576) (w : World) (ht : Tab w) :
    Calls Tryd.prog 10 #[.string S] w fun e w' => ∃ A c, e = .returned (.tuple #[.agg #[.bool (wneg (pwZ s)), .slice A (wlimbs (pwZ s)).length c], .bool (pwB s)]) ∧ Nums w' w.heap.size (.slice A (wlimbs (pwZ s)).length c) (wlimbs (pwZ s)) ∧ Below w.heap.size w w' := by
  rw [← HS.out]; exact ParseWhole_impl s hl w ht
theorem res_len (s : List UInt8) : (wlimbs (pwZ s)).length ≤ 1048576 := by
  rcases Bool.eq_false_or_eq_true (pwB s) with h | h
  · rw [pwZ_yes h]
    have hb := h
    unfold pwB at h
    simp only [Bool.and_eq_true, decide_eq_true_eq] at h
    have h1 := pwL_Dig (all_iff.1 h.1.2)
    rw [(signed_neg h1 (z := pwV s) (neg := pwN s) rfl).2]
    have h2 := digs_length_le h1
    have h3 := (pwL_len s).2
    omega
  · rw [pwZ_no h, wlimbs_zero]; simp
set_option maxRecDepth 100000 in
set_option maxHeartbeats 8000000 in
theorem walk_short (s : List UInt8) (S : ByteArray) (HS : Hid (bsOf s = S)) (hl : s.length ≤ 1048576) (w : World) (ht : Tab w) :
    Calls Tryd.prog 3 #[.string S] w fun e w' => e = .returned (.bool true) ∧ Below w.heap.size w w' := by
  skip
  have HT := Lib.hid ht
  clear ht
  have hsz : ¬ (1048576 : Int) < (S.size : Int) := by rw [← HS.out, bsOf_size]; omega
  go_enter Tryd.func3, Tryd.ntmps3
  go_wp2_with fail
  (go_at_call 9; ((with_reducible refine (spec_any HS hl _).mono ?_); rintro e w1 ⟨A1, d1, rfl, n1, hb1⟩))
  have hB1 : Below w.heap.size w w1 := Below.trans (by (repeat' (first | (with_reducible exact Below.refl _ _) | (with_reducible assumption) | (with_reducible refine Below.alloc ?_ ?_ _) | (with_reducible refine Below.drew ?_) | (with_reducible refine below_drewN ?_ _) | (with_reducible refine Below.setCell ?_ ?_ _) | go_size))) (hb1.mono (by go_size))
  have q1 : w.heap.size + 0 ≤ w1.heap.size := (by have := hb1.size; (try simp at this); omega)
  have T1 := Lib.hid (show Below w.heap.size w w1 from Below.trans (by (repeat' (first | (with_reducible exact Below.refl _ _) | (with_reducible assumption) | (with_reducible refine Below.alloc ?_ ?_ _) | (with_reducible refine Below.drew ?_) | (with_reducible refine below_drewN ?_ _) | (with_reducible refine Below.setCell ?_ ?_ _) | go_size))) (hb1.mono (by go_size)))
  have Lw0 := Lib.hid (n1.lt2 (B0 := w.heap.size + 0) (by go_size))
  have Rw0_1 := Lib.hid (n1.mono (C := w.heap.size + 0) (by go_size))
  clear n1
  go_wp2_with fail
  (go_at_call 10; ((with_reducible refine (impl_any HS hl _ (HT.out.below (by (repeat' (first | (with_reducible exact Below.refl _ _) | (with_reducible assumption) | (with_reducible refine Below.alloc ?_ ?_ _) | (with_reducible refine Below.drew ?_) | (with_reducible refine below_drewN ?_ _) | (with_reducible refine Below.setCell ?_ ?_ _) | go_size))))).mono ?_); rintro e w2 ⟨A2, d2, rfl, n2, hb2⟩))
  have hB2 : Below w.heap.size w w2 := Below.trans (by (repeat' (first | (with_reducible exact Below.refl _ _) | (with_reducible assumption) | (with_reducible refine Below.alloc ?_ ?_ _) | (with_reducible refine Below.drew ?_) | (with_reducible refine below_drewN ?_ _) | (with_reducible refine Below.setCell ?_ ?_ _) | go_size))) (hb2.mono (by go_size))
  have q2 : w1.heap.size + 1 ≤ w2.heap.size := (by have := hb2.size; (try simp at this); omega)
  have T2 := Lib.hid (show Below w1.heap.size w1 w2 from Below.trans (by (repeat' (first | (with_reducible exact Below.refl _ _) | (with_reducible assumption) | (with_reducible refine Below.alloc ?_ ?_ _) | (with_reducible refine Below.drew ?_) | (with_reducible refine below_drewN ?_ _) | (with_reducible refine Below.setCell ?_ ?_ _) | go_size))) (hb2.mono (by go_size)))
  have XW0_2 := Lib.hid ((Box2.newAt (b := w1.heap.size) w1 (.bool (wneg (pwZ s))) (.slice A1 (wlimbs (pwZ s)).length d1) 24 (by first | rfl | simp)).below (Below.trans (by (repeat' (first | (with_reducible exact Below.refl _ _) | (with_reducible assumption) | (with_reducible refine Below.alloc ?_ ?_ _) | (with_reducible refine Below.drew ?_) | (with_reducible refine below_drewN ?_ _) | (with_reducible refine Below.setCell ?_ ?_ _) | go_size))) (hb2.mono (by go_size))))
  have Rw0_2 := Lib.hid (Rw0_1.out.below T2.out)
  clear Rw0_1
  have Lg0 := Lib.hid (n2.lt2 (B0 := w1.heap.size + 1) (by go_size))
  have Rg0_2 := Lib.hid (n2.mono (C := w1.heap.size + 1) (by go_size))
  clear n2
  obtain ⟨y3W00, y3W01, y3W02⟩ := XW0_2.out
  go_wp2_with fail
  (go_at_call 11; ((with_reducible refine (eqWhole_same (wneg (pwZ s)) (Rg0_2.out.below (by (repeat' (first | (with_reducible exact Below.refl _ _) | (with_reducible assumption) | (with_reducible refine Below.alloc ?_ ?_ _) | (with_reducible refine Below.drew ?_) | (with_reducible refine below_drewN ?_ _) | (with_reducible refine Below.setCell ?_ ?_ _) | go_size)))) (Rw0_2.out.below (by (repeat' (first | (with_reducible exact Below.refl _ _) | (with_reducible assumption) | (with_reducible refine Below.alloc ?_ ?_ _) | (with_reducible refine Below.drew ?_) | (with_reducible refine below_drewN ?_ _) | (with_reducible refine Below.setCell ?_ ?_ _) | go_size)))) (res_len s)).mono ?_); rintro e w3 ⟨rfl, hb3⟩))
  clear y3W00 y3W01 y3W02
  have hB3 : Below w.heap.size w w3 := Below.trans (by (repeat' (first | (with_reducible exact Below.refl _ _) | (with_reducible assumption) | (with_reducible refine Below.alloc ?_ ?_ _) | (with_reducible refine Below.drew ?_) | (with_reducible refine below_drewN ?_ _) | (with_reducible refine Below.setCell ?_ ?_ _) | go_size))) (hb3.mono (by go_size))
  have q3 : w2.heap.size + 1 ≤ w3.heap.size := (by have := hb3.size; (try simp at this); omega)
  have T3 := Lib.hid (show Below w2.heap.size w2 w3 from Below.trans (by (repeat' (first | (with_reducible exact Below.refl _ _) | (with_reducible assumption) | (with_reducible refine Below.alloc ?_ ?_ _) | (with_reducible refine Below.drew ?_) | (with_reducible refine below_drewN ?_ _) | (with_reducible refine Below.setCell ?_ ?_ _) | go_size))) (hb3.mono (by go_size)))
  have XW0_3 := Lib.hid (XW0_2.out.below T3.out)
  clear XW0_2
  have XG0_3 := Lib.hid ((Box2.newAt (b := w2.heap.size) w2 (.bool (wneg (pwZ s))) (.slice A2 (wlimbs (pwZ s)).length d2) 24 (by first | rfl | simp)).below (Below.trans (by (repeat' (first | (with_reducible exact Below.refl _ _) | (with_reducible assumption) | (with_reducible refine Below.alloc ?_ ?_ _) | (with_reducible refine Below.drew ?_) | (with_reducible refine below_drewN ?_ _) | (with_reducible refine Below.setCell ?_ ?_ _) | go_size))) (hb3.mono (by go_size))))
  have Rw0_3 := Lib.hid (Rw0_2.out.below T3.out)
  clear Rw0_2
  have Rg0_3 := Lib.hid (Rg0_2.out.below T3.out)
  clear Rg0_2
  obtain ⟨y4G00, y4G01, y4G02⟩ := XG0_3.out
  go_wp2_with fail
  (go_at_call 12; ((with_reducible refine (markWhole_any (wneg (pwZ s)) 1 (Rg0_3.out) (by omega) (res_len s) (by omega) (by omega)).mono ?_); rintro e w4 ⟨rfl, n4, g4, hb4⟩))
  clear y4G00 y4G01 y4G02
  have hB4 : Below w.heap.size w w4 := Below.trans (by (repeat' (first | (with_reducible exact Below.refl _ _) | (with_reducible assumption) | (with_reducible refine Below.alloc ?_ ?_ _) | (with_reducible refine Below.drew ?_) | (with_reducible refine below_drewN ?_ _) | (with_reducible refine Below.setCell ?_ ?_ _) | go_size))) (hb4.mono (by omega))
  have q4 : w3.heap.size ≤ w4.heap.size := hb4.size
  have XW0_4 := Lib.hid (XW0_3.out.grown g4 (fun e => by have := Lg0.out _ e; omega))
  clear XW0_3
  have XG0_4 := Lib.hid (XG0_3.out.grown g4 (fun e => by have := Lg0.out _ e; omega))
  clear XG0_3
  have Rw0_4 := Lib.hid (Rw0_3.out.kept g4 (fun b h1 h2 => by have := Lw0.out b h1; have := Lg0.out b h2; omega))
  clear Rw0_3
  clear Rg0_3
  have Rg1_4 := Lib.hid n4
  have Lg1 := Lg0
  clear n4 g4 hb4
  obtain ⟨y5G00, y5G01, y5G02⟩ := XG0_4.out
  go_wp2_with fail
  (go_at_call 13; ((with_reducible refine (heldWhole_any (wneg (pwZ s)) 1 (Rg1_4.out.below (by (repeat' (first | (with_reducible exact Below.refl _ _) | (with_reducible assumption) | (with_reducible refine Below.alloc ?_ ?_ _) | (with_reducible refine Below.drew ?_) | (with_reducible refine below_drewN ?_ _) | (with_reducible refine Below.setCell ?_ ?_ _) | go_size)))) (res_len s) (by omega) (by omega)).mono ?_); rintro e w5 ⟨rfl, hb5⟩))
  clear y5G00 y5G01 y5G02
  have hB5 : Below w.heap.size w w5 := Below.trans (by (repeat' (first | (with_reducible exact Below.refl _ _) | (with_reducible assumption) | (with_reducible refine Below.alloc ?_ ?_ _) | (with_reducible refine Below.drew ?_) | (with_reducible refine below_drewN ?_ _) | (with_reducible refine Below.setCell ?_ ?_ _) | go_size))) (hb5.mono (by go_size))
  have q5 : w4.heap.size + 0 ≤ w5.heap.size := (by have := hb5.size; (try simp at this); omega)
  have T5 := Lib.hid (show Below w4.heap.size w4 w5 from Below.trans (by (repeat' (first | (with_reducible exact Below.refl _ _) | (with_reducible assumption) | (with_reducible refine Below.alloc ?_ ?_ _) | (with_reducible refine Below.drew ?_) | (with_reducible refine below_drewN ?_ _) | (with_reducible refine Below.setCell ?_ ?_ _) | go_size))) (hb5.mono (by go_size)))
  have XW0_5 := Lib.hid (XW0_4.out.below T5.out)
  clear XW0_4
  have XG0_5 := Lib.hid (XG0_4.out.below T5.out)
  clear XG0_4
  have Rw0_5 := Lib.hid (Rw0_4.out.below T5.out)
  clear Rw0_4
  have Rg1_5 := Lib.hid (Rg1_4.out.below T5.out)
  clear Rg1_4
  go_wp2_with fail
  (go_at_call 10; ((with_reducible refine (impl_any HS hl _ (HT.out.below (by (repeat' (first | (with_reducible exact Below.refl _ _) | (with_reducible assumption) | (with_reducible refine Below.alloc ?_ ?_ _) | (with_reducible refine Below.drew ?_) | (with_reducible refine below_drewN ?_ _) | (with_reducible refine Below.setCell ?_ ?_ _) | go_size))))).mono ?_); rintro e w6 ⟨A6, d6, rfl, n6, hb6⟩))
  have hB6 : Below w.heap.size w w6 := Below.trans (by (repeat' (first | (with_reducible exact Below.refl _ _) | (with_reducible assumption) | (with_reducible refine Below.alloc ?_ ?_ _) | (with_reducible refine Below.drew ?_) | (with_reducible refine below_drewN ?_ _) | (with_reducible refine Below.setCell ?_ ?_ _) | go_size))) (hb6.mono (by go_size))
  have q6 : w5.heap.size + 0 ≤ w6.heap.size := (by have := hb6.size; (try simp at this); omega)
  have T6 := Lib.hid (show Below w5.heap.size w5 w6 from Below.trans (by (repeat' (first | (with_reducible exact Below.refl _ _) | (with_reducible assumption) | (with_reducible refine Below.alloc ?_ ?_ _) | (with_reducible refine Below.drew ?_) | (with_reducible refine below_drewN ?_ _) | (with_reducible refine Below.setCell ?_ ?_ _) | go_size))) (hb6.mono (by go_size)))
  have XW0_6 := Lib.hid (XW0_5.out.below T6.out)
  clear XW0_5
  have XG0_6 := Lib.hid (XG0_5.out.below T6.out)
  clear XG0_5
  have Rw0_6 := Lib.hid (Rw0_5.out.below T6.out)
  clear Rw0_5
  have Rg1_6 := Lib.hid (Rg1_5.out.below T6.out)
  clear Rg1_5
  have Lh0 := Lib.hid (n6.lt2 (B0 := w5.heap.size + 0) (by go_size))
  have Rh0_6 := Lib.hid (n6.mono (C := w5.heap.size + 0) (by go_size))
  clear n6
  obtain ⟨y7W00, y7W01, y7W02⟩ := XW0_6.out
  go_wp2_with fail
  (go_at_call 11; ((with_reducible refine (eqWhole_same (wneg (pwZ s)) (Rh0_6.out.below (by (repeat' (first | (with_reducible exact Below.refl _ _) | (with_reducible assumption) | (with_reducible refine Below.alloc ?_ ?_ _) | (with_reducible refine Below.drew ?_) | (with_reducible refine below_drewN ?_ _) | (with_reducible refine Below.setCell ?_ ?_ _) | go_size)))) (Rw0_6.out.below (by (repeat' (first | (with_reducible exact Below.refl _ _) | (with_reducible assumption) | (with_reducible refine Below.alloc ?_ ?_ _) | (with_reducible refine Below.drew ?_) | (with_reducible refine below_drewN ?_ _) | (with_reducible refine Below.setCell ?_ ?_ _) | go_size)))) (res_len s)).mono ?_); rintro e w7 ⟨rfl, hb7⟩))
  clear y7W00 y7W01 y7W02
  have hB7 : Below w.heap.size w w7 := Below.trans (by (repeat' (first | (with_reducible exact Below.refl _ _) | (with_reducible assumption) | (with_reducible refine Below.alloc ?_ ?_ _) | (with_reducible refine Below.drew ?_) | (with_reducible refine below_drewN ?_ _) | (with_reducible refine Below.setCell ?_ ?_ _) | go_size))) (hb7.mono (by go_size))
  have q7 : w6.heap.size + 1 ≤ w7.heap.size := (by have := hb7.size; (try simp at this); omega)
  have T7 := Lib.hid (show Below w6.heap.size w6 w7 from Below.trans (by (repeat' (first | (with_reducible exact Below.refl _ _) | (with_reducible assumption) | (with_reducible refine Below.alloc ?_ ?_ _) | (with_reducible refine Below.drew ?_) | (with_reducible refine below_drewN ?_ _) | (with_reducible refine Below.setCell ?_ ?_ _) | go_size))) (hb7.mono (by go_size)))
  have XW0_7 := Lib.hid (XW0_6.out.below T7.out)
  clear XW0_6
  have XG0_7 := Lib.hid (XG0_6.out.below T7.out)
  clear XG0_6
  have XH0_7 := Lib.hid ((Box2.newAt (b := w6.heap.size) w6 (.bool (wneg (pwZ s))) (.slice A6 (wlimbs (pwZ s)).length d6) 24 (by first | rfl | simp)).below (Below.trans (by (repeat' (first | (with_reducible exact Below.refl _ _) | (with_reducible assumption) | (with_reducible refine Below.alloc ?_ ?_ _) | (with_reducible refine Below.drew ?_) | (with_reducible refine below_drewN ?_ _) | (with_reducible refine Below.setCell ?_ ?_ _) | go_size))) (hb7.mono (by go_size))))
  have Rw0_7 := Lib.hid (Rw0_6.out.below T7.out)
  clear Rw0_6
  have Rg1_7 := Lib.hid (Rg1_6.out.below T7.out)
  clear Rg1_6
  have Rh0_7 := Lib.hid (Rh0_6.out.below T7.out)
  clear Rh0_6
  obtain ⟨y8G00, y8G01, y8G02⟩ := XG0_7.out
  go_wp2_with fail
  (go_at_call 13; ((with_reducible refine (heldWhole_any (wneg (pwZ s)) 1 (Rg1_7.out.below (by (repeat' (first | (with_reducible exact Below.refl _ _) | (with_reducible assumption) | (with_reducible refine Below.alloc ?_ ?_ _) | (with_reducible refine Below.drew ?_) | (with_reducible refine below_drewN ?_ _) | (with_reducible refine Below.setCell ?_ ?_ _) | go_size)))) (res_len s) (by omega) (by omega)).mono ?_); rintro e w8 ⟨rfl, hb8⟩))
  clear y8G00 y8G01 y8G02
  have hB8 : Below w.heap.size w w8 := Below.trans (by (repeat' (first | (with_reducible exact Below.refl _ _) | (with_reducible assumption) | (with_reducible refine Below.alloc ?_ ?_ _) | (with_reducible refine Below.drew ?_) | (with_reducible refine below_drewN ?_ _) | (with_reducible refine Below.setCell ?_ ?_ _) | go_size))) (hb8.mono (by go_size))
  have q8 : w7.heap.size + 0 ≤ w8.heap.size := (by have := hb8.size; (try simp at this); omega)
  have T8 := Lib.hid (show Below w7.heap.size w7 w8 from Below.trans (by (repeat' (first | (with_reducible exact Below.refl _ _) | (with_reducible assumption) | (with_reducible refine Below.alloc ?_ ?_ _) | (with_reducible refine Below.drew ?_) | (with_reducible refine below_drewN ?_ _) | (with_reducible refine Below.setCell ?_ ?_ _) | go_size))) (hb8.mono (by go_size)))
  have XW0_8 := Lib.hid (XW0_7.out.below T8.out)
  clear XW0_7
  have XG0_8 := Lib.hid (XG0_7.out.below T8.out)
  clear XG0_7
  have XH0_8 := Lib.hid (XH0_7.out.below T8.out)
  clear XH0_7
  have Rw0_8 := Lib.hid (Rw0_7.out.below T8.out)
  clear Rw0_7
  have Rg1_8 := Lib.hid (Rg1_7.out.below T8.out)
  clear Rg1_7
  have Rh0_8 := Lib.hid (Rh0_7.out.below T8.out)
  clear Rh0_7
  go_wp2
  go_ret
  exact ⟨rfl, by repeat' (first | (with_reducible exact Below.refl _ _) | (with_reducible assumption) | (with_reducible refine Below.alloc ?_ ?_ _) | (with_reducible refine Below.drew ?_) | (with_reducible refine below_drewN ?_ _) | (with_reducible refine Below.setCell ?_ ?_ _) | go_size)⟩
set_option maxHeartbeats 4000000 in
theorem walk (a0 : ByteArray) (w : World) (hs0 : a0.size ≤ maxLen) (ht : Tab w) :
    Calls Tryd.prog 3 #[.string a0] w fun e w' => e = .returned (.bool true) ∧ Below w.heap.size w w' := by
  obtain ⟨s, rfl⟩ := bsOf_list a0
  by_cases hl : s.length ≤ 1048576
  · exact walk_short s _ (Lib.hid rfl) hl w ht
  · have hsz : (1048576 : Int) < ((bsOf s).size : Int) := by rw [bsOf_size]; omega
    obtain ⟨S, hS⟩ : ∃ S, bsOf s = S := ⟨_, rfl⟩
    rw [hS] at hsz ⊢
    go_enter Tryd.func3, Tryd.ntmps3
    go_wp2
    go_ret
    exact ⟨rfl, by repeat' (first | (with_reducible exact Below.refl _ _) | (with_reducible assumption) | (with_reducible refine Below.alloc ?_ ?_ _) | (with_reducible refine Below.drew ?_) | (with_reducible refine below_drewN ?_ _) | (with_reducible refine Below.setCell ?_ ?_ _) | go_size)⟩
end Go.Proofs.YtklhmaegpejdbaaDoor.Pz
