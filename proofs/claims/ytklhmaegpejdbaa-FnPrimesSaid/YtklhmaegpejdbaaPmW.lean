/- The walk of FnPrimes. -/
import Derived.Test.YtklhmaegpejdbaaPmK
import Derived.Deep.DeepCutAuto
namespace Go.Proofs.Ytklhmaegpejdbaa.Pm
open Go.RowKit
set_option linter.unusedVariables false
set_option linter.unusedSimpArgs false
set_option maxRecDepth 100000
theorem pairs_get {l : List (Nat × Nat)} {i : Nat} {q k : Nat} (h : l[i]? = some (q, k)) : (pairsI l)[i]? = some ((q : Int), (k : Int)) := by unfold pairsI; rw [List.getElem?_map, h]; rfl
theorem pairs_len (l : List (Nat × Nat)) : (pairsI l).length = l.length := by unfold pairsI; rw [List.length_map]
set_option maxHeartbeats 3000000 in
theorem pmWalk (A0 : Option Addr) (l0 c0 : Nat) (A1 : Option Addr) (l1 c1 : Nat) (w : World) (hB0 : Bytes w A0 l0) (hB1 : Bytes w A1 l1) :
    Calls Try.prog 7 #[.slice A0 l0 c0, .slice A1 l1 c1] w fun e w' => e = .returned (.bool true) ∧ Below w.heap.size w w' := by
  have KB0 := Lib.hid hB0
  have KB1 := Lib.hid hB1
  have q0 := hB0.1
  have q1 := hB1.1
  clear hB0 hB1
  have HB0 := Lib.hid (Below.refl w.heap.size w)
  obtain ⟨bg, Hbg⟩ := hidEq (bigB l0 l1)
  have Cbig : Hid (∀ w : World, Calls Try.prog 14 #[.slice A0 l0 c0, .slice A1 l1 c1] w fun e w' => e = .returned (.bool bg) ∧ Below w.heap.size w w') := Lib.hid (fun w => by rw [← Hbg.out]; exact big_any A0 l0 c0 A1 l1 c1 q0 q1 w)
  clear Hbg
  go_enter Try.func7, Try.ntmps7
  go_wp2_with fail
  (go_at_call 14; refine (Cbig.out _).mono ?_; rintro e w1 ⟨rfl, hb1⟩)
  have T1 := Lib.hid (show Below w.heap.size w w1 from Below.trans (by (repeat' (first | (with_reducible exact Below.refl _ _) | (with_reducible assumption) | (with_reducible refine Below.alloc ?_ ?_ _) | (with_reducible refine Below.drew ?_) | (with_reducible refine below_drewN ?_ _) | (with_reducible refine Below.setCell ?_ ?_ _) | go_size))) (hb1.mono (by go_size)))
  have HB1 := Lib.hid (HB0.out.trans (T1.out.mono HB0.out.size))
  clear hb1
  rcases Bool.eq_false_or_eq_true bg with rfl | rfl
  · go_wp2
    go_ret
    exact ⟨rfl, HB1.out.trans (by (repeat' (first | (with_reducible exact Below.refl _ _) | (with_reducible assumption) | (with_reducible refine Below.alloc ?_ ?_ _) | (with_reducible refine Below.drew ?_) | (with_reducible refine below_drewN ?_ _) | (with_reducible refine Below.setCell ?_ ?_ _) | go_size)))⟩
  go_wp2_with fail
  (go_at_call 46; refine (DrawFactorsOf_any (KB0.out.below HB1.out)).mono ?_; rintro e w2 ⟨⟨n, n0, n1, rfl⟩, hb2⟩)
  have T2 := Lib.hid (show Below w1.heap.size w1 w2 from Below.trans (by (repeat' (first | (with_reducible exact Below.refl _ _) | (with_reducible assumption) | (with_reducible refine Below.alloc ?_ ?_ _) | (with_reducible refine Below.drew ?_) | (with_reducible refine below_drewN ?_ _) | (with_reducible refine Below.setCell ?_ ?_ _) | go_size))) (hb2.mono (by go_size)))
  have HB2 := Lib.hid (HB1.out.trans (T2.out.mono HB1.out.size))
  clear hb2
  obtain ⟨ib, Hib⟩ := hidEq (inB n 1 10000000000)
  obtain ⟨fl, Hfl⟩ := hidEq (Fa.factI n)
  have CfI : Hid (∀ w : World, Calls Try.prog 47 #[.int .i64 n] w fun e w' => ∃ v, e = .returned (.tuple #[v, .bool ib]) ∧ (∃ gs, Pairs w' w.heap.size v gs fl) ∧ Below w.heap.size w w') := Lib.hid (fun w => by rw [← Hib.out, ← Hfl.out]; exact Fa.impl_any n w)
  have CfS : Hid (∀ w : World, Calls Try.prog 48 #[.int .i64 n] w fun e w' => ∃ v, e = .returned (.tuple #[v, .bool ib]) ∧ (∃ gs, Pairs w' w.heap.size v gs fl) ∧ Below w.heap.size w w') := Lib.hid (fun w => by rw [← Hib.out, ← Hfl.out]; exact Fa.spec_any n w)
  have hfl : fl.length ≤ 20000000000 := by rw [← Hfl.out]; exact Fa.factI_short n
  go_wp2_with fail
  (go_at_call 47; refine (CfI.out _).mono ?_; rintro e w3 ⟨v3, rfl, ⟨gs3, p3⟩, hb3⟩)
  have T3 := Lib.hid (show Below w2.heap.size w2 w3 from Below.trans (by (repeat' (first | (with_reducible exact Below.refl _ _) | (with_reducible assumption) | (with_reducible refine Below.alloc ?_ ?_ _) | (with_reducible refine Below.drew ?_) | (with_reducible refine below_drewN ?_ _) | (with_reducible refine Below.setCell ?_ ?_ _) | go_size))) (hb3.mono (by go_size)))
  have HB3 := Lib.hid (HB2.out.trans (T3.out.mono HB2.out.size))
  clear hb3
  have P3 := Lib.hid p3
  clear p3
  go_wp2_with fail
  (go_at_call 48; refine (CfS.out _).mono ?_; rintro e w4 ⟨v4, rfl, ⟨gs4, p4⟩, hb4⟩)
  have T4 := Lib.hid (show Below w3.heap.size w3 w4 from Below.trans (by (repeat' (first | (with_reducible exact Below.refl _ _) | (with_reducible assumption) | (with_reducible refine Below.alloc ?_ ?_ _) | (with_reducible refine Below.drew ?_) | (with_reducible refine below_drewN ?_ _) | (with_reducible refine Below.setCell ?_ ?_ _) | go_size))) (hb4.mono (by go_size)))
  have HB4 := Lib.hid (HB3.out.trans (T4.out.mono HB3.out.size))
  clear hb4
  have P4 := Lib.hid p4
  have P34 := Lib.hid (P3.out.below T4.out)
  clear p4
  go_wp2_with fail
  (go_at_call 49; refine (sameLists_same P34.out P4.out (by omega)).mono ?_; rintro e w5 ⟨rfl, hb5⟩)
  have T5 := Lib.hid (show Below w4.heap.size w4 w5 from Below.trans (by (repeat' (first | (with_reducible exact Below.refl _ _) | (with_reducible assumption) | (with_reducible refine Below.alloc ?_ ?_ _) | (with_reducible refine Below.drew ?_) | (with_reducible refine below_drewN ?_ _) | (with_reducible refine Below.setCell ?_ ?_ _) | go_size))) (hb5.mono (by go_size)))
  have HB5 := Lib.hid (HB4.out.trans (T5.out.mono HB4.out.size))
  clear hb5
  obtain ⟨A, c, rfl, op⟩ := pairs_open (P4.out.below T5.out)
  have OP := Lib.hid op
  clear op
  go_upto_if 71 with fail
  go_cut [] from 1 to 0 (fun wx => Hid (Below w.heap.size w wx))
  case first =>
    cases ib
    · go_wp2
      go_meet
      exact HB5
    · obtain ⟨N, rfl⟩ := Int.eq_ofNat_of_zero_le n0
      have hin := Hib.out
      have hN := inB_iff.1 hin
      obtain ⟨L, HL⟩ := hidEq (facs N)
      have HF := Lib.hid (show fl = pairsI L by rw [← HL.out, ← Hfl.out]; exact Fa.factI_yes N hin)
      have HLL := Lib.hid (show L.length = fl.length by rw [HF.out, pairs_len])
      have FQ : Hid (∀ i q k, L[i]? = some (q, k) → 1 ≤ k ∧ 2 ≤ q ∧ q ≤ N ∧ k ≤ N ∧ (q ≤ 997 → primeB (q : Int) = true) ∧ (∀ j, j ≤ k → pprod (L.take i) * q ^ j ≤ N) ∧ pprod (L.take (i + 1)) = pprod (L.take i) * q ^ k) := Lib.hid (fun i q k h => by rw [← HL.out] at h ⊢; exact fac_step (by omega) h)
      have FL : Hid (∀ i a b, L[i]? = some a → L[i + 1]? = some b → a.1 < b.1) := Lib.hid (fun i a b h h2 => by rw [← HL.out] at h h2; exact facs_lt (by omega) h h2)
      have FP : Hid (pprod L = N) := Lib.hid (by rw [← HL.out]; exact facs_prod (by omega))
      clear HL Hfl Hib hin CfI CfS P3 P4 P34
      obtain ⟨n2, n3⟩ := hN
      go_wp2
      go_loopw [74, 10] (fun i al wr => ∃ (k : Nat) (X : Int), k ≤ fl.length ∧ i = .int .i64 k ∧ al = .int .i64 X ∧ Hid (X = ((pprod (L.take k) : Nat) : Int)) ∧ ∃ m, wr = w5.drewN m) (fun i _ _ => fl.length - (intOf i).toNat)
      case atStart => exact ⟨0, 1, by omega, rfl, rfl, Lib.hid rfl, 0, rfl⟩
      case round =>
        obtain ⟨k, X, hk, rfl, rfl, HX, m, rfl⟩ := hrel
        by_cases hlt : k < fl.length
        · obtain ⟨⟨q, r⟩, hx⟩ : ∃ x, L[k]? = some x := ⟨_, List.getElem?_eq_getElem (by have := HLL.out; omega)⟩
          obtain ⟨a, g, rfl, hc1, hc2, hc3⟩ := OP.out k _ (by rw [HF.out]; exact pairs_get hx)
          dsimp only at hc2 hc3
          obtain ⟨f1, f2, f3, f3b, f4, f5, f6⟩ := FQ.out k q r hx
          have F4 := Lib.hid f4
          have F5 := Lib.hid f5
          have F6 := Lib.hid f6
          have HXK := Lib.hid hx
          clear f4 f5 f6 hx
          have b0 : (0 : Int) ≤ (k : Int) := by omega
          have b1 : (k : Int) < (fl.length : Int) := by omega
          have b2 : decide ((r : Int) < 1) = false := decide_eq_false (by omega)
          by_cases hk0 : k = 0
          · have b3 : decide ((0 : Int) < (k : Int)) = false := decide_eq_false (by omega)
            have b3n : decide (0 < k) = false := decide_eq_false (by omega)
            clear hk0
            go_wp2_with fail
            go_quiet (fail)
            go_wp2
            go_loopw [13, 10] (fun i al wr => ∃ (j : Nat) (Y : Int), j ≤ r ∧ i = .int .i64 j ∧ al = .int .i64 Y ∧ Hid (Y = ((pprod (L.take k) * q ^ j : Nat) : Int)) ∧ ∃ m, wr = w5.drewN m) (fun i _ _ => r - (intOf i).toNat)
            case atStart => exact ⟨0, X, by omega, rfl, rfl, by rw [Nat.pow_zero, Nat.mul_one]; exact HX, _, World.drewN_drewN ..⟩
            case round =>
              obtain ⟨j, Y, hj, rfl, rfl, HY, m2, rfl⟩ := hrel
              by_cases hjr : j < r
              · have hy : Y * (q : Int) = ((pprod (L.take k) * q ^ (j + 1) : Nat) : Int) := by rw [HY.out, Nat.pow_succ, ← Nat.mul_assoc]; simp
                have hle := F5.out (j + 1) hjr
                have ew : IntKind.i64.wrap (Y * (q : Int)) = Y * (q : Int) := IntWalk.i64_in _ (by rw [hy]; omega)
                have HY2 := Lib.hid hy
                have c0 : (j : Int) < (r : Int) := by omega
                clear hy hle
                go_wp2
                go_roundw
                case rel => exact ⟨j + 1, _, by omega, by go_num, rfl, HY2, _, rfl⟩
                case measure => simp [intOf]; omega
              · obtain rfl : j = r := by omega
                by_cases h9 : (q : Int) ≤ 997
                · have hp := F4.out (by omega)
                  have HP : Hid (∀ w : World, Calls Try.prog 50 #[.int .i64 (q : Int)] w fun e w' => e = .returned (.bool true) ∧ w = w') := Lib.hid (fun w => by rw [← hp]; exact implIsPrimeNumber_any _ w)
                  clear hp
                  go_wp2_with (go_at_call 50; refine (HP.out _).mono ?_; rintro e w' ⟨rfl, rfl⟩)
                  go_roundw
                  case rel => exact ⟨k + 1, Y, by omega, by go_num, rfl, Lib.hid (by rw [HY.out, F6.out]), _, rfl⟩
                  case measure => simp [intOf]; omega
                · go_wp2
                  go_roundw
                  case rel => exact ⟨k + 1, Y, by omega, by go_num, rfl, Lib.hid (by rw [HY.out, F6.out]), _, rfl⟩
                  case measure => simp [intOf]; omega
          · obtain ⟨k', hkk⟩ : ∃ k', k = k' + 1 := ⟨k - 1, by omega⟩
            obtain ⟨⟨q', r'⟩, hx'⟩ : ∃ x, L[k']? = some x := ⟨_, List.getElem?_eq_getElem (by have := HLL.out; omega)⟩
            obtain ⟨a', g', ea, hd1, hd2, hd3⟩ := OP.out k' _ (by rw [HF.out]; exact pairs_get hx')
            cases ea
            have hlt2 : (q' : Int) < (q : Int) := by have := FL.out k' _ _ hx' (by rw [← hkk]; exact HXK.out); dsimp only at this; omega
            dsimp only at hd2
            clear hx' hd3
            have e1 : (k : Int) - 1 = (k' : Int) := by omega
            have e2 : IntKind.i64.wrap ((k : Int) - 1) = (k' : Int) := by rw [IntWalk.i64_in _ (by omega)]; exact e1
            have b3 : decide ((0 : Int) < (k : Int)) = true := decide_eq_true (by omega)
            have b3n : decide (0 < k) = true := decide_eq_true (by omega)
            have b4 : (0 : Int) ≤ (k' : Int) := by omega
            have b5 : (k' : Int) < (fl.length : Int) := by omega
            have b6 : decide ((q : Int) ≤ (q' : Int)) = false := decide_eq_false (by omega)
            clear hkk e1 hk0
            go_wp2_with fail
            go_quiet (fail)
            go_wp2
            go_loopw [13, 10] (fun i al wr => ∃ (j : Nat) (Y : Int), j ≤ r ∧ i = .int .i64 j ∧ al = .int .i64 Y ∧ Hid (Y = ((pprod (L.take k) * q ^ j : Nat) : Int)) ∧ ∃ m, wr = w5.drewN m) (fun i _ _ => r - (intOf i).toNat)
            case atStart => exact ⟨0, X, by omega, rfl, rfl, by rw [Nat.pow_zero, Nat.mul_one]; exact HX, _, World.drewN_drewN ..⟩
            case round =>
              obtain ⟨j, Y, hj, rfl, rfl, HY, m2, rfl⟩ := hrel
              by_cases hjr : j < r
              · have hy : Y * (q : Int) = ((pprod (L.take k) * q ^ (j + 1) : Nat) : Int) := by rw [HY.out, Nat.pow_succ, ← Nat.mul_assoc]; simp
                have hle := F5.out (j + 1) hjr
                have ew : IntKind.i64.wrap (Y * (q : Int)) = Y * (q : Int) := IntWalk.i64_in _ (by rw [hy]; omega)
                have HY2 := Lib.hid hy
                have c0 : (j : Int) < (r : Int) := by omega
                clear hy hle
                go_wp2
                go_roundw
                case rel => exact ⟨j + 1, _, by omega, by go_num, rfl, HY2, _, rfl⟩
                case measure => simp [intOf]; omega
              · obtain rfl : j = r := by omega
                by_cases h9 : (q : Int) ≤ 997
                · have hp := F4.out (by omega)
                  have HP : Hid (∀ w : World, Calls Try.prog 50 #[.int .i64 (q : Int)] w fun e w' => e = .returned (.bool true) ∧ w = w') := Lib.hid (fun w => by rw [← hp]; exact implIsPrimeNumber_any _ w)
                  clear hp
                  go_wp2_with (go_at_call 50; refine (HP.out _).mono ?_; rintro e w' ⟨rfl, rfl⟩)
                  go_roundw
                  case rel => exact ⟨k + 1, Y, by omega, by go_num, rfl, Lib.hid (by rw [HY.out, F6.out]), _, rfl⟩
                  case measure => simp [intOf]; omega
                · go_wp2
                  go_roundw
                  case rel => exact ⟨k + 1, Y, by omega, by go_num, rfl, Lib.hid (by rw [HY.out, F6.out]), _, rfl⟩
                  case measure => simp [intOf]; omega
        · obtain rfl : k = fl.length := by omega
          have hX : X = (N : Int) := by rw [HX.out, ← HLL.out, List.take_length, FP.out]
          subst hX
          go_wp2
          go_meet
          exact Lib.hid (HB5.out.trans (by (repeat' (first | (with_reducible exact Below.refl _ _) | (with_reducible assumption) | (with_reducible refine Below.alloc ?_ ?_ _) | (with_reducible refine Below.drew ?_) | (with_reducible refine below_drewN ?_ _) | (with_reducible refine Below.setCell ?_ ?_ _) | go_size))))
  case rest =>
    rename World => w6
    have HB6 := hcut
    clear hcut
    go_wp2_with fail
    (go_at_call 51; refine (DrawPrimitiveRoot_any (KB1.out.below HB6.out)).mono ?_; rintro e w7 ⟨⟨p, p0, p1, rfl⟩, hb7⟩)
    have T7 := Lib.hid (show Below w6.heap.size w6 w7 from Below.trans (by (repeat' (first | (with_reducible exact Below.refl _ _) | (with_reducible assumption) | (with_reducible refine Below.alloc ?_ ?_ _) | (with_reducible refine Below.drew ?_) | (with_reducible refine below_drewN ?_ _) | (with_reducible refine Below.setCell ?_ ?_ _) | go_size))) (hb7.mono (by go_size)))
    have HB7 := Lib.hid (HB6.out.trans (T7.out.mono HB6.out.size))
    clear hb7
    clear OP P4 P34 P3 CfI CfS Hfl Hib T1 T2 T3 T4 T5
    obtain ⟨pb, Hpb⟩ := hidEq (primeB p)
    obtain ⟨pr, Hpr⟩ := hidEq (primI p)
    have CrI : Hid (∀ w : World, Calls Try.prog 52 #[.int .i64 p] w fun e w' => e = .returned (.tuple #[.int .i64 pr, .bool pb]) ∧ Below w.heap.size w w') := Lib.hid (fun w => by rw [← Hpr.out, ← Hpb.out]; exact loose (implPrimitiveRoot_any p w))
    have CrS : Hid (∀ w : World, Calls Try.prog 53 #[.int .i64 p] w fun e w' => e = .returned (.tuple #[.int .i64 pr, .bool pb]) ∧ Below w.heap.size w w') := Lib.hid (fun w => by rw [← Hpr.out, ← Hpb.out]; exact loose (specPrimitiveRoot_any p w))
    have CpP : Hid (∀ w : World, Calls Try.prog 50 #[.int .i64 p] w fun e w' => e = .returned (.bool pb) ∧ w = w') := Lib.hid (fun w => by rw [← Hpb.out]; exact implIsPrimeNumber_any _ w)
    have LR : Hid (pb = true → (2 ≤ p ∧ p ≤ 997) ∧ ∀ w : World, Calls Try.prog 20 #[.int .i64 pr, .int .i64 p] w fun e w' => e = .returned (.tuple #[.int .i64 (p - 1), .bool true]) ∧ Below w.heap.size w w') := Lib.hid (fun h => by
      rw [← Hpb.out] at h
      obtain ⟨i0, i1, i2⟩ := prim_law h
      rw [Hpr.out] at i1 i2
      refine ⟨i0, fun w => ?_⟩
      have := loose (implOrderOf_any pr p w); rw [i1, i2] at this; exact this)
    clear Hpb Hpr
    go_wp2_with fail
    (go_at_call 52; refine (CrI.out _).mono ?_; rintro e w8 ⟨rfl, hb8⟩)
    have T8 := Lib.hid (show Below w7.heap.size w7 w8 from Below.trans (by (repeat' (first | (with_reducible exact Below.refl _ _) | (with_reducible assumption) | (with_reducible refine Below.alloc ?_ ?_ _) | (with_reducible refine Below.drew ?_) | (with_reducible refine below_drewN ?_ _) | (with_reducible refine Below.setCell ?_ ?_ _) | go_size))) (hb8.mono (by go_size)))
    have HB8 := Lib.hid (HB7.out.trans (T8.out.mono HB7.out.size))
    clear hb8
    go_wp2_with fail
    (go_at_call 53; refine (CrS.out _).mono ?_; rintro e w9 ⟨rfl, hb9⟩)
    have T9 := Lib.hid (show Below w8.heap.size w8 w9 from Below.trans (by (repeat' (first | (with_reducible exact Below.refl _ _) | (with_reducible assumption) | (with_reducible refine Below.alloc ?_ ?_ _) | (with_reducible refine Below.drew ?_) | (with_reducible refine below_drewN ?_ _) | (with_reducible refine Below.setCell ?_ ?_ _) | go_size))) (hb9.mono (by go_size)))
    have HB9 := Lib.hid (HB8.out.trans (T9.out.mono HB8.out.size))
    clear hb9
    go_upto_if 153 with (go_at_call 50; refine (CpP.out _).mono ?_; rintro e w' ⟨rfl, rfl⟩)
    go_cut [] from 1 to 0 (fun wx => Hid (Below w.heap.size w wx))
    case first =>
      cases pb
      · go_wp2
        go_meet
        exact Lib.hid (HB9.out.trans (by (repeat' (first | (with_reducible exact Below.refl _ _) | (with_reducible assumption) | (with_reducible refine Below.alloc ?_ ?_ _) | (with_reducible refine Below.drew ?_) | (with_reducible refine below_drewN ?_ _) | (with_reducible refine Below.setCell ?_ ?_ _) | go_size))))
      · obtain ⟨⟨p2, p3⟩, O1⟩ := LR.out rfl
        replace O1 := Lib.hid O1
        go_wp2_with fail
        (go_at_call 20; refine (O1.out _).mono ?_; rintro e w10 ⟨rfl, hb10⟩)
        have T10 := Lib.hid (show Below w9.heap.size w9 w10 from Below.trans (by (repeat' (first | (with_reducible exact Below.refl _ _) | (with_reducible assumption) | (with_reducible refine Below.alloc ?_ ?_ _) | (with_reducible refine Below.drew ?_) | (with_reducible refine below_drewN ?_ _) | (with_reducible refine Below.setCell ?_ ?_ _) | go_size))) (hb10.mono (by go_size)))
        have HB10 := Lib.hid (HB9.out.trans (T10.out.mono HB9.out.size))
        clear hb10
        go_wp2
        go_meet
        exact Lib.hid (HB10.out.trans (by (repeat' (first | (with_reducible exact Below.refl _ _) | (with_reducible assumption) | (with_reducible refine Below.alloc ?_ ?_ _) | (with_reducible refine Below.drew ?_) | (with_reducible refine below_drewN ?_ _) | (with_reducible refine Below.setCell ?_ ?_ _) | go_size))))
    case rest =>
      rename World => w10
      have HB10 := hcut
      clear hcut
      clear LR CpP CrI CrS
      go_wp2_with fail
      (go_at_call 54; refine (DrawLogarithmOf_any (KB1.out.below HB10.out)).mono ?_; rintro e w11 ⟨⟨a, b, q, a0, a1, b0, b1, q2, q3, rfl⟩, hb11⟩)
      have T11 := Lib.hid (show Below w10.heap.size w10 w11 from Below.trans (by (repeat' (first | (with_reducible exact Below.refl _ _) | (with_reducible assumption) | (with_reducible refine Below.alloc ?_ ?_ _) | (with_reducible refine Below.drew ?_) | (with_reducible refine below_drewN ?_ _) | (with_reducible refine Below.setCell ?_ ?_ _) | go_size))) (hb11.mono (by go_size)))
      have HB11 := Lib.hid (HB10.out.trans (T11.out.mono HB10.out.size))
      clear hb11
      obtain ⟨lb, Hlb⟩ := hidEq (logB a b q)
      obtain ⟨lr, Hlr⟩ := hidEq (logR a b q)
      have ClI : Hid (∀ w : World, Calls Try.prog 55 #[.int .i64 a, .int .i64 b, .int .i64 q] w fun e w' => e = .returned (.tuple #[.int .i64 lr, .bool lb]) ∧ Below w.heap.size w w') := Lib.hid (fun w => by rw [← Hlr.out, ← Hlb.out]; exact loose (implLogarithmOf_any a b q w))
      have ClS : Hid (∀ w : World, Calls Try.prog 56 #[.int .i64 a, .int .i64 b, .int .i64 q] w fun e w' => e = .returned (.tuple #[.int .i64 lr, .bool lb]) ∧ Below w.heap.size w w') := Lib.hid (fun w => by rw [← Hlr.out, ← Hlb.out]; exact specLogarithmOf_any a b q w)
      have LL : Hid (lb = true → ∃ z : Int, (∀ w : World, Calls Try.prog 26 #[.int .i64 b, .int .i64 lr, .int .i64 q] w fun e w' => e = .returned (.tuple #[.int .i64 z, .bool true]) ∧ Below w.heap.size w w') ∧ (∀ w : World, Calls Try.prog 19 #[.int .i64 a, .int .i64 q] w fun e w' => e = .returned (.tuple #[.int .i64 z, .bool true]) ∧ Below w.heap.size w w')) := Lib.hid (fun h => by
        rw [← Hlb.out] at h
        obtain ⟨i0, i1, i2, i3⟩ := log_law h
        rw [Hlr.out] at i1 i3
        refine ⟨residueR a q, fun w => ?_, fun w => ?_⟩
        · have := implPowerOf_any b lr q w; rw [i1, i3] at this; exact this
        · have := loose (specResidueOf_any a q w); rw [i2] at this; exact this)
      clear Hlb Hlr
      go_wp2_with fail
      (go_at_call 55; refine (ClI.out _).mono ?_; rintro e w12 ⟨rfl, hb12⟩)
      have T12 := Lib.hid (show Below w11.heap.size w11 w12 from Below.trans (by (repeat' (first | (with_reducible exact Below.refl _ _) | (with_reducible assumption) | (with_reducible refine Below.alloc ?_ ?_ _) | (with_reducible refine Below.drew ?_) | (with_reducible refine below_drewN ?_ _) | (with_reducible refine Below.setCell ?_ ?_ _) | go_size))) (hb12.mono (by go_size)))
      have HB12 := Lib.hid (HB11.out.trans (T12.out.mono HB11.out.size))
      clear hb12
      go_wp2_with fail
      (go_at_call 56; refine (ClS.out _).mono ?_; rintro e w13 ⟨rfl, hb13⟩)
      have T13 := Lib.hid (show Below w12.heap.size w12 w13 from Below.trans (by (repeat' (first | (with_reducible exact Below.refl _ _) | (with_reducible assumption) | (with_reducible refine Below.alloc ?_ ?_ _) | (with_reducible refine Below.drew ?_) | (with_reducible refine below_drewN ?_ _) | (with_reducible refine Below.setCell ?_ ?_ _) | go_size))) (hb13.mono (by go_size)))
      have HB13 := Lib.hid (HB12.out.trans (T13.out.mono HB12.out.size))
      clear hb13
      go_upto_if 196 with fail
      go_cut [] from 1 to 0 (fun wx => Hid (Below w.heap.size w wx))
      case first =>
        cases lb
        · go_wp2
          go_meet
          exact Lib.hid (HB13.out.trans (by (repeat' (first | (with_reducible exact Below.refl _ _) | (with_reducible assumption) | (with_reducible refine Below.alloc ?_ ?_ _) | (with_reducible refine Below.drew ?_) | (with_reducible refine below_drewN ?_ _) | (with_reducible refine Below.setCell ?_ ?_ _) | go_size))))
        · obtain ⟨z, O1, O2⟩ := LL.out rfl
          replace O1 := Lib.hid O1
          replace O2 := Lib.hid O2
          go_wp2_with fail
          (go_at_call 26; refine (O1.out _).mono ?_; rintro e w14 ⟨rfl, hb14⟩)
          have T14 := Lib.hid (show Below w13.heap.size w13 w14 from Below.trans (by (repeat' (first | (with_reducible exact Below.refl _ _) | (with_reducible assumption) | (with_reducible refine Below.alloc ?_ ?_ _) | (with_reducible refine Below.drew ?_) | (with_reducible refine below_drewN ?_ _) | (with_reducible refine Below.setCell ?_ ?_ _) | go_size))) (hb14.mono (by go_size)))
          have HB14 := Lib.hid (HB13.out.trans (T14.out.mono HB13.out.size))
          clear hb14
          go_wp2_with fail
          (go_at_call 19; refine (O2.out _).mono ?_; rintro e w15 ⟨rfl, hb15⟩)
          have T15 := Lib.hid (show Below w14.heap.size w14 w15 from Below.trans (by (repeat' (first | (with_reducible exact Below.refl _ _) | (with_reducible assumption) | (with_reducible refine Below.alloc ?_ ?_ _) | (with_reducible refine Below.drew ?_) | (with_reducible refine below_drewN ?_ _) | (with_reducible refine Below.setCell ?_ ?_ _) | go_size))) (hb15.mono (by go_size)))
          have HB15 := Lib.hid (HB14.out.trans (T15.out.mono HB14.out.size))
          clear hb15
          go_wp2
          go_meet
          exact Lib.hid (HB15.out.trans (by (repeat' (first | (with_reducible exact Below.refl _ _) | (with_reducible assumption) | (with_reducible refine Below.alloc ?_ ?_ _) | (with_reducible refine Below.drew ?_) | (with_reducible refine below_drewN ?_ _) | (with_reducible refine Below.setCell ?_ ?_ _) | go_size))))
      case rest =>
        rename World => w14
        have HB14 := hcut
        clear hcut
        clear LL ClI ClS
        go_wp2_with fail
        (go_at_call 57; refine (DrawValuationOf_any (KB1.out.below HB14.out)).mono ?_; rintro e w15 ⟨⟨cc, r, s0, s1, r0, r1, rfl⟩, hb15⟩)
        have T15 := Lib.hid (show Below w14.heap.size w14 w15 from Below.trans (by (repeat' (first | (with_reducible exact Below.refl _ _) | (with_reducible assumption) | (with_reducible refine Below.alloc ?_ ?_ _) | (with_reducible refine Below.drew ?_) | (with_reducible refine below_drewN ?_ _) | (with_reducible refine Below.setCell ?_ ?_ _) | go_size))) (hb15.mono (by go_size)))
        have HB15 := Lib.hid (HB14.out.trans (T15.out.mono HB14.out.size))
        clear hb15
        obtain ⟨vb, Hvb⟩ := hidEq (valB cc r)
        obtain ⟨vr, Hvr⟩ := hidEq (valR cc r)
        have CvI : Hid (∀ w : World, Calls Try.prog 58 #[.int .i64 cc, .int .i64 r] w fun e w' => e = .returned (.tuple #[.int .i64 vr, .bool vb]) ∧ Below w.heap.size w w') := Lib.hid (fun w => by rw [← Hvr.out, ← Hvb.out]; exact loose (implValuationOf_any cc r w))
        have CvS : Hid (∀ w : World, Calls Try.prog 59 #[.int .i64 cc, .int .i64 r] w fun e w' => e = .returned (.tuple #[.int .i64 vr, .bool vb]) ∧ Below w.heap.size w w') := Lib.hid (fun w => by rw [← Hvr.out, ← Hvb.out]; exact loose (specValuationOf_any cc r w))
        have LV : Hid (vb = true → (2 ≤ r ∧ r ≤ 997) ∧ cc ≠ 0 ∧ vr = valI cc r) := Lib.hid (fun h => by
          rw [← Hvb.out] at h
          have hv : valR cc r = valI cc r := by unfold valR; rw [if_pos h]
          rw [Hvr.out] at hv
          unfold valB at h
          simp only [Bool.and_eq_true, bne_iff_ne, ne_eq] at h
          exact ⟨(fitsB_range h.1).2.1, h.2, hv⟩)
        clear Hvb Hvr
        go_wp2_with fail
        (go_at_call 58; refine (CvI.out _).mono ?_; rintro e w16 ⟨rfl, hb16⟩)
        have T16 := Lib.hid (show Below w15.heap.size w15 w16 from Below.trans (by (repeat' (first | (with_reducible exact Below.refl _ _) | (with_reducible assumption) | (with_reducible refine Below.alloc ?_ ?_ _) | (with_reducible refine Below.drew ?_) | (with_reducible refine below_drewN ?_ _) | (with_reducible refine Below.setCell ?_ ?_ _) | go_size))) (hb16.mono (by go_size)))
        have HB16 := Lib.hid (HB15.out.trans (T16.out.mono HB15.out.size))
        clear hb16
        go_wp2_with fail
        (go_at_call 59; refine (CvS.out _).mono ?_; rintro e w17 ⟨rfl, hb17⟩)
        have T17 := Lib.hid (show Below w16.heap.size w16 w17 from Below.trans (by (repeat' (first | (with_reducible exact Below.refl _ _) | (with_reducible assumption) | (with_reducible refine Below.alloc ?_ ?_ _) | (with_reducible refine Below.drew ?_) | (with_reducible refine below_drewN ?_ _) | (with_reducible refine Below.setCell ?_ ?_ _) | go_size))) (hb17.mono (by go_size)))
        have HB17 := Lib.hid (HB16.out.trans (T17.out.mono HB16.out.size))
        clear hb17
        go_upto_if 246 with fail
        go_cut [] from 1 to 0 (fun wx => Hid (Below w.heap.size w wx))
        case first =>
          cases vb
          · go_wp2
            go_meet
            exact Lib.hid (HB17.out.trans (by (repeat' (first | (with_reducible exact Below.refl _ _) | (with_reducible assumption) | (with_reducible refine Below.alloc ?_ ?_ _) | (with_reducible refine Below.drew ?_) | (with_reducible refine below_drewN ?_ _) | (with_reducible refine Below.setCell ?_ ?_ _) | go_size))))
          · obtain ⟨⟨p2, p3⟩, hne, hvr⟩ := LV.out rfl
            obtain ⟨P, rfl⟩ := Int.eq_ofNat_of_zero_le (show 0 ≤ r by omega)
            obtain ⟨V, HV⟩ := hidEq (valN P cc.natAbs)
            obtain rfl : vr = (V : Int) := by rw [hvr, ← HV.out]; simp [valI]
            have hz : ((P : Int) == 0) = false := by simp; omega
            have hV : V ≤ 1000000000001 := by have := valN_le HV.out (by omega) (by omega); omega
            clear hvr
            go_wp2
            go_loop [38, 32] (fun i x => ∃ (k : Nat) (y : Int), k ≤ V ∧ i = .int .i64 k ∧ x = .int .i64 y ∧ -1000000000001 ≤ y ∧ y ≤ 1000000000001 ∧ 1 ≤ y.natAbs ∧ Hid (k + valN P y.natAbs = V)) (fun i _ => V - (intOf i).toNat)
            case atStart => exact ⟨0, cc, by omega, rfl, rfl, s0, s1, by omega, Lib.hid (by rw [HV.out]; omega)⟩
            case round =>
              obtain ⟨k, y, hk, rfl, rfl, y0, y1, y2, HK⟩ := hrel
              by_cases hkv : k < V
              · obtain ⟨m1, m2, m3, m4⟩ := val_more (by omega) y2 HK.out hkv
                have m1' : (y.tmod (P : Int)) = 0 := by simpa using m1
                have M4 := Lib.hid m4
                have b2 : (k : Int) < (V : Int) := by omega
                have b3 : -1000000000001 ≤ y.tdiv P := by omega
                have b4 : y.tdiv P ≤ 1000000000001 := by omega
                clear m4 m1'
                go_wp2
                go_round
                case rel => exact ⟨k + 1, y.tdiv P, by omega, by go_num, by go_num, b3, b4, m2, M4⟩
                case measure => simp [intOf]; omega
              · have hd := val_done (show 2 ≤ P by omega) y2 HK.out hkv
                have b2 : ¬ ((k : Int) < (V : Int)) := by omega
                go_wp2
                go_meet
                exact Lib.hid (HB17.out.trans (by (repeat' (first | (with_reducible exact Below.refl _ _) | (with_reducible assumption) | (with_reducible refine Below.alloc ?_ ?_ _) | (with_reducible refine Below.drew ?_) | (with_reducible refine below_drewN ?_ _) | (with_reducible refine Below.setCell ?_ ?_ _) | go_size))))
        case rest =>
          rename World => w18
          have HB18 := hcut
          clear hcut
          clear LV CvI CvS
          go_wp2_with fail
          (go_at_call 60; refine (DrawPrimesUpTo_any (KB1.out.below HB18.out)).mono ?_; rintro e w19 ⟨⟨m, m0, m1, rfl⟩, hb19⟩)
          have T19 := Lib.hid (show Below w18.heap.size w18 w19 from Below.trans (by (repeat' (first | (with_reducible exact Below.refl _ _) | (with_reducible assumption) | (with_reducible refine Below.alloc ?_ ?_ _) | (with_reducible refine Below.drew ?_) | (with_reducible refine below_drewN ?_ _) | (with_reducible refine Below.setCell ?_ ?_ _) | go_size))) (hb19.mono (by go_size)))
          have HB19 := Lib.hid (HB18.out.trans (T19.out.mono HB18.out.size))
          clear hb19
          obtain ⟨ub, Hub⟩ := hidEq (inB m 1 997)
          obtain ⟨xs, Hxs⟩ := hidEq (Pu.pL m)
          have CuI : Hid (∀ w : World, Calls Try.prog 61 #[.int .i64 m] w fun e w' => ∃ v, e = .returned (.tuple #[v, .bool ub]) ∧ Nums w' w.heap.size v xs ∧ Below w.heap.size w w') := Lib.hid (fun w => by rw [← Hub.out, ← Hxs.out]; exact Pu.impl_any m w)
          have CuS : Hid (∀ w : World, Calls Try.prog 62 #[.int .i64 m] w fun e w' => ∃ v, e = .returned (.tuple #[v, .bool ub]) ∧ Nums w' w.heap.size v xs ∧ Below w.heap.size w w') := Lib.hid (fun w => by rw [← Hub.out, ← Hxs.out]; exact Pu.spec_any m w)
          have hxl : xs.length ≤ 1000000000000000 := by rw [← Hxs.out]; exact Pu.pL_short' m
          have LP : Hid (∀ x ∈ xs, x ≤ m ∧ 2 ≤ x ∧ primeB x = true) := Lib.hid (fun x hx => by rw [← Hxs.out] at hx; exact pL_law hx)
          clear Hub Hxs
          go_wp2_with fail
          (go_at_call 61; refine (CuI.out _).mono ?_; rintro e w20 ⟨v5, rfl, p5, hb20⟩)
          have T20 := Lib.hid (show Below w19.heap.size w19 w20 from Below.trans (by (repeat' (first | (with_reducible exact Below.refl _ _) | (with_reducible assumption) | (with_reducible refine Below.alloc ?_ ?_ _) | (with_reducible refine Below.drew ?_) | (with_reducible refine below_drewN ?_ _) | (with_reducible refine Below.setCell ?_ ?_ _) | go_size))) (hb20.mono (by go_size)))
          have HB20 := Lib.hid (HB19.out.trans (T20.out.mono HB19.out.size))
          clear hb20
          have P5 := Lib.hid p5
          clear p5
          go_wp2_with fail
          (go_at_call 62; refine (CuS.out _).mono ?_; rintro e w21 ⟨v6, rfl, p6, hb21⟩)
          have T21 := Lib.hid (show Below w20.heap.size w20 w21 from Below.trans (by (repeat' (first | (with_reducible exact Below.refl _ _) | (with_reducible assumption) | (with_reducible refine Below.alloc ?_ ?_ _) | (with_reducible refine Below.drew ?_) | (with_reducible refine below_drewN ?_ _) | (with_reducible refine Below.setCell ?_ ?_ _) | go_size))) (hb21.mono (by go_size)))
          have HB21 := Lib.hid (HB20.out.trans (T21.out.mono HB20.out.size))
          clear hb21
          have P6 := Lib.hid p6
          have P56 := Lib.hid (P5.out.below T21.out)
          clear p6
          go_wp2_with fail
          (go_at_call 63; refine (sameInts_same P56.out P6.out (by omega)).mono ?_; rintro e w22 ⟨rfl, hb22⟩)
          have T22 := Lib.hid (show Below w21.heap.size w21 w22 from Below.trans (by (repeat' (first | (with_reducible exact Below.refl _ _) | (with_reducible assumption) | (with_reducible refine Below.alloc ?_ ?_ _) | (with_reducible refine Below.drew ?_) | (with_reducible refine below_drewN ?_ _) | (with_reducible refine Below.setCell ?_ ?_ _) | go_size))) (hb22.mono (by go_size)))
          have HB22 := Lib.hid (HB21.out.trans (T22.out.mono HB21.out.size))
          clear hb22
          obtain ⟨A, c, rfl, op⟩ := nums_open (P6.out.below T22.out)
          have OP := Lib.hid op
          clear op P5 P6 P56 CuI CuS
          go_wp2
          go_loop [286] (fun i => ∃ k : Nat, k ≤ xs.length ∧ i = .int .i64 k) (fun i => xs.length - (intOf i).toNat)
          case atStart => exact ⟨0, by omega, rfl⟩
          case round =>
            obtain ⟨k, hk, rfl⟩ := hrel
            by_cases hlt : k < xs.length
            · obtain ⟨x, hx⟩ : ∃ x, xs[k]? = some x := ⟨_, List.getElem?_eq_getElem hlt⟩
              obtain ⟨a, rfl, hc1⟩ := OP.out k x hx
              obtain ⟨x1, x2, x3⟩ := LP.out x (List.mem_of_getElem? hx)
              have HP : Hid (∀ w : World, Calls Try.prog 50 #[.int .i64 x] w fun e w' => e = .returned (.bool true) ∧ w = w') := Lib.hid (fun w => by rw [← x3]; exact implIsPrimeNumber_any _ w)
              have b0 : (0 : Int) ≤ (k : Int) := by omega
              have b1 : (k : Int) < (xs.length : Int) := by omega
              have b2 : ¬ (m < x) := by omega
              clear hx x3
              go_wp2_with (go_at_call 50; refine (HP.out _).mono ?_; rintro e w' ⟨rfl, rfl⟩)
              go_round
              case rel => exact ⟨k + 1, by omega, by go_num⟩
              case measure => simp [intOf]; omega
            · clear OP LP
              go_wp2_with fail
              (go_at_call 64; refine (DrawIsPrimeNumber_any (KB1.out.below HB22.out)).mono ?_; rintro e w23 ⟨⟨z, z0, z1, rfl⟩, hb23⟩)
              have T23 := Lib.hid (show Below w22.heap.size w22 w23 from Below.trans (by (repeat' (first | (with_reducible exact Below.refl _ _) | (with_reducible assumption) | (with_reducible refine Below.alloc ?_ ?_ _) | (with_reducible refine Below.drew ?_) | (with_reducible refine below_drewN ?_ _) | (with_reducible refine Below.setCell ?_ ?_ _) | go_size))) (hb23.mono (by go_size)))
              have HB23 := Lib.hid (HB22.out.trans (T23.out.mono HB22.out.size))
              clear hb23
              obtain ⟨zb, Hzb⟩ := hidEq (primeB z)
              have CzI : Hid (∀ w : World, Calls Try.prog 50 #[.int .i64 z] w fun e w' => e = .returned (.bool zb) ∧ w = w') := Lib.hid (fun w => by rw [← Hzb.out]; exact implIsPrimeNumber_any _ w)
              have CzS : Hid (∀ w : World, Calls Try.prog 65 #[.int .i64 z] w fun e w' => e = .returned (.bool zb) ∧ w = w') := Lib.hid (fun w => by rw [← Hzb.out]; exact specIsPrimeNumber_any _ w)
              go_wp2_with (first | (go_at_call 50; refine (CzI.out _).mono ?_; rintro e w' ⟨rfl, rfl⟩) | (go_at_call 65; refine (CzS.out _).mono ?_; rintro e w' ⟨rfl, rfl⟩))
              go_ret
              exact ⟨by simp, HB23.out.trans (by (repeat' (first | (with_reducible exact Below.refl _ _) | (with_reducible assumption) | (with_reducible refine Below.alloc ?_ ?_ _) | (with_reducible refine Below.drew ?_) | (with_reducible refine below_drewN ?_ _) | (with_reducible refine Below.setCell ?_ ?_ _) | go_size)))⟩
end Go.Proofs.Ytklhmaegpejdbaa.Pm
