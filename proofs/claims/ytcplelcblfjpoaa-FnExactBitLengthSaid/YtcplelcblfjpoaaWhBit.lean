/- impl.bitLength and spec.bgBits. -/
import Derived.Test.YtcplelcblfjpoaaWhDiv
import Derived.Test.YtcplelcblfjpoaaWhDiS
import Derived.Test.YtcplelcblfjpoaaWhAbs
import Derived.Test.YtcplelcblfjpoaaWhCmp
import Derived.Test.YtcplelcblfjpoaaBits
import Derived.Test.YtcplelcblfjpoaaShelfB
import Derived.Test.YtcplelcblfjpoaaBoxS
namespace Go.Proofs.Ytcplelcblfjpoaa
open Go.RowKit
set_option linter.unusedVariables false
set_option linter.unusedSimpArgs false
def blI (z : Int) : Int := (bl z.natAbs : Int)
theorem wl_len (y : Nat) : wlimbs (y : Int) = digs y := by unfold wlimbs; simp
theorem blI_in {z : Int} (h : (wlimbs z).length ≤ 400) : bl z.natAbs ≤ 5600 := by
  have h1 := bl_digs z.natAbs
  have h2 : (digs z.natAbs).length ≤ 400 := h
  omega
theorem div_cut {y c k K : Nat} (hK : K = 2 ^ k) (h : K ≤ y) : divZ (y : Int) (K : Int) = ((y / K : Nat) : Int) ∧ bl y = bl (y / K) + k ∧ y / K ≤ y := by
  refine ⟨?_, ?_, Nat.div_le_self ..⟩
  · unfold divZ; rw [Int.natCast_ediv]
  · subst hK; exact bl_div k h
set_option maxHeartbeats 8000000 in
theorem bitLength_any (z : Int) {P : Option Addr} {c : Nat} {w : World} (h : Holds w (.slice P (wlimbs z).length c) (wlimbs z)) (hl : (wlimbs z).length ≤ 400) :
    Calls Try.prog 28 #[.agg #[.bool (wneg z), .slice P (wlimbs z).length c]] w fun e w' => e = .returned (.int .i64 (blI z)) ∧ Below w.heap.size w w' := by
  have H := Lib.hid h
  have hM := blI_in hl
  clear h
  obtain ⟨M, hMe⟩ : ∃ M, z.natAbs = M := ⟨_, rfl⟩
  have ha : absI z = (M : Int) := by unfold absI; rw [hMe]
  rw [show blI z = (bl M : Int) by unfold blI; rw [hMe]]
  rw [hMe] at hM
  have hlM : (wlimbs (M : Int)).length ≤ 400 := by rw [wl_len, ← hMe]; exact hl
  clear hMe
  go_enter Try.func28, Try.ntmps28
  go_wp2_with fail
  (go_at_call 40; refine (absolute_any z (H.out.below (by (repeat' (first | (with_reducible exact Below.refl _ _) | (with_reducible assumption) | (with_reducible refine Below.alloc ?_ ?_ _) | (with_reducible refine Below.drew ?_) | (with_reducible refine below_drewN ?_ _) | (with_reducible refine Below.setCell ?_ ?_ _) | go_size)))) (by omega)).mono ?_; rintro e w2 ⟨A2, d2, rfl, n2, hb2⟩; have N2 := Lib.hid n2; clear n2; obtain ⟨hc2, hf2⟩ := bcell hb2; have hB2 : Below w.heap.size w w2 := Below.trans (by repeat' (first | (with_reducible exact Below.refl _ _) | (with_reducible assumption) | (with_reducible refine Below.alloc ?_ ?_ _) | (with_reducible refine Below.drew ?_) | (with_reducible refine below_drewN ?_ _) | (with_reducible refine Below.setCell ?_ ?_ _) | go_size)) (hb2.mono (by go_size)); (have hs2 := hb2.size); (try simp at hs2); (try (have hl2 := Nat.lt_of_succ_le hs2)); (first | (have hz2 : w.heap.size < w2.heap.size := by omega) | (have hz2 : w.heap.size ≤ w2.heap.size := by omega)); (try (have hz1_2 : w1.heap.size < w2.heap.size := by omega)); (try (have hz3_2 : w3.heap.size < w2.heap.size := by omega)); (try (have hz4_2 : w4.heap.size < w2.heap.size := by omega)); (try (have hz5_2 : w5.heap.size < w2.heap.size := by omega)); (try (have hzc_2 : wc.heap.size < w2.heap.size := by omega)); (try (have hy1_2 : w.heap.size + 1 < w2.heap.size := by omega)); (try (have hy2_2 : w.heap.size + 2 < w2.heap.size := by omega)); (try (have hy3_2 : w.heap.size + 3 < w2.heap.size := by omega)); (have k2_0 : w2.cell? ⟨w.heap.size, 0, none⟩ = some (.bool (wneg z)) := by (rw [hb2.cell (by first | (simp; done) | (simp; omega) | omega)]; first | assumption | (simp [go_sem]; done) | (simp [*, go_sem]; done))); (have k2_1 : w2.cell? ⟨w.heap.size, 1, none⟩ = some (.slice P (wlimbs z).length c) := by (rw [hb2.cell (by first | (simp; done) | (simp; omega) | omega)]; first | assumption | (simp [go_sem]; done) | (simp [*, go_sem]; done))); (have k2_2 : w2.frozen? ⟨w.heap.size, 0, none⟩ = false := by (rw [hb2.frozen (by first | (simp; done) | (simp; omega) | omega)]; first | assumption | (simp [go_sem]; done) | (simp [*, go_sem]; done))); (have k2_3 : w2.frozen? ⟨w.heap.size, 1, none⟩ = false := by (rw [hb2.frozen (by first | (simp; done) | (simp; omega) | omega)]; first | assumption | (simp [go_sem]; done) | (simp [*, go_sem]; done))))
  have XA := Lib.hid (BoxAt.stored (show BoxAt w2 w.heap.size (.bool (wneg z)) (.slice P (wlimbs z).length c) from ⟨k2_0, k2_1, k2_2, k2_3⟩) (.bool (wneg (absI z))) (.slice A2 (wlimbs (absI z)).length d2))
  have q2 : w.heap.size < w2.heap.size := by omega
  have NN := Lib.hid (((N2.out.setBelow (a := ⟨w.heap.size, 0, none⟩) (show w.heap.size < _ by first | omega | (simp; done) | (simp; omega)) (.bool (wneg (absI z)))).setBelow (a := ⟨w.heap.size, 1, none⟩) (show w.heap.size < _ by first | omega | (simp; done) | (simp; omega)) (.slice A2 (wlimbs (absI z)).length d2)).mono (C := w.heap.size + 1) (by first | omega | (simp; done) | (simp; omega)))
  have BB := Lib.hid ((hB2.setCell (p := ⟨w.heap.size, 0, none⟩) (show w.heap.size ≤ w.heap.size from Nat.le_refl _) (.bool (wneg (absI z)))).setCell (p := ⟨w.heap.size, 1, none⟩) (show w.heap.size ≤ w.heap.size from Nat.le_refl _) (.slice A2 (wlimbs (absI z)).length d2))
  clear hc2 hf2 hb2 N2
  rw [ha] at XA NN BB
  rw [ha]
  clear ha
  go_wp2
  go_loopw [3] (fun t wr => ∃ (k y : Nat) (A : Option Addr) (d : Nat), t = .int .i64 k ∧ bl M = bl y + k ∧ (wlimbs (y : Int)).length ≤ 400 ∧ Hid (BoxAt wr w.heap.size (.bool (wneg (y : Int))) (.slice A (wlimbs (y : Int)).length d)) ∧ Hid (Nums wr (w.heap.size + 1) (.slice A (wlimbs (y : Int)).length d) (wlimbs (y : Int))) ∧ Hid (Below w.heap.size w wr) ∧ w.heap.size < wr.heap.size) (fun t _ => bl M + 1 - (intOf t).toNat)
  case atStart => exact ⟨0, M, A2, d2, rfl, by omega, hlM, XA, NN, BB, by simp; omega⟩
  case round =>
    clear XA NN BB
    obtain ⟨k, y, A, d, rfl, hbl, hly, XA, NO, BB, hsz⟩ := hrel
    obtain ⟨a0, a1, a2, a3⟩ := XA.out
    by_cases hlt : 2 < (wlimbs (y : Int)).length
    · have hlt' : (2 : Int) < ((wlimbs (y : Int)).length : Int) := by omega
      have hbig : 10000 ^ 2 ≤ y := big_of_digs (by rw [← wl_len]; exact hlt)
      obtain ⟨e1, e2, e3⟩ := div_cut (c := 0) (k := 26) (K := 67108864) (by decide) (show 67108864 ≤ y by omega)
      have hlq : (wlimbs ((y / 67108864 : Nat) : Int)).length ≤ 400 := Nat.le_trans (wlen_le_of_le (a := ((y / 67108864 : Nat) : Int)) (b := (y : Int)) (by omega)) hly
      have E1 := Lib.hid e1
      clear e1 hbig
      go_wp2_with fail
      (go_at_call 39; refine (divWhole_any (y : Int) 67108864 NO.out.holds (by omega) (by omega) (by omega)).mono ?_; rintro e w5 ⟨A5, d5, rfl, n5, hb5⟩; have N5 := Lib.hid n5; clear n5)
      have E1' : Hid (divZ (y : Int) 67108864 = ((y / 67108864 : Nat) : Int)) := E1
      rw [E1'.out] at N5
      rw [E1'.out]
      have hB5 := Lib.hid (BB.out.trans (hb5.mono (by omega)))
      have q5 := hb5.size
      have XA5 := Lib.hid (XA.out.below hb5 hsz)
      clear a0 a1 a2 a3 hb5
      obtain ⟨a0, a1, a2, a3⟩ := XA5.out
      have Y1 := Lib.hid (XA5.out.stored (.bool (wneg ((y / 67108864 : Nat) : Int))) (.slice A5 (wlimbs ((y / 67108864 : Nat) : Int)).length d5))
      have Y4 := Lib.hid (((N5.out.setBelow (a := ⟨w.heap.size, 0, none⟩) hsz (.bool (wneg ((y / 67108864 : Nat) : Int)))).setBelow (a := ⟨w.heap.size, 1, none⟩) hsz (.slice A5 (wlimbs ((y / 67108864 : Nat) : Int)).length d5)).mono (C := w.heap.size + 1) (by omega))
      have Y5 := Lib.hid ((hB5.out.setCell (p := ⟨w.heap.size, 0, none⟩) (Nat.le_refl _) (.bool (wneg ((y / 67108864 : Nat) : Int)))).setCell (p := ⟨w.heap.size, 1, none⟩) (Nat.le_refl _) (.slice A5 (wlimbs ((y / 67108864 : Nat) : Int)).length d5))
      go_wp2
      go_roundw
      case rel => exact ⟨k + 26, y / 67108864, _, _, by go_num, by omega, hlq, Y1, Y4, Y5, by simp; omega⟩
      case measure => simp [intOf]; omega
    · have hlt' : ¬ (2 : Int) < ((wlimbs (y : Int)).length : Int) := by omega
      have HV := Lib.hid (show dv (wlimbs (y : Int)) = (y : Int) by rw [dv_wlimbs]; simp)
      have HDg := Lib.hid (wlimbs_Dig (y : Int))
      obtain ⟨xs, hxs⟩ : ∃ xs, wlimbs (y : Int) = xs := ⟨_, rfl⟩
      rw [hxs] at HV HDg hlt hlt' hly NO XA a1
      have HB := Lib.hid BB.out
      have hly2 : y < 100000000 := by
        have h3 := dv_lt HDg.out
        have h4 := pow_le_pow' (show xs.length ≤ 2 by omega)
        rw [HV.out] at h3
        omega
      have HL := Lib.hid (bitsLen_any y (by omega) wr)
      rcases xs with _ | ⟨a, _ | ⟨b, _ | ⟨c, t⟩⟩⟩
      · simp only [List.length_nil] at a1
        have hy0 : y = 0 := by have := HV.out; simp [dv] at this; omega
        have hbk : bl M = k := by rw [hbl, hy0, bl_zero]; omega
        go_wp2
        go_rounds 1
        go_ret
        exact ⟨by rw [hbk]; rfl, BB.out⟩
      · have hda := HDg.out.head
        obtain ⟨g, cap, hv, _, hg, hcs, _⟩ : ∃ g cap, _ ∧ _ := by
          rcases NO.out.shape with ⟨_, h3⟩ | h3
          · cases h3
          · exact h3
        cases hv
        have c0 := hcs 0 a rfl
        simp only [List.length_nil, List.length_cons, Nat.reduceAdd] at a1
        have hya : (y : Int) = a := by have := HV.out; simp [dv] at this; omega
        clear hcs
        by_cases h0 : a = 0
        · have hbk : bl M = k := by rw [hbl, show y = 0 by omega, bl_zero]; omega
          go_wp2
          go_rounds 2
          go_ret
          exact ⟨by rw [hbk]; rfl, BB.out⟩
        · go_wp2
          refine wp_loop_rounds 2 ?_
          repeat any_goals (rw [rounds_succ]; go_wp2_with (go_at_call 43; rw [← hya]; refine (bitsLen_any y (by omega) _).mono ?_; rintro e w' ⟨rfl, rfl⟩))
          go_ret
          exact ⟨by rw [hbl, Int.natCast_add, Int.add_comm]; rfl, BB.out⟩
      · have hda := HDg.out.head
        have hdb := HDg.out.tail.head
        obtain ⟨g, cap, hv, _, hg, hcs, _⟩ : ∃ g cap, _ ∧ _ := by
          rcases NO.out.shape with ⟨_, h3⟩ | h3
          · cases h3
          · exact h3
        cases hv
        have c0 := hcs 0 a rfl
        simp only [List.length_nil, List.length_cons, Nat.reduceAdd] at a1
        have c1 := hcs 1 b rfl
        have hya : (y : Int) = b * 10000 + a := by have := HV.out; simp [dv] at this; omega
        clear hcs
        by_cases h0 : b * 10000 + a = 0
        · have hbk : bl M = k := by rw [hbl, show y = 0 by omega, bl_zero]; omega
          go_wp2
          go_rounds 3
          go_ret
          exact ⟨by rw [hbk]; rfl, BB.out⟩
        · go_wp2
          refine wp_loop_rounds 3 ?_
          repeat any_goals (rw [rounds_succ]; go_wp2_with (go_at_call 43; rw [← hya]; refine (bitsLen_any y (by omega) _).mono ?_; rintro e w' ⟨rfl, rfl⟩))
          go_ret
          exact ⟨by rw [hbl, Int.natCast_add, Int.add_comm]; rfl, BB.out⟩
      · exfalso; simp at hlt
theorem dig_one {xs : List Int} (h : xs.length ≤ 1) : dig xs 0 = dv xs := by
  rcases xs with _ | ⟨a, _ | ⟨b, t⟩⟩
  · simp [dig, dv]
  · simp [dig, dv]
  · simp at h
theorem bgLimb_one (y : Nat) {A : Option Addr} {c : Nat} {w : World} (h : Holds w (.slice A (wlimbs (y : Int)).length c) (wlimbs (y : Int))) (hl : (wlimbs (y : Int)).length ≤ 1) :
    Calls Try.prog 42 #[.slice A (wlimbs (y : Int)).length c, .int .i64 0] w fun e w' => e = .returned (.int .i64 (y : Int)) ∧ w = w' := by
  have h1 := bgLimb_any (k := 0) h (by omega) (by omega)
  rw [dig_one hl, dv_wlimbs] at h1
  exact h1
set_option maxHeartbeats 8000000 in
theorem bgBits_any (z : Int) {P : Option Addr} {c : Nat} {w : World} (h : Holds w (.slice P (wlimbs z).length c) (wlimbs z)) (hl : (wlimbs z).length ≤ 400) :
    Calls Try.prog 27 #[.agg #[.bool (wneg z), .slice P (wlimbs z).length c]] w fun e w' => e = .returned (.int .i64 (blI z)) ∧ Below w.heap.size w w' := by
  have H := Lib.hid h
  have hM := blI_in hl
  have HZ : Hid (absI z = if false = true then - dv (wlimbs z) else dv (wlimbs z)) := by
    show _ = _
    rw [dv_wlimbs]
    simp [absI]
  clear h
  obtain ⟨M, hMe⟩ : ∃ M, z.natAbs = M := ⟨_, rfl⟩
  have ha : absI z = (M : Int) := by unfold absI; rw [hMe]
  rw [show blI z = (bl M : Int) by unfold blI; rw [hMe]]
  rw [hMe] at hM
  have hlM : (wlimbs (M : Int)).length ≤ 400 := by rw [wl_len, ← hMe]; exact hl
  clear hMe
  rw [ha] at HZ
  clear ha
  go_enter Try.func27, Try.ntmps27
  go_wp2_with fail
  (go_at_call 36; refine (bgMake_any false (M : Int) (H.out.below (by (repeat' (first | (with_reducible exact Below.refl _ _) | (with_reducible assumption) | (with_reducible refine Below.alloc ?_ ?_ _) | (with_reducible refine Below.drew ?_) | (with_reducible refine below_drewN ?_ _) | (with_reducible refine Below.setCell ?_ ?_ _) | go_size)))) (by omega) (wlimbs_Dig z) HZ.out).mono ?_; rintro e w2 ⟨A2, d2, rfl, n2, hb2⟩; have N2 := Lib.hid n2; clear n2; obtain ⟨hc2, hf2⟩ := bcell hb2; have hB2 : Below w.heap.size w w2 := Below.trans (by repeat' (first | (with_reducible exact Below.refl _ _) | (with_reducible assumption) | (with_reducible refine Below.alloc ?_ ?_ _) | (with_reducible refine Below.drew ?_) | (with_reducible refine below_drewN ?_ _) | (with_reducible refine Below.setCell ?_ ?_ _) | go_size)) (hb2.mono (by go_size)); (have hs2 := hb2.size); (try simp at hs2); (try (have hl2 := Nat.lt_of_succ_le hs2)); (first | (have hz2 : w.heap.size < w2.heap.size := by omega) | (have hz2 : w.heap.size ≤ w2.heap.size := by omega)); (try (have hz1_2 : w1.heap.size < w2.heap.size := by omega)); (try (have hz3_2 : w3.heap.size < w2.heap.size := by omega)); (try (have hz4_2 : w4.heap.size < w2.heap.size := by omega)); (try (have hz5_2 : w5.heap.size < w2.heap.size := by omega)); (try (have hzc_2 : wc.heap.size < w2.heap.size := by omega)); (try (have hy1_2 : w.heap.size + 1 < w2.heap.size := by omega)); (try (have hy2_2 : w.heap.size + 2 < w2.heap.size := by omega)); (try (have hy3_2 : w.heap.size + 3 < w2.heap.size := by omega)))
  have BB := Lib.hid hB2
  have q2 : w.heap.size < w2.heap.size := by omega
  have NN := Lib.hid (N2.out.mono (C := w.heap.size + 1) (by first | omega | (simp; done) | (simp; omega)))
  clear hc2 hf2 hb2 N2
  go_wp2
  go_loopw [3] (fun t wr => ∃ (k y : Nat) (A : Option Addr) (d : Nat), t = .int .i64 k ∧ bl M = bl y + k ∧ (wlimbs (y : Int)).length ≤ 400 ∧ Hid (BoxAt wr w2.heap.size (.bool (wneg (y : Int))) (.slice A (wlimbs (y : Int)).length d)) ∧ Hid (Nums wr (w.heap.size + 1) (.slice A (wlimbs (y : Int)).length d) (wlimbs (y : Int))) ∧ Hid (Below w.heap.size w wr) ∧ w2.heap.size < wr.heap.size) (fun t _ => bl M + 1 - (intOf t).toNat)
  case atStart => exact ⟨0, M, A2, d2, rfl, by omega, hlM, Lib.hid (BoxAt.new _ _ _ _), Lib.hid (NN.out.below (by repeat' (first | (with_reducible exact Below.refl _ _) | (with_reducible assumption) | (with_reducible refine Below.alloc ?_ ?_ _) | (with_reducible refine Below.drew ?_) | (with_reducible refine below_drewN ?_ _) | (with_reducible refine Below.setCell ?_ ?_ _) | go_size))), Lib.hid (BB.out.alloc (by omega) _), by simp⟩
  case round =>
    clear NN BB
    obtain ⟨k, y, A, d, rfl, hbl, hly, XA, NO, BB, hsz⟩ := hrel
    obtain ⟨a0, a1, a2, a3⟩ := XA.out
    by_cases hlt : 1 < (wlimbs (y : Int)).length
    · have hlt' : (1 : Int) < ((wlimbs (y : Int)).length : Int) := by omega
      have hbig : 10000 ^ 1 ≤ y := big_of_digs (by rw [← wl_len]; exact hlt)
      obtain ⟨e1, e2, e3⟩ := div_cut (c := 0) (k := 12) (K := 4096) (by decide) (show 4096 ≤ y by omega)
      have hlq : (wlimbs ((y / 4096 : Nat) : Int)).length ≤ 400 := Nat.le_trans (wlen_le_of_le (a := ((y / 4096 : Nat) : Int)) (b := (y : Int)) (by omega)) hly
      have E1 : Hid (divZ (y : Int) 4096 = ((y / 4096 : Nat) : Int)) := e1
      clear e1 hbig
      go_wp2_with fail
      (go_at_call 20; refine (bgOver_any (y : Int) 4096 NO.out.holds (by omega) (by omega) (by omega)).mono ?_; rintro e w5 ⟨A5, d5, rfl, n5, hb5⟩; have N5 := Lib.hid n5; clear n5)
      rw [E1.out] at N5
      rw [E1.out]
      have hB5 := Lib.hid (BB.out.trans (hb5.mono (by omega)))
      have q5 := hb5.size
      have XA5 := Lib.hid (XA.out.below hb5 hsz)
      clear a0 a1 a2 a3 hb5
      obtain ⟨a0, a1, a2, a3⟩ := XA5.out
      have Y1 := Lib.hid (XA5.out.stored (.bool (wneg ((y / 4096 : Nat) : Int))) (.slice A5 (wlimbs ((y / 4096 : Nat) : Int)).length d5))
      have Y4 := Lib.hid (((N5.out.setBelow (a := ⟨w2.heap.size, 0, none⟩) hsz (.bool (wneg ((y / 4096 : Nat) : Int)))).setBelow (a := ⟨w2.heap.size, 1, none⟩) hsz (.slice A5 (wlimbs ((y / 4096 : Nat) : Int)).length d5)).mono (C := w.heap.size + 1) (by omega))
      have Y5 := Lib.hid ((hB5.out.setCell (p := ⟨w2.heap.size, 0, none⟩) (show w.heap.size ≤ w2.heap.size by omega) (.bool (wneg ((y / 4096 : Nat) : Int)))).setCell (p := ⟨w2.heap.size, 1, none⟩) (show w.heap.size ≤ w2.heap.size by omega) (.slice A5 (wlimbs ((y / 4096 : Nat) : Int)).length d5))
      go_wp2
      go_roundw
      case rel => exact ⟨k + 12, y / 4096, _, _, by go_num, by omega, hlq, Y1, Y4, Y5, by simp; omega⟩
      case measure => simp [intOf]; omega
    · have hlt' : ¬ (1 : Int) < ((wlimbs (y : Int)).length : Int) := by omega
      have hyb : y < 10000 := by
        rcases Nat.lt_or_ge y 10000 with h2 | h2
        · exact h2
        · have h3 := lt_pow_digs y
          rw [← wl_len] at h3
          have h4 := pow_le_pow' (show (wlimbs (y : Int)).length ≤ 1 by omega)
          omega
      go_wp2_with (go_at_call 42; refine (bgLimb_one y NO.out.holds (by omega)).mono ?_; rintro e w' ⟨rfl, rfl⟩)
      go_loop [3, 5] (fun a b => ∃ j m : Nat, a = .int .i64 j ∧ b = .int .i64 m ∧ bl M = bl m + j ∧ m ≤ y) (fun _ b => (intOf b).toNat)
      case atStart => exact ⟨k, y, rfl, rfl, hbl, Nat.le_refl _⟩
      case round =>
        obtain ⟨j, m, rfl, rfl, hbj, hmy⟩ := hrel
        by_cases hm : 0 < m
        · have hmi : (0 : Int) < (m : Int) := by omega
          have hh := bl_half (show m ≠ 0 by omega)
          have HDV := Lib.hid (show ((m / 2 : Nat) : Int) = (m : Int) / 2 by omega)
          go_wp2
          go_round
          case rel => exact ⟨j + 1, m / 2, by go_num, by rw [HDV.out], by omega, by omega⟩
          case measure => simp only [intOf]; omega
        · have hmi : ¬ (0 : Int) < (m : Int) := by omega
          have hbk : bl M = j := by rw [hbj, show m = 0 by omega, bl_zero]; omega
          go_wp2
          go_ret
          have hbk2 : (bl y : Int) + (k : Int) = (j : Int) := by omega
          exact ⟨by first | (rw [hbk2]; rfl) | (rw [hbk]; rfl), BB.out⟩
end Go.Proofs.Ytcplelcblfjpoaa
