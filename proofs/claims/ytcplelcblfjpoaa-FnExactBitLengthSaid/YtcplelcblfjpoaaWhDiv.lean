/- Contract of impl.divWhole. -/
import Derived.Test.YtcplelcblfjpoaaWhDivL
import Derived.Test.YtcplelcblfjpoaaWhKit2
namespace Go.Proofs.Ytcplelcblfjpoaa
open Go.RowKit
set_option linter.unusedVariables false
set_option linter.unusedSimpArgs false
set_option maxHeartbeats 8000000 in
theorem divWhole_any (z n : Int) {A : Option Addr} {c : Nat} {w : World} (h : Holds w (.slice A (wlimbs z).length c) (wlimbs z)) (hl : (wlimbs z).length ≤ 100000) (hn0 : 1 ≤ n) (hn1 : n ≤ 1000000000000) :
    Calls Try.prog 39 #[.agg #[.bool (wneg z), .slice A (wlimbs z).length c], .int .i64 n] w fun e w' => ∃ A c, e = .returned (.tuple #[.agg #[.bool (wneg (divZ z n)), .slice A (wlimbs (divZ z n)).length c], .int .i64 (modZ z n)]) ∧ Nums w' w.heap.size (.slice A (wlimbs (divZ z n)).length c) (wlimbs (divZ z n)) ∧ Below w.heap.size w w' := by
  obtain ⟨i0, hi, hz0, hz1, hz2⟩ := info_parts infoInt
  have HC := Lib.hid h.cells
  have HD := Lib.hid (wlimbs_Dig z)
  have HDV := Lib.hid (dv_wlimbs z)
  clear h
  have hnz : (n == 0) = false := beq_eq_false_iff_ne.2 (by omega)
  go_enter Try.func39, Try.ntmps39
  go_wp2_with (at_make; refine wpList_make_full _ rfl _ _ 22 rfl (w.heap.size + 1 + 1) 3 i0 (.int .i64 0) 1 underInts hi hz0 hz1 .i64 .i64 _ _ (wlimbs z).length rfl rfl rfl rfl (by rw [hz2]; omega) (by unfold maxLen; omega) (by simp) ?_; intro w1 hown hgrow; have k1_0 : w1.cell? ⟨w.heap.size, 1, none⟩ = some (.slice A (wlimbs z).length c) := hgrow.cell (by simp [go_sem]) (by simp); have k1_1 : w1.cell? ⟨w.heap.size, 0, none⟩ = some (.bool (wneg z)) := hgrow.cell (by simp [go_sem]) (by simp))
  simp only [World.size_alloc] at hown
  have R1 := Lib.hid (row_made hown)
  have hb1 := (Below.refl (w.heap.size + 1 + 1) _).grown hgrow (by simp) (fun k h => by cases h)
  have b1 : Below w.heap.size w w1 := Below.trans (by repeat' (first | (with_reducible exact Below.refl _ _) | (with_reducible assumption) | (with_reducible refine Below.alloc ?_ ?_ _) | (with_reducible refine Below.drew ?_) | (with_reducible refine below_drewN ?_ _) | (with_reducible refine Below.setCell ?_ ?_ _) | go_size)) (hb1.mono (by omega))
  have XR := Lib.hid (show BoxAt w1 (w.heap.size + 1) (.bool false) (.slice none 0 0) from ⟨(hb1.cell (by simp)).trans (by simp [go_sem]), (hb1.cell (by simp)).trans (by simp [go_sem]), (hb1.frozen (by simp)).trans (by simp [go_sem]), (hb1.frozen (by simp)).trans (by simp [go_sem])⟩)
  have K0 := Lib.hid k1_0
  have K1 := Lib.hid k1_1
  have B1 := Lib.hid b1
  have q1 : w.heap.size + 1 + 1 < w1.heap.size := by have := R1.out.lt.2; omega
  clear hown hgrow hb1 b1
  go_wp2
  clear k1_0 k1_1
  go_loopw [7, 8] (fun rt t wr => ∃ (k : Nat) (r : Int) (qs : List Int), k ≤ (wlimbs z).length ∧ t = .int .i64 ((k : Int) - 1) ∧ rt = .int .i64 r ∧ Hid (DivInv (wlimbs z) qs n k r) ∧ Hid (Row wr (w.heap.size + 1 + 1) (w.heap.size + 1 + 1) (wlimbs z).length (wlimbs z).length (List.replicate k 0 ++ qs)) ∧ Hid (Below (w.heap.size + 1 + 1) w1 wr)) (fun _ t _ => (intOf t + 1).toNat)
  case atStart => exact ⟨(wlimbs z).length, 0, [], Nat.le_refl _, rfl, rfl, DivInv.start _ (by omega), by rw [List.append_nil]; exact R1, Below.refl _ _⟩
  case round =>
    obtain ⟨k, r, qs, hk, rfl, rfl, HI, HR, HB⟩ := hrel
    have hgs := HR.out.lt.2
    have r0 := HI.out.2.2.2.1
    have r1 := HI.out.2.2.2.2
    match k, hk, HI, HR with
    | j + 1, hk, HI, HR =>
      have ej : (((j + 1 : Nat) : Int) - 1) = (j : Int) := by omega
      rw [ej]
      clear ej
      have b0 : (0 : Int) ≤ (j : Int) := by omega
      have b2 : (j : Int) < ((wlimbs z).length : Int) := by omega
      obtain ⟨gx, hxA, hxg, hxc⟩ := HC.out j (by omega)
      have hcx : wr.cell? ⟨gx, j, none⟩ = some (.int .i64 (dig (wlimbs z) j)) := (HB.out.cell (by show gx < _; omega)).trans ((B1.out.cell hxg).trans hxc)
      have k0 : wr.cell? ⟨w.heap.size, 1, none⟩ = some (.slice A (wlimbs z).length c) := (HB.out.cell (p := ⟨w.heap.size, 1, none⟩) (by show w.heap.size < _; omega)).trans K0.out
      have HXA := Lib.hid hxA
      clear hxA hxg hxc
      rw [HXA.out] at k0
      have ux := HD.out.dig j
      have hcu := HR.out.cell at_front
      have hf := HR.out.free j
      have HI2 := Lib.hid (HI.out.next rfl ux)
      have S1 := Lib.hid (HR.out.set j ((r * 10000 + dig (wlimbs z) j) / n))
      rw [set_front] at S1
      have S2 := Lib.hid (HB.out.setCell (p := ⟨w.heap.size + 1 + 1, j, none⟩) (Nat.le_refl _) (.int .i64 ((r * 10000 + dig (wlimbs z) j) / n)))
      have t0 : 0 ≤ r * 10000 + dig (wlimbs z) j := by omega
      have t1 : r * 10000 + dig (wlimbs z) j ≤ 10000000000000000 := by omega
      have q0 : 0 ≤ (r * 10000 + dig (wlimbs z) j) / n := Int.ediv_nonneg (by omega) (by omega)
      have q2 : (r * 10000 + dig (wlimbs z) j) / n < 10000 := Int.ediv_lt_of_lt_mul (by omega) (by omega)
      go_wp2
      go_roundw
      case rel => exact ⟨j, _, _, by omega, by go_num, rfl, HI2, S1, S2⟩
      case measure => simp [intOf]
    | 0, hk, HI, HR =>
      have HE := Lib.hid HI.out.done
      have hl5 : qs.length ≤ 100000 := by rw [HE.out.2.1]; exact hl
      have HL5 := Lib.hid HE.out.2.1
      have hn5 : Nums wr (w.heap.size + 1 + 1) (.slice (some ⟨w.heap.size + 1 + 1, 0, none⟩) (wlimbs z).length (wlimbs z).length) qs := HR.out.nums
      rw [← HL5.out] at hn5
      have HN5 := Lib.hid hn5
      clear hn5
      have hq1 := HB.out.size
      obtain ⟨y0, y1, y2, y3⟩ := XR.out.below HB.out (by omega)
      have hbw : Below w.heap.size w wr := B1.out.trans (HB.out.mono (by omega))
      have x1 : wr.cell? ⟨w.heap.size, 0, none⟩ = some (.bool (wneg z)) := (HB.out.cell (p := ⟨w.heap.size, 0, none⟩) (by show w.heap.size < _; omega)).trans K1.out
      have HQ := Lib.hid (show dv qs * n + r = (z.natAbs : Int) by rw [HE.out.2.2.1]; exact HDV.out)
      rw [← HL5.out]
      by_cases hz : z < 0
      · by_cases hr : 0 < r
        · skip
          rw [wneg_true hz] at x1
          obtain ⟨zq, hzq⟩ : ∃ zq, zq = - dv qs := ⟨_, rfl⟩
          have HV := Lib.hid (div_neg1 (by omega) hz HQ.out hr HE.out.2.2.2.2)
          rw [← hzq] at HV
          have HZ := Lib.hid (show zq = if true then - dv qs else dv qs from hzq)
          have hzl : (wlimbs zq).length ≤ 100000 := by have := zq_len HE.out.1 HZ.out; omega
          clear hzq
          go_wp2_with fail
          (go_at_call 49; refine (trimmed_any true zq HN5.out.holds (by omega) HE.out.1 HZ.out).mono ?_; rintro e w3 ⟨A3, d3, rfl, n3, hb3⟩; have N3 := Lib.hid n3; clear n3; obtain ⟨hc3, hf3⟩ := bcell hb3; have hB3 : Below w.heap.size w w3 := Below.trans (by repeat' (first | (with_reducible exact Below.refl _ _) | (with_reducible assumption) | (with_reducible refine Below.alloc ?_ ?_ _) | (with_reducible refine Below.drew ?_) | (with_reducible refine below_drewN ?_ _) | (with_reducible refine Below.setCell ?_ ?_ _) | go_size)) (hb3.mono (by go_size)); (have hs3 := hb3.size); (try simp at hs3); (try (have hl3 := Nat.lt_of_succ_le hs3)); (first | (have hz3 : w.heap.size < w3.heap.size := by omega) | (have hz3 : w.heap.size ≤ w3.heap.size := by omega)); (try (have hz1_3 : w1.heap.size < w3.heap.size := by omega)); (try (have hz2_3 : w2.heap.size < w3.heap.size := by omega)); (try (have hz4_3 : w4.heap.size < w3.heap.size := by omega)); (try (have hz5_3 : w5.heap.size < w3.heap.size := by omega)); (try (have hzc_3 : wc.heap.size < w3.heap.size := by omega)); (try (have hy1_3 : w.heap.size + 1 < w3.heap.size := by omega)); (try (have hy2_3 : w.heap.size + 2 < w3.heap.size := by omega)); (try (have hy3_3 : w.heap.size + 3 < w3.heap.size := by omega)); (have k3_0 : w3.cell? ⟨w.heap.size, 0, none⟩ = some (.bool true) := by (rw [hb3.cell (by first | (simp; done) | (simp; omega) | omega)]; first | assumption | (simp [go_sem]; done) | (simp [*, go_sem]; done))); (have k3_1 : w3.cell? ⟨w.heap.size + 1, 0, none⟩ = some (.bool false) := by (rw [hb3.cell (by first | (simp; done) | (simp; omega) | omega)]; first | assumption | (simp [go_sem]; done) | (simp [*, go_sem]; done))); (have k3_2 : w3.cell? ⟨w.heap.size + 1, 1, none⟩ = some (.slice none 0 0) := by (rw [hb3.cell (by first | (simp; done) | (simp; omega) | omega)]; first | assumption | (simp [go_sem]; done) | (simp [*, go_sem]; done))); (have k3_3 : w3.frozen? ⟨w.heap.size + 1, 0, none⟩ = false := by (rw [hb3.frozen (by first | (simp; done) | (simp; omega) | omega)]; first | assumption | (simp [go_sem]; done) | (simp [*, go_sem]; done))); (have k3_4 : w3.frozen? ⟨w.heap.size + 1, 1, none⟩ = false := by (rw [hb3.frozen (by first | (simp; done) | (simp; omega) | omega)]; first | assumption | (simp [go_sem]; done) | (simp [*, go_sem]; done))))
          have ho := small_len (n := (-1)) (by omega) (by omega)
          have hw : IntKind.i64.wrap (n - r) = n - r := IntWalk.i64_in _ (by omega)
          have HP := Lib.hid (show zq + -1 = zq - 1 by omega)
          go_wp2_with fail
          go_region_held3 (fun w' => w'.cell? ⟨w3.heap.size, 0, none⟩ = some (.bool (wneg zq)) ∧ w'.cell? ⟨w3.heap.size, 1, none⟩ = some (.slice A3 (wlimbs zq).length d3)) ((first | exact ⟨by with_reducible assumption, by with_reducible assumption⟩ | ((try dsimp only); (repeat' apply And.intro); all_goals (first | (with_reducible assumption) | ((try rw [drew_cell]); (repeat rw [set_far (by omega)]); (with_reducible assumption)) | (go_keep; done) | (simp [go_sem]; done))))) (first | (go_at_call 51; refine (wholeOf_any (-1) (by omega) (by omega) _).mono ?_; rintro e w5 ⟨A5, d5, rfl, n5, hb5⟩; have N5 := Lib.hid n5; clear n5; obtain ⟨hc5, hf5⟩ := bcell hb5; have hB5 : Below w.heap.size w w5 := Below.trans (by repeat' (first | (with_reducible exact Below.refl _ _) | (with_reducible assumption) | (with_reducible refine Below.alloc ?_ ?_ _) | (with_reducible refine Below.drew ?_) | (with_reducible refine below_drewN ?_ _) | (with_reducible refine Below.setCell ?_ ?_ _) | go_size)) (hb5.mono (by go_size)); (have hs5 := hb5.size); (try simp at hs5); (try (have hl5 := Nat.lt_of_succ_le hs5)); (first | (have hz5 : w.heap.size < w5.heap.size := by omega) | (have hz5 : w.heap.size ≤ w5.heap.size := by omega)); (try (have hz1_5 : w1.heap.size < w5.heap.size := by omega)); (try (have hz2_5 : w2.heap.size < w5.heap.size := by omega)); (try (have hz3_5 : w3.heap.size < w5.heap.size := by omega)); (try (have hz4_5 : w4.heap.size < w5.heap.size := by omega)); (try (have hzc_5 : wc.heap.size < w5.heap.size := by omega)); (try (have hy1_5 : w.heap.size + 1 < w5.heap.size := by omega)); (try (have hy2_5 : w.heap.size + 2 < w5.heap.size := by omega)); (try (have hy3_5 : w.heap.size + 3 < w5.heap.size := by omega)); (have k5_0 : w5.cell? ⟨w3.heap.size, 0, none⟩ = some (.bool (wneg zq)) := by (rw [hb5.cell (by first | (simp; done) | (simp; omega) | omega)]; first | assumption | (simp [go_sem]; done) | (simp [*, go_sem]; done))); (have k5_1 : w5.cell? ⟨w3.heap.size, 1, none⟩ = some (.slice A3 (wlimbs zq).length d3) := by (rw [hb5.cell (by first | (simp; done) | (simp; omega) | omega)]; first | assumption | (simp [go_sem]; done) | (simp [*, go_sem]; done))); (have k5_2 : w5.cell? ⟨w.heap.size + 1, 0, none⟩ = some (.bool false) := by (rw [hb5.cell (by first | (simp; done) | (simp; omega) | omega)]; first | assumption | (simp [go_sem]; done) | (simp [*, go_sem]; done))); (have k5_3 : w5.cell? ⟨w.heap.size + 1, 1, none⟩ = some (.slice none 0 0) := by (rw [hb5.cell (by first | (simp; done) | (simp; omega) | omega)]; first | assumption | (simp [go_sem]; done) | (simp [*, go_sem]; done))); (have k5_4 : w5.frozen? ⟨w.heap.size + 1, 0, none⟩ = false := by (rw [hb5.frozen (by first | (simp; done) | (simp; omega) | omega)]; first | assumption | (simp [go_sem]; done) | (simp [*, go_sem]; done))); (have k5_5 : w5.frozen? ⟨w.heap.size + 1, 1, none⟩ = false := by (rw [hb5.frozen (by first | (simp; done) | (simp; omega) | omega)]; first | assumption | (simp [go_sem]; done) | (simp [*, go_sem]; done)))) | (go_at_call 50; refine (addWholes_any zq (-1) ((N3.out.below (by (repeat' (first | (with_reducible exact Below.refl _ _) | (with_reducible assumption) | (with_reducible refine Below.alloc ?_ ?_ _) | (with_reducible refine Below.drew ?_) | (with_reducible refine below_drewN ?_ _) | (with_reducible refine Below.setCell ?_ ?_ _) | go_size)))).below hb5).holds N5.out.holds (by omega) (by omega)).mono ?_; rintro e w6 ⟨A6, d6, rfl, n6, hb6⟩; have N6 := Lib.hid n6; clear n6; obtain ⟨hc6, hf6⟩ := bcell hb6; have hB6 : Below w.heap.size w w6 := Below.trans (by repeat' (first | (with_reducible exact Below.refl _ _) | (with_reducible assumption) | (with_reducible refine Below.alloc ?_ ?_ _) | (with_reducible refine Below.drew ?_) | (with_reducible refine below_drewN ?_ _) | (with_reducible refine Below.setCell ?_ ?_ _) | go_size)) (hb6.mono (by go_size)); (have hs6 := hb6.size); (try simp at hs6); (try (have hl6 := Nat.lt_of_succ_le hs6)); (first | (have hz6 : w.heap.size < w6.heap.size := by omega) | (have hz6 : w.heap.size ≤ w6.heap.size := by omega)); (try (have hz1_6 : w1.heap.size < w6.heap.size := by omega)); (try (have hz2_6 : w2.heap.size < w6.heap.size := by omega)); (try (have hz3_6 : w3.heap.size < w6.heap.size := by omega)); (try (have hz4_6 : w4.heap.size < w6.heap.size := by omega)); (try (have hz5_6 : w5.heap.size < w6.heap.size := by omega)); (try (have hzc_6 : wc.heap.size < w6.heap.size := by omega)); (try (have hy1_6 : w.heap.size + 1 < w6.heap.size := by omega)); (try (have hy2_6 : w.heap.size + 2 < w6.heap.size := by omega)); (try (have hy3_6 : w.heap.size + 3 < w6.heap.size := by omega)); (have k6_0 : w6.cell? ⟨w3.heap.size, 0, none⟩ = some (.bool (wneg zq)) := by (rw [hb6.cell (by first | (simp; done) | (simp; omega) | omega)]; first | assumption | (simp [go_sem]; done) | (simp [*, go_sem]; done))); (have k6_1 : w6.cell? ⟨w3.heap.size, 1, none⟩ = some (.slice A3 (wlimbs zq).length d3) := by (rw [hb6.cell (by first | (simp; done) | (simp; omega) | omega)]; first | assumption | (simp [go_sem]; done) | (simp [*, go_sem]; done))); (have k6_2 : w6.cell? ⟨w.heap.size + 1, 0, none⟩ = some (.bool false) := by (rw [hb6.cell (by first | (simp; done) | (simp; omega) | omega)]; first | assumption | (simp [go_sem]; done) | (simp [*, go_sem]; done))); (have k6_3 : w6.cell? ⟨w.heap.size + 1, 1, none⟩ = some (.slice none 0 0) := by (rw [hb6.cell (by first | (simp; done) | (simp; omega) | omega)]; first | assumption | (simp [go_sem]; done) | (simp [*, go_sem]; done))); (have k6_4 : w6.frozen? ⟨w.heap.size + 1, 0, none⟩ = false := by (rw [hb6.frozen (by first | (simp; done) | (simp; omega) | omega)]; first | assumption | (simp [go_sem]; done) | (simp [*, go_sem]; done))); (have k6_5 : w6.frozen? ⟨w.heap.size + 1, 1, none⟩ = false := by (rw [hb6.frozen (by first | (simp; done) | (simp; omega) | omega)]; first | assumption | (simp [go_sem]; done) | (simp [*, go_sem]; done)))))
          go_wp2
          refine bodyPost_ret (by simp [results, Try.results39, go_sem, *]; try rfl) rfl ?_
          rw [HP.out] at N6 ⊢
          rw [HV.out.1, HV.out.2]
          exact ⟨A6, d6, rfl, ((N6.out.setBelow (by first | omega | (simp; done) | (simp; omega)) _).setBelow (by first | omega | (simp; done) | (simp; omega)) _).mono (by first | omega | (simp; done) | (simp; omega)), by repeat' (first | (with_reducible exact Below.refl _ _) | (with_reducible assumption) | (with_reducible refine Below.alloc ?_ ?_ _) | (with_reducible refine Below.drew ?_) | (with_reducible refine below_drewN ?_ _) | (with_reducible refine Below.setCell ?_ ?_ _) | go_size)⟩
        · have hr : r = 0 := by omega
          rw [wneg_true hz] at x1
          obtain ⟨zq, hzq⟩ : ∃ zq, zq = - dv qs := ⟨_, rfl⟩
          have HV := Lib.hid (div_neg0 (by omega) hz HQ.out hr)
          rw [← hzq] at HV
          have HZ := Lib.hid (show zq = if true then - dv qs else dv qs from hzq)
          have hzl : (wlimbs zq).length ≤ 100000 := by have := zq_len HE.out.1 HZ.out; omega
          clear hzq
          subst hr
          go_wp2_with fail
          (go_at_call 49; refine (trimmed_any true zq HN5.out.holds (by omega) HE.out.1 HZ.out).mono ?_; rintro e w3 ⟨A3, d3, rfl, n3, hb3⟩; have N3 := Lib.hid n3; clear n3; obtain ⟨hc3, hf3⟩ := bcell hb3; have hB3 : Below w.heap.size w w3 := Below.trans (by repeat' (first | (with_reducible exact Below.refl _ _) | (with_reducible assumption) | (with_reducible refine Below.alloc ?_ ?_ _) | (with_reducible refine Below.drew ?_) | (with_reducible refine below_drewN ?_ _) | (with_reducible refine Below.setCell ?_ ?_ _) | go_size)) (hb3.mono (by go_size)); (have hs3 := hb3.size); (try simp at hs3); (try (have hl3 := Nat.lt_of_succ_le hs3)); (first | (have hz3 : w.heap.size < w3.heap.size := by omega) | (have hz3 : w.heap.size ≤ w3.heap.size := by omega)); (try (have hz1_3 : w1.heap.size < w3.heap.size := by omega)); (try (have hz2_3 : w2.heap.size < w3.heap.size := by omega)); (try (have hz4_3 : w4.heap.size < w3.heap.size := by omega)); (try (have hz5_3 : w5.heap.size < w3.heap.size := by omega)); (try (have hzc_3 : wc.heap.size < w3.heap.size := by omega)); (try (have hy1_3 : w.heap.size + 1 < w3.heap.size := by omega)); (try (have hy2_3 : w.heap.size + 2 < w3.heap.size := by omega)); (try (have hy3_3 : w.heap.size + 3 < w3.heap.size := by omega)); (have k3_0 : w3.cell? ⟨w.heap.size, 0, none⟩ = some (.bool true) := by (rw [hb3.cell (by first | (simp; done) | (simp; omega) | omega)]; first | assumption | (simp [go_sem]; done) | (simp [*, go_sem]; done))); (have k3_1 : w3.cell? ⟨w.heap.size + 1, 0, none⟩ = some (.bool false) := by (rw [hb3.cell (by first | (simp; done) | (simp; omega) | omega)]; first | assumption | (simp [go_sem]; done) | (simp [*, go_sem]; done))); (have k3_2 : w3.cell? ⟨w.heap.size + 1, 1, none⟩ = some (.slice none 0 0) := by (rw [hb3.cell (by first | (simp; done) | (simp; omega) | omega)]; first | assumption | (simp [go_sem]; done) | (simp [*, go_sem]; done))); (have k3_3 : w3.frozen? ⟨w.heap.size + 1, 0, none⟩ = false := by (rw [hb3.frozen (by first | (simp; done) | (simp; omega) | omega)]; first | assumption | (simp [go_sem]; done) | (simp [*, go_sem]; done))); (have k3_4 : w3.frozen? ⟨w.heap.size + 1, 1, none⟩ = false := by (rw [hb3.frozen (by first | (simp; done) | (simp; omega) | omega)]; first | assumption | (simp [go_sem]; done) | (simp [*, go_sem]; done))))
          go_wp2
          refine bodyPost_ret (by simp [results, Try.results39, go_sem, *]; try rfl) rfl ?_
          rw [HV.out.1, HV.out.2]
          exact ⟨A3, d3, rfl, (((N3.out.setBelow (a := ⟨w.heap.size + 1, 0, none⟩) (show w.heap.size + 1 < wr.heap.size by omega) (.bool (wneg zq))).setBelow (a := ⟨w.heap.size + 1, 1, none⟩) (show w.heap.size + 1 < wr.heap.size by omega) (.slice A3 (wlimbs zq).length d3)).below (by (repeat' (first | (with_reducible exact Below.refl _ _) | (with_reducible assumption) | (with_reducible refine Below.alloc ?_ ?_ _) | (with_reducible refine Below.drew ?_) | (with_reducible refine below_drewN ?_ _) | (with_reducible refine Below.setCell ?_ ?_ _) | go_size)))).mono (by first | omega | (simp; done) | (simp; omega)), by repeat' (first | (with_reducible exact Below.refl _ _) | (with_reducible assumption) | (with_reducible refine Below.alloc ?_ ?_ _) | (with_reducible refine Below.drew ?_) | (with_reducible refine below_drewN ?_ _) | (with_reducible refine Below.setCell ?_ ?_ _) | go_size)⟩
      · skip
        rw [wneg_false hz] at x1
        obtain ⟨zq, hzq⟩ : ∃ zq, zq = dv qs := ⟨_, rfl⟩
        have HV := Lib.hid (div_pos' (by omega) hz HQ.out HE.out.2.2.2.1 HE.out.2.2.2.2)
        rw [← hzq] at HV
        have HZ := Lib.hid (show zq = if false then - dv qs else dv qs from hzq)
        have hzl : (wlimbs zq).length ≤ 100000 := by have := zq_len HE.out.1 HZ.out; omega
        clear hzq
        go_wp2_with fail
        (go_at_call 49; refine (trimmed_any false zq HN5.out.holds (by omega) HE.out.1 HZ.out).mono ?_; rintro e w3 ⟨A3, d3, rfl, n3, hb3⟩; have N3 := Lib.hid n3; clear n3; obtain ⟨hc3, hf3⟩ := bcell hb3; have hB3 : Below w.heap.size w w3 := Below.trans (by repeat' (first | (with_reducible exact Below.refl _ _) | (with_reducible assumption) | (with_reducible refine Below.alloc ?_ ?_ _) | (with_reducible refine Below.drew ?_) | (with_reducible refine below_drewN ?_ _) | (with_reducible refine Below.setCell ?_ ?_ _) | go_size)) (hb3.mono (by go_size)); (have hs3 := hb3.size); (try simp at hs3); (try (have hl3 := Nat.lt_of_succ_le hs3)); (first | (have hz3 : w.heap.size < w3.heap.size := by omega) | (have hz3 : w.heap.size ≤ w3.heap.size := by omega)); (try (have hz1_3 : w1.heap.size < w3.heap.size := by omega)); (try (have hz2_3 : w2.heap.size < w3.heap.size := by omega)); (try (have hz4_3 : w4.heap.size < w3.heap.size := by omega)); (try (have hz5_3 : w5.heap.size < w3.heap.size := by omega)); (try (have hzc_3 : wc.heap.size < w3.heap.size := by omega)); (try (have hy1_3 : w.heap.size + 1 < w3.heap.size := by omega)); (try (have hy2_3 : w.heap.size + 2 < w3.heap.size := by omega)); (try (have hy3_3 : w.heap.size + 3 < w3.heap.size := by omega)); (have k3_0 : w3.cell? ⟨w.heap.size, 0, none⟩ = some (.bool false) := by (rw [hb3.cell (by first | (simp; done) | (simp; omega) | omega)]; first | assumption | (simp [go_sem]; done) | (simp [*, go_sem]; done))); (have k3_1 : w3.cell? ⟨w.heap.size + 1, 0, none⟩ = some (.bool false) := by (rw [hb3.cell (by first | (simp; done) | (simp; omega) | omega)]; first | assumption | (simp [go_sem]; done) | (simp [*, go_sem]; done))); (have k3_2 : w3.cell? ⟨w.heap.size + 1, 1, none⟩ = some (.slice none 0 0) := by (rw [hb3.cell (by first | (simp; done) | (simp; omega) | omega)]; first | assumption | (simp [go_sem]; done) | (simp [*, go_sem]; done))); (have k3_3 : w3.frozen? ⟨w.heap.size + 1, 0, none⟩ = false := by (rw [hb3.frozen (by first | (simp; done) | (simp; omega) | omega)]; first | assumption | (simp [go_sem]; done) | (simp [*, go_sem]; done))); (have k3_4 : w3.frozen? ⟨w.heap.size + 1, 1, none⟩ = false := by (rw [hb3.frozen (by first | (simp; done) | (simp; omega) | omega)]; first | assumption | (simp [go_sem]; done) | (simp [*, go_sem]; done))))
        go_wp2
        refine bodyPost_ret (by simp [results, Try.results39, go_sem, *]; try rfl) rfl ?_
        rw [HV.out.1, HV.out.2]
        exact ⟨A3, d3, rfl, (((N3.out.setBelow (a := ⟨w.heap.size + 1, 0, none⟩) (show w.heap.size + 1 < wr.heap.size by omega) (.bool (wneg zq))).setBelow (a := ⟨w.heap.size + 1, 1, none⟩) (show w.heap.size + 1 < wr.heap.size by omega) (.slice A3 (wlimbs zq).length d3)).below (by (repeat' (first | (with_reducible exact Below.refl _ _) | (with_reducible assumption) | (with_reducible refine Below.alloc ?_ ?_ _) | (with_reducible refine Below.drew ?_) | (with_reducible refine below_drewN ?_ _) | (with_reducible refine Below.setCell ?_ ?_ _) | go_size)))).mono (by first | omega | (simp; done) | (simp; omega)), by repeat' (first | (with_reducible exact Below.refl _ _) | (with_reducible assumption) | (with_reducible refine Below.alloc ?_ ?_ _) | (with_reducible refine Below.drew ?_) | (with_reducible refine below_drewN ?_ _) | (with_reducible refine Below.setCell ?_ ?_ _) | go_size)⟩
end Go.Proofs.Ytcplelcblfjpoaa
