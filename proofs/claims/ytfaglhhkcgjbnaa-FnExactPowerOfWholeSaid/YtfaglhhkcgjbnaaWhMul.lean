/- Contract of impl.mulWholes. -/
import Derived.Test.YtfaglhhkcgjbnaaWhMulL
namespace Go.Proofs.Ytfaglhhkcgjbnaa
open Go.RowKit
set_option linter.unusedVariables false
set_option linter.unusedSimpArgs false
set_option maxHeartbeats 8000000 in
theorem mulWholes_any (y z : Int) {A A' : Option Addr} {cy cz : Nat} {w : World} (h : Holds w (.slice A (wlimbs y).length cy) (wlimbs y)) (h' : Holds w (.slice A' (wlimbs z).length cz) (wlimbs z)) (hl : (wlimbs y).length ≤ 100000) (hl' : (wlimbs z).length ≤ 100000) :
    Calls Try.prog 78 #[.agg #[.bool (wneg y), .slice A (wlimbs y).length cy], .agg #[.bool (wneg z), .slice A' (wlimbs z).length cz]] w fun e w' => ∃ A c, e = .returned (.agg #[.bool (wneg (y * z)), .slice A (wlimbs (y * z)).length c]) ∧ Nums w' w.heap.size (.slice A (wlimbs (y * z)).length c) (wlimbs (y * z)) ∧ Below w.heap.size w w' := by
  obtain ⟨i0, hi, hz0, hz1, hz2⟩ := info_parts infoInt
  have HC := Lib.hid h.cells
  have HC' := Lib.hid h'.cells
  clear h h'
  obtain ⟨n, hn, n2⟩ : ∃ n : Nat, ((n : Nat) : Int) = ((wlimbs y).length : Int) + ((wlimbs z).length : Int) + 1 ∧ n ≤ 200001 := ⟨(wlimbs y).length + (wlimbs z).length + 1, by omega, by omega⟩
  have n1 : (wlimbs y).length + (wlimbs z).length < n := by omega
  have HN := Lib.hid hn
  clear hn
  have HD := Lib.hid (wlimbs_Dig y)
  have HD' := Lib.hid (wlimbs_Dig z)
  go_enter Try.func78, Try.ntmps78
  go_wp2_with (at_make; refine wpList_make_full _ rfl _ _ 22 rfl (w.heap.size + 1 + 1 + 1) 3 i0 (.int .i64 0) 1 underInts hi hz0 hz1 .i64 .i64 _ _ n rfl rfl (by have := HN.out; omega) (by have := HN.out; omega) (by rw [hz2]; omega) (by unfold maxLen; omega) (by simp) ?_; intro w1 hown hgrow; have k1_0 : w1.cell? ⟨w.heap.size, 1, none⟩ = some (.slice A (wlimbs y).length cy) := hgrow.cell (by simp [go_sem]) (by simp); have k1_1 : w1.cell? ⟨w.heap.size, 0, none⟩ = some (.bool (wneg y)) := hgrow.cell (by simp [go_sem]) (by simp); have k1_2 : w1.cell? ⟨w.heap.size + 1, 1, none⟩ = some (.slice A' (wlimbs z).length cz) := hgrow.cell (by simp [go_sem]) (by simp); have k1_3 : w1.cell? ⟨w.heap.size + 1, 0, none⟩ = some (.bool (wneg z)) := hgrow.cell (by simp [go_sem]) (by simp))
  simp only [World.size_alloc] at hown
  have R1 := Lib.hid (row_made hown)
  have hb1 := (Below.refl (w.heap.size + 1 + 1 + 1) _).grown hgrow (by simp) (fun k h => by cases h)
  have b1 : Below w.heap.size w w1 := Below.trans (by repeat' (first | (with_reducible exact Below.refl _ _) | (with_reducible assumption) | (with_reducible refine Below.alloc ?_ ?_ _) | (with_reducible refine Below.drew ?_) | (with_reducible refine below_drewN ?_ _) | (with_reducible refine Below.setCell ?_ ?_ _) | go_size)) (hb1.mono (by omega))
  have XR := Lib.hid (show BoxAt w1 (w.heap.size + 1 + 1) (.bool false) (.slice none 0 0) from ⟨(hb1.cell (by simp)).trans (by simp [go_sem]), (hb1.cell (by simp)).trans (by simp [go_sem]), (hb1.frozen (by simp)).trans (by simp [go_sem]), (hb1.frozen (by simp)).trans (by simp [go_sem])⟩)
  have K0 := Lib.hid k1_0
  have K1 := Lib.hid k1_1
  have K2 := Lib.hid k1_2
  have K3 := Lib.hid k1_3
  have B1 := Lib.hid b1
  have q1 : w.heap.size + 1 + 1 + 1 < w1.heap.size := by have := R1.out.lt.2; omega
  clear hown hgrow hb1 b1 k1_0 k1_1 k1_2 k1_3
  go_loopw [23] (fun t wr => ∃ (i : Nat) (ds : List Int), i ≤ (wlimbs y).length ∧ t = .int .i64 i ∧ Hid (MulOut (wlimbs y) (wlimbs z) ds n i) ∧ Hid (Row wr (w.heap.size + 1 + 1 + 1) (w.heap.size + 1 + 1 + 1) n n ds) ∧ Hid (Below (w.heap.size + 1 + 1 + 1) w1 wr)) (fun t _ => (wlimbs y).length - (intOf t).toNat)
  case atStart => exact ⟨0, _, by omega, rfl, MulOut.start _ _ _, R1, Below.refl _ _⟩
  case round =>
    obtain ⟨i, ds, hin, rfl, HO, HR, HB⟩ := hrel
    have hgs := HR.out.lt.2
    by_cases hlt : i < (wlimbs y).length
    · obtain ⟨gx, hxA, hxg, hxc⟩ := HC.out i hlt
      have hcx : wr.cell? ⟨gx, i, none⟩ = some (.int .i64 (dig (wlimbs y) i)) := (HB.out.cell (by show gx < _; omega)).trans ((B1.out.cell hxg).trans hxc)
      subst hxA
      clear hxg hxc
      have b0 : (0 : Int) ≤ (i : Int) := by omega
      have b2 : (i : Int) < ((wlimbs y).length : Int) := by omega
      have ux := HD.out.dig i
      have HI0 := Lib.hid (MulIn.start HO.out (dig (wlimbs y) i))
      go_wp2
      go_loopw [8, 9] (fun cy t ws => ∃ (k : Nat) (c : Int) (es : List Int), i ≤ k ∧ k ≤ n ∧ t = .int .i64 k ∧ cy = .int .i64 c ∧ Hid (MulIn (wlimbs y) (wlimbs z) es n i k (dig (wlimbs y) i) c) ∧ Hid (Row ws (w.heap.size + 1 + 1 + 1) (w.heap.size + 1 + 1 + 1) n n es) ∧ Hid (Below (w.heap.size + 1 + 1 + 1) w1 ws)) (fun _ t _ => n - (intOf t).toNat)
      case atStart => exact ⟨i, 0, _, by omega, by omega, rfl, rfl, HI0, HR, HB⟩
      case round =>
        obtain ⟨k, c, es, hik, hkn, rfl, rfl, HI, HS, HT⟩ := hrel
        have hgt := HS.out.lt.2
        have c0 := HI.out.2.2.1
        have c1 := HI.out.2.2.2.1
        have d0 : (0 : Int) ≤ (k : Int) := by omega
        have d1 : (i : Int) ≤ (k : Int) := by omega
        by_cases hk : k < n
        · have d2 : (k : Int) < (n : Int) := by omega
          have he : k < es.length := by rw [HI.out.1]; exact hk
          have hu : es[k]? = some (dig es k) := by have := List.getElem?_eq_getElem he; rw [this, dig_some this]
          have hcu := HS.out.cell hu
          have hf := HS.out.free k
          have uu := HI.out.2.1.dig k
          have k2 : wr.cell? ⟨w.heap.size + 1, 1, none⟩ = some (.slice A' (wlimbs z).length cz) := (HT.out.cell (p := ⟨w.heap.size + 1, 1, none⟩) (by show w.heap.size + 1 < _; omega)).trans K2.out
          clear hu he
          by_cases hv : k - i < (wlimbs z).length
          · obtain ⟨gy, hyA, hyg, hyc⟩ := HC'.out (k - i) hv
            have hcy : wr.cell? ⟨gy, k - i, none⟩ = some (.int .i64 (dig (wlimbs z) (k - i))) := (HT.out.cell (by show gy < _; omega)).trans ((B1.out.cell hyg).trans hyc)
            have HYA := Lib.hid hyA
            clear hyA hyg hyc
            rw [HYA.out] at k2
            have uv := HD'.out.dig (k - i)
            have pm := dig_mul ux uv
            have d3 : (k : Int) - (i : Int) < ((wlimbs z).length : Int) := by omega
            have d4 : (0 : Int) ≤ (k : Int) - (i : Int) := by omega
            have HS2 := Lib.hid (HI.out.next hik hk (t := dig es k + c + dig (wlimbs y) i * dig (wlimbs z) (k - i)) (by rw [if_pos hv]) (by omega) (by omega))
            have S1 := Lib.hid (HS.out.set k ((dig es k + c + dig (wlimbs y) i * dig (wlimbs z) (k - i)) % 10000))
            have S2 := Lib.hid (HT.out.setCell (p := ⟨w.heap.size + 1 + 1 + 1, k, none⟩) (Nat.le_refl _) (.int .i64 ((dig es k + c + dig (wlimbs y) i * dig (wlimbs z) (k - i)) % 10000)))
            go_wp2
            go_roundw
            case rel => exact ⟨k + 1, _, _, by omega, by omega, by go_num, rfl, HS2, S1, S2⟩
            case measure => simp [intOf]; omega
          · have d3 : ((wlimbs z).length : Int) ≤ (k : Int) - (i : Int) := by omega
            have HS2 := Lib.hid (HI.out.next hik hk (t := dig es k + c) (by rw [if_neg hv]; omega) (by omega) (by omega))
            have S1 := Lib.hid (HS.out.set k ((dig es k + c) % 10000))
            have S2 := Lib.hid (HT.out.setCell (p := ⟨w.heap.size + 1 + 1 + 1, k, none⟩) (Nat.le_refl _) (.int .i64 ((dig es k + c) % 10000)))
            go_wp2
            go_roundw
            case rel => exact ⟨k + 1, _, _, by omega, by omega, by go_num, rfl, HS2, S1, S2⟩
            case measure => simp [intOf]; omega
        · have HO2 := Lib.hid (HI.out.done HD.out HD'.out (by omega) hlt rfl (by omega))
          go_wp2
          go_roundw
          case rel => exact ⟨i + 1, _, by omega, by go_num, HO2, HS, HT⟩
          case measure => simp [intOf]; omega
    · have HE := Lib.hid (HO.out.done (by omega))
      have HZ := Lib.hid (mul_signed y z HE.out.2.2)
      have hl3 : ds.length ≤ 1048576 := by have := HE.out.2.1; omega
      have hn5 := HR.out.nums
      rw [← HE.out.2.1] at hn5
      have HN5 := Lib.hid hn5
      clear hn5
      have hq1 := HB.out.size
      have x1 : wr.cell? ⟨w.heap.size, 0, none⟩ = some (.bool (wneg y)) := (HB.out.cell (p := ⟨w.heap.size, 0, none⟩) (by show w.heap.size < _; omega)).trans K1.out
      have x3 : wr.cell? ⟨w.heap.size + 1, 0, none⟩ = some (.bool (wneg z)) := (HB.out.cell (p := ⟨w.heap.size + 1, 0, none⟩) (by show w.heap.size + 1 < _; omega)).trans K3.out
      obtain ⟨y0, y1, y2, y3⟩ := XR.out.below HB.out (by omega)
      have hbw : Below w.heap.size w wr := B1.out.trans (HB.out.mono (by omega))
      have HL5 := Lib.hid HE.out.2.1
      rw [← HL5.out]
      go_wp2_with (go_at_call 94; refine (trimmed_any (wneg y != wneg z) (y * z) HN5.out.holds hl3 HE.out.1 HZ.out).mono ?_; rintro e w2 ⟨A2, d2, rfl, n2, hb2⟩; have N2 := Lib.hid n2; clear n2; obtain ⟨hc2, hf2⟩ := bcell hb2; have hB2 : Below w.heap.size w w2 := Below.trans (by repeat' (first | (with_reducible exact Below.refl _ _) | (with_reducible assumption) | (with_reducible refine Below.alloc ?_ ?_ _) | (with_reducible refine Below.drew ?_) | (with_reducible refine below_drewN ?_ _) | (with_reducible refine Below.setCell ?_ ?_ _) | go_size)) (hb2.mono (by go_size)); (have hs2 := hb2.size); (try simp at hs2); (try (have hl2 := Nat.lt_of_succ_le hs2)); (first | (have hz2 : w.heap.size < w2.heap.size := by omega) | (have hz2 : w.heap.size ≤ w2.heap.size := by omega)); (try (have hz1_2 : w1.heap.size < w2.heap.size := by omega)); (try (have hz3_2 : w3.heap.size < w2.heap.size := by omega)); (try (have hz4_2 : w4.heap.size < w2.heap.size := by omega)); (try (have hz5_2 : w5.heap.size < w2.heap.size := by omega)); (try (have hzc_2 : wc.heap.size < w2.heap.size := by omega)); (try (have hy1_2 : w.heap.size + 1 < w2.heap.size := by omega)); (try (have hy2_2 : w.heap.size + 2 < w2.heap.size := by omega)); (try (have hy3_2 : w.heap.size + 3 < w2.heap.size := by omega)); (have k2_0 : w2.cell? ⟨w.heap.size + 1 + 1, 0, none⟩ = some (.bool false) := by (rw [hb2.cell (by first | (simp; done) | (simp; omega) | omega)]; first | assumption | (simp [go_sem]; done) | (simp [*, go_sem]; done))); (have k2_1 : w2.cell? ⟨w.heap.size + 1 + 1, 1, none⟩ = some (.slice none 0 0) := by (rw [hb2.cell (by first | (simp; done) | (simp; omega) | omega)]; first | assumption | (simp [go_sem]; done) | (simp [*, go_sem]; done))); (have k2_2 : w2.frozen? ⟨w.heap.size + 1 + 1, 0, none⟩ = false := by (rw [hb2.frozen (by first | (simp; done) | (simp; omega) | omega)]; first | assumption | (simp [go_sem]; done) | (simp [*, go_sem]; done))); (have k2_3 : w2.frozen? ⟨w.heap.size + 1 + 1, 1, none⟩ = false := by (rw [hb2.frozen (by first | (simp; done) | (simp; omega) | omega)]; first | assumption | (simp [go_sem]; done) | (simp [*, go_sem]; done))))
      refine bodyPost_ret (by simp [results, Try.results78, go_sem, *]; try rfl) rfl ?_
      exact ⟨A2, d2, rfl, ((N2.out.setBelow (by first | omega | (simp; done) | (simp; omega)) _).setBelow (by first | omega | (simp; done) | (simp; omega)) _).mono (by first | omega | (simp; done) | (simp; omega)), by repeat' (first | (with_reducible exact Below.refl _ _) | (with_reducible assumption) | (with_reducible refine Below.alloc ?_ ?_ _) | (with_reducible refine Below.drew ?_) | (with_reducible refine below_drewN ?_ _) | (with_reducible refine Below.setCell ?_ ?_ _) | go_size)⟩
end Go.Proofs.Ytfaglhhkcgjbnaa
