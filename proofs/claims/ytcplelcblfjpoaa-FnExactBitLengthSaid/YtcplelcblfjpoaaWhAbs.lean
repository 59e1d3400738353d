/- impl.absolute. -/
import Derived.Test.YtcplelcblfjpoaaWhMake
import Derived.Test.YtcplelcblfjpoaaWhOf
import Derived.Test.YtcplelcblfjpoaaAbs
namespace Go.Proofs.Ytcplelcblfjpoaa
open Go.RowKit
set_option linter.unusedVariables false
set_option linter.unusedSimpArgs false
theorem wlimbs_abs (z : Int) : wlimbs (absI z) = wlimbs z := by unfold wlimbs absI; simp
theorem wneg_abs (z : Int) : wneg (absI z) = false := by unfold wneg absI; simp
theorem absolute_any (z : Int) {b : Bool} {A : Option Addr} {c : Nat} {w : World} (h : Holds w (.slice A (wlimbs z).length c) (wlimbs z)) (hl : (wlimbs z).length ≤ 1048576) :
    Calls Try.prog 40 #[.agg #[.bool b, .slice A (wlimbs z).length c]] w fun e w' => ∃ A c, e = .returned (.agg #[.bool (wneg (absI z)), .slice A (wlimbs (absI z)).length c]) ∧ Nums w' w.heap.size (.slice A (wlimbs (absI z)).length c) (wlimbs (absI z)) ∧ Below w.heap.size w w' := by
  have H := Lib.hid h
  have HZ : Hid (absI z = if false = true then - dv (wlimbs z) else dv (wlimbs z)) := by
    show _ = _
    rw [dv_wlimbs]
    simp [absI]
  clear h
  go_enter Try.func40, Try.ntmps40
  go_wp2_with (go_at_call 49; refine (trimmed_any false (absI z) (H.out.below (by (repeat' (first | (with_reducible exact Below.refl _ _) | (with_reducible assumption) | (with_reducible refine Below.alloc ?_ ?_ _) | (with_reducible refine Below.drew ?_) | (with_reducible refine below_drewN ?_ _) | (with_reducible refine Below.setCell ?_ ?_ _) | go_size)))) hl (wlimbs_Dig z) HZ.out).mono ?_; rintro e w2 ⟨A2, d2, rfl, n2, hb2⟩; have N2 := Lib.hid n2; clear n2; obtain ⟨hc2, hf2⟩ := bcell hb2; have hB2 : Below w.heap.size w w2 := Below.trans (by repeat' (first | (with_reducible exact Below.refl _ _) | (with_reducible assumption) | (with_reducible refine Below.alloc ?_ ?_ _) | (with_reducible refine Below.drew ?_) | (with_reducible refine below_drewN ?_ _) | (with_reducible refine Below.setCell ?_ ?_ _) | go_size)) (hb2.mono (by go_size)); (have hs2 := hb2.size); (try simp at hs2); (try (have hl2 := Nat.lt_of_succ_le hs2)); (first | (have hz2 : w.heap.size < w2.heap.size := by omega) | (have hz2 : w.heap.size ≤ w2.heap.size := by omega)); (try (have hz1_2 : w1.heap.size < w2.heap.size := by omega)); (try (have hz3_2 : w3.heap.size < w2.heap.size := by omega)); (try (have hz4_2 : w4.heap.size < w2.heap.size := by omega)); (try (have hz5_2 : w5.heap.size < w2.heap.size := by omega)); (try (have hzc_2 : wc.heap.size < w2.heap.size := by omega)); (try (have hy1_2 : w.heap.size + 1 < w2.heap.size := by omega)); (try (have hy2_2 : w.heap.size + 2 < w2.heap.size := by omega)); (try (have hy3_2 : w.heap.size + 3 < w2.heap.size := by omega)); (have k2_0 : w2.cell? ⟨w.heap.size + 1, 0, none⟩ = some (.bool false) := by (rw [hb2.cell (by first | (simp; done) | (simp; omega) | omega)]; first | assumption | (simp [go_sem]; done) | (simp [*, go_sem]; done))); (have k2_1 : w2.cell? ⟨w.heap.size + 1, 1, none⟩ = some (.slice none 0 0) := by (rw [hb2.cell (by first | (simp; done) | (simp; omega) | omega)]; first | assumption | (simp [go_sem]; done) | (simp [*, go_sem]; done))); (have k2_2 : w2.frozen? ⟨w.heap.size + 1, 0, none⟩ = false := by (rw [hb2.frozen (by first | (simp; done) | (simp; omega) | omega)]; first | assumption | (simp [go_sem]; done) | (simp [*, go_sem]; done))); (have k2_3 : w2.frozen? ⟨w.heap.size + 1, 1, none⟩ = false := by (rw [hb2.frozen (by first | (simp; done) | (simp; omega) | omega)]; first | assumption | (simp [go_sem]; done) | (simp [*, go_sem]; done))))
  refine bodyPost_ret (by simp [results, Try.results40, go_sem, *]; try rfl) rfl ?_
  exact ⟨A2, d2, rfl, ((N2.out.setBelow (by first | omega | (simp; done) | (simp; omega)) _).setBelow (by first | omega | (simp; done) | (simp; omega)) _).mono (by first | omega | (simp; done) | (simp; omega)), by repeat' (first | (with_reducible exact Below.refl _ _) | (with_reducible assumption) | (with_reducible refine Below.alloc ?_ ?_ _) | (with_reducible refine Below.drew ?_) | (with_reducible refine below_drewN ?_ _) | (with_reducible refine Below.setCell ?_ ?_ _) | go_size)⟩
end Go.Proofs.Ytcplelcblfjpoaa
