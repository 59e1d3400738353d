/- impl.WholeText and spec.WholeText; the walk of FnExactWholeText. -/
import Derived.Test.YtklhmaegpejdbaaDoorWtS
import Derived.Test.YtklhmaegpejdbaaDoorWhKit
namespace Go.Proofs.YtklhmaegpejdbaaDoor.Wt
open Go.RowKit
set_option linter.unusedVariables false
set_option linter.unusedSimpArgs false
set_option maxRecDepth 100000
def res (b0 : Bool) (x0 : List Int) : ByteArray := if goodB b0 x0 = true then bsOf (wtL b0 x0) else ⟨#[]⟩
set_option maxHeartbeats 8000000 in
theorem impl_any (b0 : Bool) {P : Option Addr} {c : Nat} {x0 : List Int} {w : World} (h0 : Holds w (.slice P x0.length c) x0) (l0 : x0.length ≤ 1048576) (ht : Tab w) :
    Calls Tryd.prog 17 #[.agg #[.bool b0, .slice P x0.length c]] w fun e w' => e = .returned (.tuple #[.string (res b0 x0), .bool (goodB b0 x0)]) ∧ Below w.heap.size w w' := by
  have H := Lib.hid h0
  clear h0
  have HT := Lib.hid ht
  clear ht
  rcases Bool.eq_false_or_eq_true (goodB b0 x0) with hp | hp
  · obtain ⟨g1, g2, g3⟩ := good_parts hp
    have G2 := Lib.hid g2
    have G3 := Lib.hid g3
    clear g2 g3
    obtain ⟨r, HR⟩ : ∃ r, Hid (bsOf (wtL b0 x0) = r) := ⟨_, Lib.hid rfl⟩
    have HRR := Lib.hid (show res b0 x0 = r by unfold res; rw [if_pos hp]; exact HR.out)
    have HG : Hid (∀ w', Below w.heap.size w w' → Calls Tryd.prog 48 #[.agg #[.bool b0, .slice P x0.length c]] w' fun e w2 => e = .returned (.bool true) ∧ Below w'.heap.size w' w2) := Lib.hid (fun w' hb => by rw [← hp]; exact isWhole_any b0 (H.out.below hb) l0)
    have HX : Hid (∀ w', Below w.heap.size w w' → Calls Tryd.prog 49 #[.agg #[.bool b0, .slice P x0.length c]] w' fun e w2 => e = .returned (.string r) ∧ Below w'.heap.size w' w2) := Lib.hid (fun w' hb => by rw [← HR.out]; exact wholeText_any b0 (H.out.below hb) l0 G2.out G3.out (HT.out.below hb))
    rw [HRR.out, hp]
    clear hp HRR HR
    go_enter Tryd.func17, Tryd.ntmps17
    go_wp2_with fail
    (go_at_call 48; refine (HG.out _ (by (repeat' (first | (with_reducible exact Below.refl _ _) | (with_reducible assumption) | (with_reducible refine Below.alloc ?_ ?_ _) | (with_reducible refine Below.drew ?_) | (with_reducible refine below_drewN ?_ _) | (with_reducible refine Below.setCell ?_ ?_ _) | go_size)))).mono ?_; rintro e w1 ⟨rfl, hb1⟩; obtain ⟨hc1, hf1⟩ := bcell hb1; have hB1 : Below w.heap.size w w1 := Below.trans (by repeat' (first | (with_reducible exact Below.refl _ _) | (with_reducible assumption) | (with_reducible refine Below.alloc ?_ ?_ _) | (with_reducible refine Below.drew ?_) | (with_reducible refine below_drewN ?_ _) | (with_reducible refine Below.setCell ?_ ?_ _) | go_size)) (hb1.mono (by go_size)); (have hs1 := hb1.size); (try simp at hs1); (try (have hl1 := Nat.lt_of_succ_le hs1)); (first | (have hz1 : w.heap.size < w1.heap.size := by omega) | (have hz1 : w.heap.size ≤ w1.heap.size := by omega)); (try (have hz2_1 : w2.heap.size < w1.heap.size := by omega)); (try (have hz3_1 : w3.heap.size < w1.heap.size := by omega)); (try (have hz4_1 : w4.heap.size < w1.heap.size := by omega)); (try (have hz5_1 : w5.heap.size < w1.heap.size := by omega)); (try (have hzc_1 : wc.heap.size < w1.heap.size := by omega)); (try (have hy1_1 : w.heap.size + 1 < w1.heap.size := by omega)); (try (have hy2_1 : w.heap.size + 2 < w1.heap.size := by omega)); (try (have hy3_1 : w.heap.size + 3 < w1.heap.size := by omega)); (have k1_0 : w1.cell? ⟨w.heap.size, 0, none⟩ = some (.bool b0) := by (rw [hb1.cell (by first | (simp; done) | (simp; omega) | omega)]; first | assumption | (simp [go_sem]; done) | (simp [*, go_sem]; done))); (have k1_1 : w1.cell? ⟨w.heap.size, 1, none⟩ = some (.slice P x0.length c) := by (rw [hb1.cell (by first | (simp; done) | (simp; omega) | omega)]; first | assumption | (simp [go_sem]; done) | (simp [*, go_sem]; done))))
    go_wp2_with fail
    (go_at_call 49; refine (HX.out _ (by (repeat' (first | (with_reducible exact Below.refl _ _) | (with_reducible assumption) | (with_reducible refine Below.alloc ?_ ?_ _) | (with_reducible refine Below.drew ?_) | (with_reducible refine below_drewN ?_ _) | (with_reducible refine Below.setCell ?_ ?_ _) | go_size)))).mono ?_; rintro e w3 ⟨rfl, hb3⟩; obtain ⟨hc3, hf3⟩ := bcell hb3; have hB3 : Below w.heap.size w w3 := Below.trans (by repeat' (first | (with_reducible exact Below.refl _ _) | (with_reducible assumption) | (with_reducible refine Below.alloc ?_ ?_ _) | (with_reducible refine Below.drew ?_) | (with_reducible refine below_drewN ?_ _) | (with_reducible refine Below.setCell ?_ ?_ _) | go_size)) (hb3.mono (by go_size)); (have hs3 := hb3.size); (try simp at hs3); (try (have hl3 := Nat.lt_of_succ_le hs3)); (first | (have hz3 : w.heap.size < w3.heap.size := by omega) | (have hz3 : w.heap.size ≤ w3.heap.size := by omega)); (try (have hz1_3 : w1.heap.size < w3.heap.size := by omega)); (try (have hz2_3 : w2.heap.size < w3.heap.size := by omega)); (try (have hz4_3 : w4.heap.size < w3.heap.size := by omega)); (try (have hz5_3 : w5.heap.size < w3.heap.size := by omega)); (try (have hzc_3 : wc.heap.size < w3.heap.size := by omega)); (try (have hy1_3 : w.heap.size + 1 < w3.heap.size := by omega)); (try (have hy2_3 : w.heap.size + 2 < w3.heap.size := by omega)); (try (have hy3_3 : w.heap.size + 3 < w3.heap.size := by omega)))
    go_wp2
    go_ret2
    exact ⟨rfl, by repeat' (first | (with_reducible exact Below.refl _ _) | (with_reducible assumption) | (with_reducible refine Below.alloc ?_ ?_ _) | (with_reducible refine Below.drew ?_) | (with_reducible refine below_drewN ?_ _) | (with_reducible refine Below.setCell ?_ ?_ _) | go_size)⟩
  · have HR := Lib.hid (show res b0 x0 = ⟨#[]⟩ by unfold res; rw [hp]; rfl)
    have HP := Lib.hid hp
    rw [HR.out, hp]
    go_enter Tryd.func17, Tryd.ntmps17
    go_wp2_with fail
    (go_at_call 48; refine (isWhole_any b0 (H.out.below (by (repeat' (first | (with_reducible exact Below.refl _ _) | (with_reducible assumption) | (with_reducible refine Below.alloc ?_ ?_ _) | (with_reducible refine Below.drew ?_) | (with_reducible refine below_drewN ?_ _) | (with_reducible refine Below.setCell ?_ ?_ _) | go_size)))) l0).mono ?_; rintro e w1 ⟨rfl, hb1⟩; obtain ⟨hc1, hf1⟩ := bcell hb1; have hB1 : Below w.heap.size w w1 := Below.trans (by repeat' (first | (with_reducible exact Below.refl _ _) | (with_reducible assumption) | (with_reducible refine Below.alloc ?_ ?_ _) | (with_reducible refine Below.drew ?_) | (with_reducible refine below_drewN ?_ _) | (with_reducible refine Below.setCell ?_ ?_ _) | go_size)) (hb1.mono (by go_size)); (have hs1 := hb1.size); (try simp at hs1); (try (have hl1 := Nat.lt_of_succ_le hs1)); (first | (have hz1 : w.heap.size < w1.heap.size := by omega) | (have hz1 : w.heap.size ≤ w1.heap.size := by omega)); (try (have hz2_1 : w2.heap.size < w1.heap.size := by omega)); (try (have hz3_1 : w3.heap.size < w1.heap.size := by omega)); (try (have hz4_1 : w4.heap.size < w1.heap.size := by omega)); (try (have hz5_1 : w5.heap.size < w1.heap.size := by omega)); (try (have hzc_1 : wc.heap.size < w1.heap.size := by omega)); (try (have hy1_1 : w.heap.size + 1 < w1.heap.size := by omega)); (try (have hy2_1 : w.heap.size + 2 < w1.heap.size := by omega)); (try (have hy3_1 : w.heap.size + 3 < w1.heap.size := by omega)); (have k1_0 : w1.cell? ⟨w.heap.size, 0, none⟩ = some (.bool b0) := by (rw [hb1.cell (by first | (simp; done) | (simp; omega) | omega)]; first | assumption | (simp [go_sem]; done) | (simp [*, go_sem]; done))); (have k1_1 : w1.cell? ⟨w.heap.size, 1, none⟩ = some (.slice P x0.length c) := by (rw [hb1.cell (by first | (simp; done) | (simp; omega) | omega)]; first | assumption | (simp [go_sem]; done) | (simp [*, go_sem]; done))))
    go_wp2
    go_ret2
    exact ⟨rfl, by repeat' (first | (with_reducible exact Below.refl _ _) | (with_reducible assumption) | (with_reducible refine Below.alloc ?_ ?_ _) | (with_reducible refine Below.drew ?_) | (with_reducible refine below_drewN ?_ _) | (with_reducible refine Below.setCell ?_ ?_ _) | go_size)⟩
set_option maxHeartbeats 8000000 in
theorem spec_any (b0 : Bool) {P : Option Addr} {c : Nat} {x0 : List Int} {w : World} (h0 : Holds w (.slice P x0.length c) x0) (l0 : x0.length ≤ 1048576) :
    Calls Tryd.prog 15 #[.agg #[.bool b0, .slice P x0.length c]] w fun e w' => e = .returned (.tuple #[.string (res b0 x0), .bool (goodB b0 x0)]) ∧ Below w.heap.size w w' := by
  have H := Lib.hid h0
  clear h0
  rcases Bool.eq_false_or_eq_true (goodB b0 x0) with hp | hp
  · obtain ⟨g1, g2, g3⟩ := good_parts hp
    have G2 := Lib.hid g2
    have G3 := Lib.hid g3
    clear g2 g3
    obtain ⟨r, HR⟩ : ∃ r, Hid (bsOf (wtL b0 x0) = r) := ⟨_, Lib.hid rfl⟩
    have HRR := Lib.hid (show res b0 x0 = r by unfold res; rw [if_pos hp]; exact HR.out)
    have HG : Hid (∀ w', Below w.heap.size w w' → Calls Tryd.prog 54 #[.agg #[.bool b0, .slice P x0.length c]] w' fun e w2 => e = .returned (.bool true) ∧ Below w'.heap.size w' w2) := Lib.hid (fun w' hb => by rw [← hp]; exact bgGood_any b0 (H.out.below hb) l0)
    have HX : Hid (∀ w', Below w.heap.size w w' → Calls Tryd.prog 46 #[.agg #[.bool b0, .slice P x0.length c]] w' fun e w2 => e = .returned (.string r) ∧ Below w'.heap.size w' w2) := Lib.hid (fun w' hb => by rw [← HR.out]; exact bgText_any b0 (H.out.below hb) l0 G2.out G3.out)
    rw [HRR.out, hp]
    clear hp HRR HR
    go_enter Tryd.func15, Tryd.ntmps15
    go_wp2_with fail
    (go_at_call 54; refine (HG.out _ (by (repeat' (first | (with_reducible exact Below.refl _ _) | (with_reducible assumption) | (with_reducible refine Below.alloc ?_ ?_ _) | (with_reducible refine Below.drew ?_) | (with_reducible refine below_drewN ?_ _) | (with_reducible refine Below.setCell ?_ ?_ _) | go_size)))).mono ?_; rintro e w1 ⟨rfl, hb1⟩; obtain ⟨hc1, hf1⟩ := bcell hb1; have hB1 : Below w.heap.size w w1 := Below.trans (by repeat' (first | (with_reducible exact Below.refl _ _) | (with_reducible assumption) | (with_reducible refine Below.alloc ?_ ?_ _) | (with_reducible refine Below.drew ?_) | (with_reducible refine below_drewN ?_ _) | (with_reducible refine Below.setCell ?_ ?_ _) | go_size)) (hb1.mono (by go_size)); (have hs1 := hb1.size); (try simp at hs1); (try (have hl1 := Nat.lt_of_succ_le hs1)); (first | (have hz1 : w.heap.size < w1.heap.size := by omega) | (have hz1 : w.heap.size ≤ w1.heap.size := by omega)); (try (have hz2_1 : w2.heap.size < w1.heap.size := by omega)); (try (have hz3_1 : w3.heap.size < w1.heap.size := by omega)); (try (have hz4_1 : w4.heap.size < w1.heap.size := by omega)); (try (have hz5_1 : w5.heap.size < w1.heap.size := by omega)); (try (have hzc_1 : wc.heap.size < w1.heap.size := by omega)); (try (have hy1_1 : w.heap.size + 1 < w1.heap.size := by omega)); (try (have hy2_1 : w.heap.size + 2 < w1.heap.size := by omega)); (try (have hy3_1 : w.heap.size + 3 < w1.heap.size := by omega)); (have k1_0 : w1.cell? ⟨w.heap.size, 0, none⟩ = some (.bool b0) := by (rw [hb1.cell (by first | (simp; done) | (simp; omega) | omega)]; first | assumption | (simp [go_sem]; done) | (simp [*, go_sem]; done))); (have k1_1 : w1.cell? ⟨w.heap.size, 1, none⟩ = some (.slice P x0.length c) := by (rw [hb1.cell (by first | (simp; done) | (simp; omega) | omega)]; first | assumption | (simp [go_sem]; done) | (simp [*, go_sem]; done))))
    go_wp2_with fail
    (go_at_call 46; refine (HX.out _ (by (repeat' (first | (with_reducible exact Below.refl _ _) | (with_reducible assumption) | (with_reducible refine Below.alloc ?_ ?_ _) | (with_reducible refine Below.drew ?_) | (with_reducible refine below_drewN ?_ _) | (with_reducible refine Below.setCell ?_ ?_ _) | go_size)))).mono ?_; rintro e w3 ⟨rfl, hb3⟩; obtain ⟨hc3, hf3⟩ := bcell hb3; have hB3 : Below w.heap.size w w3 := Below.trans (by repeat' (first | (with_reducible exact Below.refl _ _) | (with_reducible assumption) | (with_reducible refine Below.alloc ?_ ?_ _) | (with_reducible refine Below.drew ?_) | (with_reducible refine below_drewN ?_ _) | (with_reducible refine Below.setCell ?_ ?_ _) | go_size)) (hb3.mono (by go_size)); (have hs3 := hb3.size); (try simp at hs3); (try (have hl3 := Nat.lt_of_succ_le hs3)); (first | (have hz3 : w.heap.size < w3.heap.size := by omega) | (have hz3 : w.heap.size ≤ w3.heap.size := by omega)); (try (have hz1_3 : w1.heap.size < w3.heap.size := by omega)); (try (have hz2_3 : w2.heap.size < w3.heap.size := by omega)); (try (have hz4_3 : w4.heap.size < w3.heap.size := by omega)); (try (have hz5_3 : w5.heap.size < w3.heap.size := by omega)); (try (have hzc_3 : wc.heap.size < w3.heap.size := by omega)); (try (have hy1_3 : w.heap.size + 1 < w3.heap.size := by omega)); (try (have hy2_3 : w.heap.size + 2 < w3.heap.size := by omega)); (try (have hy3_3 : w.heap.size + 3 < w3.heap.size := by omega)))
    go_wp2
    go_ret2
    exact ⟨rfl, by repeat' (first | (with_reducible exact Below.refl _ _) | (with_reducible assumption) | (with_reducible refine Below.alloc ?_ ?_ _) | (with_reducible refine Below.drew ?_) | (with_reducible refine below_drewN ?_ _) | (with_reducible refine Below.setCell ?_ ?_ _) | go_size)⟩
  · have HR := Lib.hid (show res b0 x0 = ⟨#[]⟩ by unfold res; rw [hp]; rfl)
    have HP := Lib.hid hp
    rw [HR.out, hp]
    go_enter Tryd.func15, Tryd.ntmps15
    go_wp2_with fail
    (go_at_call 54; refine (bgGood_any b0 (H.out.below (by (repeat' (first | (with_reducible exact Below.refl _ _) | (with_reducible assumption) | (with_reducible refine Below.alloc ?_ ?_ _) | (with_reducible refine Below.drew ?_) | (with_reducible refine below_drewN ?_ _) | (with_reducible refine Below.setCell ?_ ?_ _) | go_size)))) l0).mono ?_; rintro e w1 ⟨rfl, hb1⟩; obtain ⟨hc1, hf1⟩ := bcell hb1; have hB1 : Below w.heap.size w w1 := Below.trans (by repeat' (first | (with_reducible exact Below.refl _ _) | (with_reducible assumption) | (with_reducible refine Below.alloc ?_ ?_ _) | (with_reducible refine Below.drew ?_) | (with_reducible refine below_drewN ?_ _) | (with_reducible refine Below.setCell ?_ ?_ _) | go_size)) (hb1.mono (by go_size)); (have hs1 := hb1.size); (try simp at hs1); (try (have hl1 := Nat.lt_of_succ_le hs1)); (first | (have hz1 : w.heap.size < w1.heap.size := by omega) | (have hz1 : w.heap.size ≤ w1.heap.size := by omega)); (try (have hz2_1 : w2.heap.size < w1.heap.size := by omega)); (try (have hz3_1 : w3.heap.size < w1.heap.size := by omega)); (try (have hz4_1 : w4.heap.size < w1.heap.size := by omega)); (try (have hz5_1 : w5.heap.size < w1.heap.size := by omega)); (try (have hzc_1 : wc.heap.size < w1.heap.size := by omega)); (try (have hy1_1 : w.heap.size + 1 < w1.heap.size := by omega)); (try (have hy2_1 : w.heap.size + 2 < w1.heap.size := by omega)); (try (have hy3_1 : w.heap.size + 3 < w1.heap.size := by omega)); (have k1_0 : w1.cell? ⟨w.heap.size, 0, none⟩ = some (.bool b0) := by (rw [hb1.cell (by first | (simp; done) | (simp; omega) | omega)]; first | assumption | (simp [go_sem]; done) | (simp [*, go_sem]; done))); (have k1_1 : w1.cell? ⟨w.heap.size, 1, none⟩ = some (.slice P x0.length c) := by (rw [hb1.cell (by first | (simp; done) | (simp; omega) | omega)]; first | assumption | (simp [go_sem]; done) | (simp [*, go_sem]; done))))
    go_wp2
    go_ret2
    exact ⟨rfl, by repeat' (first | (with_reducible exact Below.refl _ _) | (with_reducible assumption) | (with_reducible refine Below.alloc ?_ ?_ _) | (with_reducible refine Below.drew ?_) | (with_reducible refine below_drewN ?_ _) | (with_reducible refine Below.setCell ?_ ?_ _) | go_size)⟩
set_option maxRecDepth 100000 in
set_option maxHeartbeats 8000000 in
theorem walk (b0 : Bool) (P0 : Option Addr) (c0 : Nat) (x0 : List Int) (w : World) (h0 : Came w (.slice P0 x0.length c0) x0) (hm0 : x0.length ≤ maxLen) (ht : Tab w) :
    Calls Tryd.prog 4 #[.agg #[.bool b0, .slice P0 x0.length c0]] w fun e w' => e = .returned (.bool true) ∧ Below w.heap.size w w' := by
  have H0 := Lib.hid h0
  clear h0
  by_cases hz : x0.length ≤ 1048576
  · skip
    have HT := Lib.hid ht
    clear ht
    have hz0 : x0.length ≤ 1048576 := by omega
    have hq0 : ¬ (1048576 - (x0.length : Int) : Int) < 0 := by omega
    go_enter Tryd.func4, Tryd.ntmps4
    go_wp2_with fail
    (go_at_call 14; ((with_reducible refine (szWhole_yes b0 _ _ _ (1048576) _ (by omega) (by omega)).mono ?_); rintro e w1 ⟨rfl, hb1⟩))
    have hB1 : Below w.heap.size w w1 := Below.trans (by (repeat' (first | (with_reducible exact Below.refl _ _) | (with_reducible assumption) | (with_reducible refine Below.alloc ?_ ?_ _) | (with_reducible refine Below.drew ?_) | (with_reducible refine below_drewN ?_ _) | (with_reducible refine Below.setCell ?_ ?_ _) | go_size))) (hb1.mono (by go_size))
    have q1 : w.heap.size + 1 ≤ w1.heap.size := (by have := hb1.size; (try simp at this); omega)
    have T1 := Lib.hid (show Below w.heap.size w w1 from Below.trans (by (repeat' (first | (with_reducible exact Below.refl _ _) | (with_reducible assumption) | (with_reducible refine Below.alloc ?_ ?_ _) | (with_reducible refine Below.drew ?_) | (with_reducible refine below_drewN ?_ _) | (with_reducible refine Below.setCell ?_ ?_ _) | go_size))) (hb1.mono (by go_size)))
    have XP0_1 := Lib.hid ((Box2.newAt (b := w.heap.size) w (.bool b0) (.slice P0 x0.length c0) 30 (by first | rfl | simp)).below (Below.trans (by (repeat' (first | (with_reducible exact Below.refl _ _) | (with_reducible assumption) | (with_reducible refine Below.alloc ?_ ?_ _) | (with_reducible refine Below.drew ?_) | (with_reducible refine below_drewN ?_ _) | (with_reducible refine Below.setCell ?_ ?_ _) | go_size))) (hb1.mono (by go_size))))
    obtain ⟨y2P00, y2P01, y2P02⟩ := XP0_1.out
    go_wp2_with fail
    (go_at_call 16; ((with_reducible refine (toWhole_any b0 (H0.out.below (by (repeat' (first | (with_reducible exact Below.refl _ _) | (with_reducible assumption) | (with_reducible refine Below.alloc ?_ ?_ _) | (with_reducible refine Below.drew ?_) | (with_reducible refine below_drewN ?_ _) | (with_reducible refine Below.setCell ?_ ?_ _) | go_size)))) hz0).mono ?_); rintro e w2 ⟨A2, d2, rfl, n2, hb2⟩))
    clear y2P00 y2P01 y2P02
    have hB2 : Below w.heap.size w w2 := Below.trans (by (repeat' (first | (with_reducible exact Below.refl _ _) | (with_reducible assumption) | (with_reducible refine Below.alloc ?_ ?_ _) | (with_reducible refine Below.drew ?_) | (with_reducible refine below_drewN ?_ _) | (with_reducible refine Below.setCell ?_ ?_ _) | go_size))) (hb2.mono (by go_size))
    have q2 : w1.heap.size + 0 ≤ w2.heap.size := (by have := hb2.size; (try simp at this); omega)
    have T2 := Lib.hid (show Below w1.heap.size w1 w2 from Below.trans (by (repeat' (first | (with_reducible exact Below.refl _ _) | (with_reducible assumption) | (with_reducible refine Below.alloc ?_ ?_ _) | (with_reducible refine Below.drew ?_) | (with_reducible refine below_drewN ?_ _) | (with_reducible refine Below.setCell ?_ ?_ _) | go_size))) (hb2.mono (by go_size)))
    have XP0_2 := Lib.hid (XP0_1.out.below T2.out)
    clear XP0_1
    have Lvw00 := Lib.hid (n2.lt2 (B0 := w1.heap.size + 0) (by go_size))
    have Rvw00_2 := Lib.hid (n2.mono (C := w1.heap.size + 0) (by go_size))
    clear n2
    go_wp2_with fail
    (go_at_call 15; ((with_reducible refine (spec_any b0 Rvw00_2.out.holds hz0).mono ?_); rintro e w3 ⟨rfl, hb3⟩))
    have hB3 : Below w.heap.size w w3 := Below.trans (by (repeat' (first | (with_reducible exact Below.refl _ _) | (with_reducible assumption) | (with_reducible refine Below.alloc ?_ ?_ _) | (with_reducible refine Below.drew ?_) | (with_reducible refine below_drewN ?_ _) | (with_reducible refine Below.setCell ?_ ?_ _) | go_size))) (hb3.mono (by go_size))
    have q3 : w2.heap.size + 0 ≤ w3.heap.size := (by have := hb3.size; (try simp at this); omega)
    have T3 := Lib.hid (show Below w2.heap.size w2 w3 from Below.trans (by (repeat' (first | (with_reducible exact Below.refl _ _) | (with_reducible assumption) | (with_reducible refine Below.alloc ?_ ?_ _) | (with_reducible refine Below.drew ?_) | (with_reducible refine below_drewN ?_ _) | (with_reducible refine Below.setCell ?_ ?_ _) | go_size))) (hb3.mono (by go_size)))
    have XP0_3 := Lib.hid (XP0_2.out.below T3.out)
    clear XP0_2
    have Rvw00_3 := Lib.hid (Rvw00_2.out.below T3.out)
    clear Rvw00_2
    clear Rvw00_3
    obtain ⟨y4P00, y4P01, y4P02⟩ := XP0_3.out
    go_wp2_with fail
    (go_at_call 16; ((with_reducible refine (toWhole_any b0 (H0.out.below (by (repeat' (first | (with_reducible exact Below.refl _ _) | (with_reducible assumption) | (with_reducible refine Below.alloc ?_ ?_ _) | (with_reducible refine Below.drew ?_) | (with_reducible refine below_drewN ?_ _) | (with_reducible refine Below.setCell ?_ ?_ _) | go_size)))) hz0).mono ?_); rintro e w4 ⟨A4, d4, rfl, n4, hb4⟩))
    clear y4P00 y4P01 y4P02
    have hB4 : Below w.heap.size w w4 := Below.trans (by (repeat' (first | (with_reducible exact Below.refl _ _) | (with_reducible assumption) | (with_reducible refine Below.alloc ?_ ?_ _) | (with_reducible refine Below.drew ?_) | (with_reducible refine below_drewN ?_ _) | (with_reducible refine Below.setCell ?_ ?_ _) | go_size))) (hb4.mono (by go_size))
    have q4 : w3.heap.size + 0 ≤ w4.heap.size := (by have := hb4.size; (try simp at this); omega)
    have T4 := Lib.hid (show Below w3.heap.size w3 w4 from Below.trans (by (repeat' (first | (with_reducible exact Below.refl _ _) | (with_reducible assumption) | (with_reducible refine Below.alloc ?_ ?_ _) | (with_reducible refine Below.drew ?_) | (with_reducible refine below_drewN ?_ _) | (with_reducible refine Below.setCell ?_ ?_ _) | go_size))) (hb4.mono (by go_size)))
    have XP0_4 := Lib.hid (XP0_3.out.below T4.out)
    clear XP0_3
    have Lx0 := Lib.hid (n4.lt2 (B0 := w3.heap.size + 0) (by go_size))
    have Rx0_4 := Lib.hid (n4.mono (C := w3.heap.size + 0) (by go_size))
    clear n4
    go_wp2_with fail
    (go_at_call 17; ((with_reducible refine (impl_any b0 (Rx0_4.out.below (by (repeat' (first | (with_reducible exact Below.refl _ _) | (with_reducible assumption) | (with_reducible refine Below.alloc ?_ ?_ _) | (with_reducible refine Below.drew ?_) | (with_reducible refine below_drewN ?_ _) | (with_reducible refine Below.setCell ?_ ?_ _) | go_size)))).holds hz0 (HT.out.below (by (repeat' (first | (with_reducible exact Below.refl _ _) | (with_reducible assumption) | (with_reducible refine Below.alloc ?_ ?_ _) | (with_reducible refine Below.drew ?_) | (with_reducible refine below_drewN ?_ _) | (with_reducible refine Below.setCell ?_ ?_ _) | go_size))))).mono ?_); rintro e w5 ⟨rfl, hb5⟩))
    have hB5 : Below w.heap.size w w5 := Below.trans (by (repeat' (first | (with_reducible exact Below.refl _ _) | (with_reducible assumption) | (with_reducible refine Below.alloc ?_ ?_ _) | (with_reducible refine Below.drew ?_) | (with_reducible refine below_drewN ?_ _) | (with_reducible refine Below.setCell ?_ ?_ _) | go_size))) (hb5.mono (by go_size))
    have q5 : w4.heap.size + 1 ≤ w5.heap.size := (by have := hb5.size; (try simp at this); omega)
    have T5 := Lib.hid (show Below w4.heap.size w4 w5 from Below.trans (by (repeat' (first | (with_reducible exact Below.refl _ _) | (with_reducible assumption) | (with_reducible refine Below.alloc ?_ ?_ _) | (with_reducible refine Below.drew ?_) | (with_reducible refine below_drewN ?_ _) | (with_reducible refine Below.setCell ?_ ?_ _) | go_size))) (hb5.mono (by go_size)))
    have XP0_5 := Lib.hid (XP0_4.out.below T5.out)
    clear XP0_4
    have XX0_5 := Lib.hid ((Box2.newAt (b := w4.heap.size) w4 (.bool b0) (.slice A4 x0.length d4) 24 (by first | rfl | simp)).below (Below.trans (by (repeat' (first | (with_reducible exact Below.refl _ _) | (with_reducible assumption) | (with_reducible refine Below.alloc ?_ ?_ _) | (with_reducible refine Below.drew ?_) | (with_reducible refine below_drewN ?_ _) | (with_reducible refine Below.setCell ?_ ?_ _) | go_size))) (hb5.mono (by go_size))))
    have Rx0_5 := Lib.hid (Rx0_4.out.below T5.out)
    clear Rx0_4
    obtain ⟨yr5X00, yr5X01, yr5X02⟩ := XX0_5.out
    obtain ⟨yr5P00, yr5P01, yr5P02⟩ := XP0_5.out
    go_wp2_with fail
    go_region_held3 (fun w' => w'.cell? ⟨w4.heap.size, 0, none⟩ = some (.bool b0) ∧ w'.cell? ⟨w4.heap.size, 1, none⟩ = some (.slice A4 x0.length d4) ∧ w'.cell? ⟨w.heap.size, 0, none⟩ = some (.bool b0) ∧ w'.cell? ⟨w.heap.size, 1, none⟩ = some (.slice P0 x0.length c0)) ((first | exact ⟨by with_reducible assumption, by with_reducible assumption, by with_reducible assumption, by with_reducible assumption⟩ | ((try dsimp only); (repeat' apply And.intro); all_goals (first | (with_reducible assumption) | ((try rw [drew_cell]); (repeat rw [set_far (by omega)]); (with_reducible assumption)) | (go_keep; done) | (simp [go_sem]; done))))) (first | (go_at_call 16; (with_reducible refine (toWhole_any b0 (H0.out.below (by (repeat' (first | (with_reducible exact Below.refl _ _) | (with_reducible assumption) | (with_reducible refine Below.alloc ?_ ?_ _) | (with_reducible refine Below.drew ?_) | (with_reducible refine below_drewN ?_ _) | (with_reducible refine Below.setCell ?_ ?_ _) | go_size)))) hz0).mono ?_); rintro e w6 ⟨A6, d6, rfl, n6, hb6⟩; (have hB6 : Below w.heap.size w w6 := Below.trans (by (repeat' (first | (with_reducible exact Below.refl _ _) | (with_reducible assumption) | (with_reducible refine Below.alloc ?_ ?_ _) | (with_reducible refine Below.drew ?_) | (with_reducible refine below_drewN ?_ _) | (with_reducible refine Below.setCell ?_ ?_ _) | go_size))) (hb6.mono (by go_size))); (have q6 : w5.heap.size + 0 ≤ w6.heap.size := (by have := hb6.size; (try simp at this); omega)); (have T6 := Lib.hid (show Below w5.heap.size w5 w6 from Below.trans (by (repeat' (first | (with_reducible exact Below.refl _ _) | (with_reducible assumption) | (with_reducible refine Below.alloc ?_ ?_ _) | (with_reducible refine Below.drew ?_) | (with_reducible refine below_drewN ?_ _) | (with_reducible refine Below.setCell ?_ ?_ _) | go_size))) (hb6.mono (by go_size)))); (have XP0_6 := Lib.hid (XP0_5.out.below T6.out)); clear XP0_5; (have XX0_6 := Lib.hid (XX0_5.out.below T6.out)); clear XX0_5; (have Rx0_6 := Lib.hid (Rx0_5.out.below T6.out)); clear Rx0_5; (have Ly0 := Lib.hid (n6.lt2 (B0 := w5.heap.size + 0) (by go_size))); (have Ry0_6 := Lib.hid (n6.mono (C := w5.heap.size + 0) (by go_size))); clear n6; obtain ⟨z6X00, z6X01, z6X02⟩ := XX0_6.out; obtain ⟨z6P00, z6P01, z6P02⟩ := XP0_6.out) | (go_at_call 11; (with_reducible refine (eqWhole_same b0 Rx0_6.out Ry0_6.out hz0).mono ?_); rintro e w7 ⟨rfl, hb7⟩; (have hB7 : Below w.heap.size w w7 := Below.trans (by (repeat' (first | (with_reducible exact Below.refl _ _) | (with_reducible assumption) | (with_reducible refine Below.alloc ?_ ?_ _) | (with_reducible refine Below.drew ?_) | (with_reducible refine below_drewN ?_ _) | (with_reducible refine Below.setCell ?_ ?_ _) | go_size))) (hb7.mono (by go_size))); (have q7 : w6.heap.size + 0 ≤ w7.heap.size := (by have := hb7.size; (try simp at this); omega)); (have T7 := Lib.hid (show Below w6.heap.size w6 w7 from Below.trans (by (repeat' (first | (with_reducible exact Below.refl _ _) | (with_reducible assumption) | (with_reducible refine Below.alloc ?_ ?_ _) | (with_reducible refine Below.drew ?_) | (with_reducible refine below_drewN ?_ _) | (with_reducible refine Below.setCell ?_ ?_ _) | go_size))) (hb7.mono (by go_size)))); (have XP0_7 := Lib.hid (XP0_6.out.below T7.out)); clear XP0_6; (have XX0_7 := Lib.hid (XX0_6.out.below T7.out)); clear XX0_6; (have Rx0_7 := Lib.hid (Rx0_6.out.below T7.out)); clear Rx0_6; (have Ry0_7 := Lib.hid (Ry0_6.out.below T7.out)); clear Ry0_6; obtain ⟨z7X00, z7X01, z7X02⟩ := XX0_7.out; obtain ⟨z7P00, z7P01, z7P02⟩ := XP0_7.out))
    clear z6X00 z6X01 z6X02
    clear z6P00 z6P01 z6P02
    clear z7X00 z7X01 z7X02
    clear z7P00 z7P01 z7P02
    clear yr5X00 yr5X01 yr5X02
    clear yr5P00 yr5P01 yr5P02
    clear Ry0_7
    go_wp2
    go_ret
    exact ⟨rfl, by repeat' (first | (with_reducible exact Below.refl _ _) | (with_reducible assumption) | (with_reducible refine Below.alloc ?_ ?_ _) | (with_reducible refine Below.drew ?_) | (with_reducible refine below_drewN ?_ _) | (with_reducible refine Below.setCell ?_ ?_ _) | go_size)⟩
  · skip
    go_enter Tryd.func4, Tryd.ntmps4
    go_wp2_with (go_at_call 14; refine (szWhole_no b0 P0 _ c0 1048576 _ hm0 (by omega) (by omega) (by omega)).mono ?_; rintro e w1 ⟨rfl, hb1⟩; obtain ⟨hc1, hf1⟩ := bcell hb1; have hB1 : Below w.heap.size w w1 := Below.trans (by repeat' (first | (with_reducible exact Below.refl _ _) | (with_reducible assumption) | (with_reducible refine Below.alloc ?_ ?_ _) | (with_reducible refine Below.drew ?_) | (with_reducible refine below_drewN ?_ _) | (with_reducible refine Below.setCell ?_ ?_ _) | go_size)) (hb1.mono (by go_size)); (have hs1 := hb1.size); (try simp at hs1); (try (have hl1 := Nat.lt_of_succ_le hs1)); (first | (have hz1 : w.heap.size < w1.heap.size := by omega) | (have hz1 : w.heap.size ≤ w1.heap.size := by omega)); (try (have hz2_1 : w2.heap.size < w1.heap.size := by omega)); (try (have hz3_1 : w3.heap.size < w1.heap.size := by omega)); (try (have hz4_1 : w4.heap.size < w1.heap.size := by omega)); (try (have hz5_1 : w5.heap.size < w1.heap.size := by omega)); (try (have hzc_1 : wc.heap.size < w1.heap.size := by omega)); (try (have hy1_1 : w.heap.size + 1 < w1.heap.size := by omega)); (try (have hy2_1 : w.heap.size + 2 < w1.heap.size := by omega)); (try (have hy3_1 : w.heap.size + 3 < w1.heap.size := by omega)))
    go_ret
    exact ⟨rfl, by repeat' (first | (with_reducible exact Below.refl _ _) | (with_reducible assumption) | (with_reducible refine Below.alloc ?_ ?_ _) | (with_reducible refine Below.drew ?_) | (with_reducible refine below_drewN ?_ _) | (with_reducible refine Below.setCell ?_ ?_ _) | go_size)⟩
end Go.Proofs.YtklhmaegpejdbaaDoor.Wt
