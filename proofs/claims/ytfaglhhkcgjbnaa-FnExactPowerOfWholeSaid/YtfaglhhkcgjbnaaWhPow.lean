/- Contract of impl.powerOfWhole; boxes that are stored into. -/
import Derived.Test.YtfaglhhkcgjbnaaWhMul
import Derived.Test.YtfaglhhkcgjbnaaWhKit2
namespace Go.Proofs.Ytfaglhhkcgjbnaa
open Go.RowKit
set_option linter.unusedVariables false
set_option linter.unusedSimpArgs false
theorem BoxAt.stored {w : World} {b : Nat} {r0 r1 : Value} (h : BoxAt w b r0 r1) (u0 u1 : Value) : BoxAt ((w.setCell ⟨b, 0, none⟩ u0).setCell ⟨b, 1, none⟩ u1) b u0 u1 := by
  refine ⟨?_, ?_, ?_, ?_⟩
  · rw [set_far (by omega)]; exact set_near h.1
  · exact set_near ((set_far (by omega)).trans h.2.1)
  · simpa using h.2.2.1
  · simpa using h.2.2.2
theorem BoxAt.apart {w : World} {b g : Nat} {r0 r1 : Value} (h : BoxAt w b r0 r1) (hne : b ≠ g) (u0 u1 : Value) : BoxAt ((w.setCell ⟨g, 0, none⟩ u0).setCell ⟨g, 1, none⟩ u1) b r0 r1 := by
  refine ⟨?_, ?_, ?_, ?_⟩
  · rw [set_far (by omega), set_far (by omega)]; exact h.1
  · rw [set_far (by omega), set_far (by omega)]; exact h.2.1
  · simpa using h.2.2.1
  · simpa using h.2.2.2
theorem BoxAt.new (w : World) (u0 u1 : Value) (t : TypeId) : BoxAt (w.alloc (.cells #[u0, u1] t)) w.heap.size u0 u1 := ⟨by simp [go_sem], by simp [go_sem], by simp [go_sem], by simp [go_sem]⟩
/-- m factors z more, on acc; none where there are too many digits. -/
def powGo (z : Int) : Nat → Int → Option Int
  | 0, acc => some acc
  | m + 1, acc => if (wlimbs (acc * z)).length ≤ 400 then powGo z m (acc * z) else none
theorem powGo_yes {z acc : Int} {m : Nat} (h : (wlimbs (acc * z)).length ≤ 400) : powGo z (m + 1) acc = powGo z m (acc * z) := by rw [powGo, if_pos h]
theorem powGo_no {z acc : Int} {m : Nat} (h : 400 < (wlimbs (acc * z)).length) : powGo z (m + 1) acc = none := by rw [powGo, if_neg (by omega)]
theorem powGo_len {z : Int} : ∀ {m : Nat} {acc r : Int}, (wlimbs acc).length ≤ 400 → powGo z m acc = some r → (wlimbs r).length ≤ 400
  | 0, acc, r, h, e => by rw [powGo] at e; cases e; exact h
  | m + 1, acc, r, h, e => by
    by_cases h2 : (wlimbs (acc * z)).length ≤ 400
    · rw [powGo_yes h2] at e; exact powGo_len h2 e
    · rw [powGo_no (by omega)] at e; cases e
def powB (z : Int) (N : Nat) : Bool := (powGo z N 1).isSome
def powR (z : Int) (N : Nat) : Int := (powGo z N 1).getD 0
theorem one_len : (wlimbs 1).length ≤ 400 := by have := small_len (n := 1) (by omega) (by omega); omega
set_option maxHeartbeats 8000000 in
theorem powerOfWhole_any (z : Int) (N : Nat) {P : Option Addr} {c : Nat} {w : World} (h : Holds w (.slice P (wlimbs z).length c) (wlimbs z)) (hl : (wlimbs z).length ≤ 400) (hN : N ≤ 64) :
    Calls Try.prog 79 #[.agg #[.bool (wneg z), .slice P (wlimbs z).length c], .int .i64 (N : Int)] w fun e w' => ∃ A c, e = .returned (.tuple #[.agg #[.bool (wneg (powR z N)), .slice A (wlimbs (powR z N)).length c], .bool (powB z N)]) ∧ Nums w' w.heap.size (.slice A (wlimbs (powR z N)).length c) (wlimbs (powR z N)) ∧ Below w.heap.size w w' := by
  have H := Lib.hid h
  clear h
  go_enter Try.func79, Try.ntmps79
  go_wp2_with fail
  (go_at_call 72; refine (wholeOf_any 1 (by omega) (by omega) _).mono ?_; rintro e w2 ⟨A2, d2, rfl, n2, hb2⟩; have N2 := Lib.hid n2; clear n2; obtain ⟨hc2, hf2⟩ := bcell hb2; have hB2 : Below w.heap.size w w2 := Below.trans (by repeat' (first | (with_reducible exact Below.refl _ _) | (with_reducible assumption) | (with_reducible refine Below.alloc ?_ ?_ _) | (with_reducible refine Below.drew ?_) | (with_reducible refine below_drewN ?_ _) | (with_reducible refine Below.setCell ?_ ?_ _) | go_size)) (hb2.mono (by go_size)); (have hs2 := hb2.size); (try simp at hs2); (try (have hl2 := Nat.lt_of_succ_le hs2)); (first | (have hz2 : w.heap.size < w2.heap.size := by omega) | (have hz2 : w.heap.size ≤ w2.heap.size := by omega)); (try (have hz1_2 : w1.heap.size < w2.heap.size := by omega)); (try (have hz3_2 : w3.heap.size < w2.heap.size := by omega)); (try (have hz4_2 : w4.heap.size < w2.heap.size := by omega)); (try (have hz5_2 : w5.heap.size < w2.heap.size := by omega)); (try (have hzc_2 : wc.heap.size < w2.heap.size := by omega)); (try (have hy1_2 : w.heap.size + 1 < w2.heap.size := by omega)); (try (have hy2_2 : w.heap.size + 2 < w2.heap.size := by omega)); (try (have hy3_2 : w.heap.size + 3 < w2.heap.size := by omega)); (have k2_0 : w2.cell? ⟨w.heap.size, 0, none⟩ = some (.bool (wneg z)) := by (rw [hb2.cell (by first | (simp; done) | (simp; omega) | omega)]; first | assumption | (simp [go_sem]; done) | (simp [*, go_sem]; done))); (have k2_1 : w2.cell? ⟨w.heap.size, 1, none⟩ = some (.slice P (wlimbs z).length c) := by (rw [hb2.cell (by first | (simp; done) | (simp; omega) | omega)]; first | assumption | (simp [go_sem]; done) | (simp [*, go_sem]; done))); (have k2_2 : w2.frozen? ⟨w.heap.size, 0, none⟩ = false := by (rw [hb2.frozen (by first | (simp; done) | (simp; omega) | omega)]; first | assumption | (simp [go_sem]; done) | (simp [*, go_sem]; done))); (have k2_3 : w2.frozen? ⟨w.heap.size, 1, none⟩ = false := by (rw [hb2.frozen (by first | (simp; done) | (simp; omega) | omega)]; first | assumption | (simp [go_sem]; done) | (simp [*, go_sem]; done))); (have k2_4 : w2.cell? ⟨w.heap.size + 1, 0, none⟩ = some (.bool false) := by (rw [hb2.cell (by first | (simp; done) | (simp; omega) | omega)]; first | assumption | (simp [go_sem]; done) | (simp [*, go_sem]; done))); (have k2_5 : w2.cell? ⟨w.heap.size + 1, 1, none⟩ = some (.slice none 0 0) := by (rw [hb2.cell (by first | (simp; done) | (simp; omega) | omega)]; first | assumption | (simp [go_sem]; done) | (simp [*, go_sem]; done))); (have k2_6 : w2.frozen? ⟨w.heap.size + 1, 0, none⟩ = false := by (rw [hb2.frozen (by first | (simp; done) | (simp; omega) | omega)]; first | assumption | (simp [go_sem]; done) | (simp [*, go_sem]; done))); (have k2_7 : w2.frozen? ⟨w.heap.size + 1, 1, none⟩ = false := by (rw [hb2.frozen (by first | (simp; done) | (simp; omega) | omega)]; first | assumption | (simp [go_sem]; done) | (simp [*, go_sem]; done))))
  have XA := Lib.hid (show BoxAt w2 w.heap.size (.bool (wneg z)) (.slice P (wlimbs z).length c) from ⟨k2_0, k2_1, k2_2, k2_3⟩)
  have XR := Lib.hid (show BoxAt w2 (w.heap.size + 1) (.bool false) (.slice none 0 0) from ⟨k2_4, k2_5, k2_6, k2_7⟩)
  have BB := Lib.hid hB2
  have q2 : w.heap.size + 1 < w2.heap.size := by omega
  have NN := Lib.hid (N2.out.mono (C := w.heap.size + 2) (by first | omega | (simp; done) | (simp; omega)))
  clear k2_0 k2_1 k2_2 k2_3 k2_4 k2_5 k2_6 k2_7 hc2 hf2 hb2 N2
  go_wp2
  go_loopw [9] (fun t wr => ∃ (k : Nat) (acc : Int) (A : Option Addr) (d : Nat), k ≤ N ∧ t = .int .i64 k ∧ Hid (powGo z N 1 = powGo z (N - k) acc) ∧ (wlimbs acc).length ≤ 400 ∧ Hid (BoxAt wr w2.heap.size (.bool (wneg acc)) (.slice A (wlimbs acc).length d)) ∧ Hid (Nums wr (w.heap.size + 2) (.slice A (wlimbs acc).length d) (wlimbs acc)) ∧ Hid (BoxAt wr w.heap.size (.bool (wneg z)) (.slice P (wlimbs z).length c)) ∧ Hid (BoxAt wr (w.heap.size + 1) (.bool false) (.slice none 0 0)) ∧ Hid (Below w.heap.size w wr) ∧ w2.heap.size < wr.heap.size) (fun t _ => N - (intOf t).toNat)
  case atStart => exact ⟨0, 1, A2, d2, by omega, rfl, rfl, one_len, Lib.hid (BoxAt.new _ _ _ _), Lib.hid (NN.out.below (by repeat' (first | (with_reducible exact Below.refl _ _) | (with_reducible assumption) | (with_reducible refine Below.alloc ?_ ?_ _) | (with_reducible refine Below.drew ?_) | (with_reducible refine below_drewN ?_ _) | (with_reducible refine Below.setCell ?_ ?_ _) | go_size))), Lib.hid (XA.out.below (B := w2.heap.size) (by repeat' (first | (with_reducible exact Below.refl _ _) | (with_reducible assumption) | (with_reducible refine Below.alloc ?_ ?_ _) | (with_reducible refine Below.drew ?_) | (with_reducible refine below_drewN ?_ _) | (with_reducible refine Below.setCell ?_ ?_ _) | go_size)) (by omega)), Lib.hid (XR.out.below (B := w2.heap.size) (by repeat' (first | (with_reducible exact Below.refl _ _) | (with_reducible assumption) | (with_reducible refine Below.alloc ?_ ?_ _) | (with_reducible refine Below.drew ?_) | (with_reducible refine below_drewN ?_ _) | (with_reducible refine Below.setCell ?_ ?_ _) | go_size)) (by omega)), Lib.hid (BB.out.alloc (by omega) _), by simp⟩
  case round =>
    clear XA XR BB NN
    obtain ⟨k, acc, A, d, hk, rfl, HG, hla, XO, NO, XA, XR, BB, hsz⟩ := hrel
    by_cases hlt : k < N
    · have b0 : (0 : Int) ≤ (k : Int) := by omega
      have b1 : (k : Int) < (N : Int) := by omega
      obtain ⟨o0, o1, o2, o3⟩ := XO.out
      obtain ⟨a0, a1, a2, a3⟩ := XA.out
      have hm := wlen_mul acc z
      have hm2 : (wlimbs (acc * z)).length ≤ 1048576 := by unfold wlen at hm; omega
      clear hm
      obtain ⟨j, hj⟩ : ∃ j, N - k = j + 1 := ⟨N - k - 1, by omega⟩
      have HJ := Lib.hid hj
      clear hj
      go_wp2_with fail
      (go_at_call 78; refine (mulWholes_any acc z NO.out.holds (H.out.below BB.out) (by omega) (by omega)).mono ?_; rintro e w5 ⟨A5, d5, rfl, n5, hb5⟩; have N5 := Lib.hid n5; clear n5)
      have hB5 := Lib.hid (BB.out.trans (hb5.mono (by omega)))
      have q5 := hb5.size
      have XO5 := Lib.hid (XO.out.below hb5 hsz)
      have XA5 := Lib.hid (XA.out.below hb5 (by omega))
      have XR5 := Lib.hid (XR.out.below hb5 (by omega))
      clear o0 o1 o2 o3 a0 a1 a2 a3 hb5
      obtain ⟨o0, o1, o2, o3⟩ := XO5.out
      have Y1 := Lib.hid (XO5.out.stored (.bool (wneg (acc * z))) (.slice A5 (wlimbs (acc * z)).length d5))
      have Y2 := Lib.hid (XA5.out.apart (g := w2.heap.size) (by omega) (.bool (wneg (acc * z))) (.slice A5 (wlimbs (acc * z)).length d5))
      have Y3 := Lib.hid (XR5.out.apart (g := w2.heap.size) (by omega) (.bool (wneg (acc * z))) (.slice A5 (wlimbs (acc * z)).length d5))
      have Y4 := Lib.hid (((N5.out.setBelow (a := ⟨w2.heap.size, 0, none⟩) hsz (.bool (wneg (acc * z)))).setBelow (a := ⟨w2.heap.size, 1, none⟩) hsz (.slice A5 (wlimbs (acc * z)).length d5)).mono (C := w.heap.size + 2) (by omega))
      have Y5 := Lib.hid ((hB5.out.setCell (p := ⟨w2.heap.size, 0, none⟩) (show w.heap.size ≤ w2.heap.size by omega) (.bool (wneg (acc * z)))).setCell (p := ⟨w2.heap.size, 1, none⟩) (show w.heap.size ≤ w2.heap.size by omega) (.slice A5 (wlimbs (acc * z)).length d5))
      by_cases hle : (wlimbs (acc * z)).length ≤ 400
      · have HG2 : Hid (powGo z N 1 = powGo z (N - (k + 1)) (acc * z)) := by
          show _ = _
          rw [HG.out, HJ.out, powGo_yes hle, show N - (k + 1) = j by have := HJ.out; omega]
        have hl1 : ((wlimbs (acc * z)).length : Int) ≤ 400 := by omega
        go_wp2
        go_roundw
        case rel => exact ⟨k + 1, _, _, _, by omega, by go_num, HG2, hle, Y1, Y4, Y2, Y3, Y5, by simp; omega⟩
        case measure => simp [intOf]; omega
      · have HG2 : Hid (powGo z N 1 = none) := by show _ = _; rw [HG.out, HJ.out, powGo_no (by omega)]
        obtain ⟨r0, r1, r2, r3⟩ := XR5.out
        have hl1 : (400 : Int) < ((wlimbs (acc * z)).length : Int) := by omega
        go_wp2
        refine bodyPost_ret (by simp [results, Try.results79, go_sem, *]; try rfl) rfl ?_
        rw [show powR z N = 0 by unfold powR; rw [HG2.out]; rfl, show powB z N = false by unfold powB; rw [HG2.out]; rfl, wlimbs_zero]
        exact ⟨none, 0, rfl, Nums.nil _ _, ((Y5.out.setCell (p := ⟨w.heap.size + 1, 0, none⟩) (Nat.le_succ _) _).setCell (p := ⟨w.heap.size + 1, 1, none⟩) (Nat.le_succ _) _)⟩
    · have hkN : k = N := by omega
      have HG2 : Hid (powGo z N 1 = some acc) := by show _ = _; rw [HG.out, hkN, Nat.sub_self]; rfl
      obtain ⟨o0, o1, o2, o3⟩ := XO.out
      obtain ⟨r0, r1, r2, r3⟩ := XR.out
      clear hkN
      go_wp2
      refine bodyPost_ret (by simp [results, Try.results79, go_sem, *]; try rfl) rfl ?_
      rw [show powR z N = acc by unfold powR; rw [HG2.out]; rfl, show powB z N = true by unfold powB; rw [HG2.out]; rfl]
      exact ⟨A, d, rfl, ((NO.out.setBelow (a := ⟨w.heap.size + 1, 0, none⟩) (Nat.lt_succ_self _) _).setBelow (a := ⟨w.heap.size + 1, 1, none⟩) (Nat.lt_succ_self _) _).mono (by omega), (BB.out.setCell (p := ⟨w.heap.size + 1, 0, none⟩) (Nat.le_succ _) _).setCell (p := ⟨w.heap.size + 1, 1, none⟩) (Nat.le_succ _) _⟩
end Go.Proofs.Ytfaglhhkcgjbnaa
