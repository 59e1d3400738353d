/- Contracts of impl.wholeOf, spec.bgOf, impl.negated, spec.bgMinus, impl.wholeResult, spec.bgIf. -/
import Derived.Test.YtcplelcblfjpoaaWhMake
import Derived.Test.YtcplelcblfjpoaaWhGood
import Derived.Test.YtcplelcblfjpoaaAbs
namespace Go.Proofs.Ytcplelcblfjpoaa
open Go.RowKit
set_option linter.unusedVariables false
set_option linter.unusedSimpArgs false
/-- The digits ys, and behind them those of m, are those of N. -/
def Split (N : Nat) (ys : List Int) (m : Int) : Prop := ys ++ digs m.toNat = digs N
theorem Split.next {N : Nat} {ys : List Int} {m : Int} (h : Split N ys m) (hm : 0 < m) : Split N (ys ++ [m % 10000]) (m / 10000) := by
  unfold Split at *
  rw [← h, digs_pos (show m.toNat ≠ 0 by omega), List.append_assoc]
  congr 1
  show m % 10000 :: digs (m / 10000).toNat = _
  rw [show (((m.toNat % 10000 : Nat) : Int)) = m % 10000 by omega, show (m / 10000).toNat = m.toNat / 10000 by omega]
theorem Split.len {N : Nat} {ys : List Int} {m : Int} (h : Split N ys m) : ys.length ≤ (digs N).length := by
  unfold Split at h
  rw [← h, List.length_append]; omega
theorem Split.done {N : Nat} {ys : List Int} (h : Split N ys 0) : ys = digs N := by
  unfold Split at h
  rw [← h]; simp [digs_zero]
theorem small_len {n : Int} (h0 : -1000000000000000 ≤ n) (h1 : n ≤ 1000000000000000) : (wlimbs n).length ≤ 4 := digs_length_of_lt 4 _ (by
  have : (10000 : Int) ^ 4 = 10000000000000000 := by decide
  rw [this]; omega)
theorem signed_of (n : Int) (b : Bool) (hb : decide (n < 0) = b) : n = if b then - dv (wlimbs n) else dv (wlimbs n) := by
  subst hb
  rw [dv_wlimbs]
  by_cases h : n < 0
  · rw [decide_eq_true h]; simp; omega
  · rw [decide_eq_false h]; simp; omega
/-- Two cells of a box of the call's own. -/
def BoxAt (w : World) (b : Nat) (u0 u1 : Value) : Prop := w.cell? ⟨b, 0, none⟩ = some u0 ∧ w.cell? ⟨b, 1, none⟩ = some u1 ∧ w.frozen? ⟨b, 0, none⟩ = false ∧ w.frozen? ⟨b, 1, none⟩ = false
theorem BoxAt.same {w w' : World} {b : Nat} {u0 u1 : Value} (h : BoxAt w b u0 u1) (he : w'.heap[b]? = w.heap[b]?) : BoxAt w' b u0 u1 :=
  ⟨(World.cell?_of_block (a := ⟨b, 0, none⟩) he).trans h.1, (World.cell?_of_block (a := ⟨b, 1, none⟩) he).trans h.2.1, (World.frozen?_of_block (a := ⟨b, 0, none⟩) he).trans h.2.2.1, (World.frozen?_of_block (a := ⟨b, 1, none⟩) he).trans h.2.2.2⟩
theorem BoxAt.step {wr w1 : World} {B b : Nat} {u0 u1 v : Value} {xs : List Int} {o : Obj} (k : BoxAt wr b u0 u1) (h : Nums wr B v xs) (ha : b < B) (hB : B ≤ wr.heap.size) (hgrow : (wr.alloc o).grownBy w1 v.ownBlock) : BoxAt w1 b u0 u1 :=
  k.same ((hgrow.block b (by simp; omega) (fun e => by have := (h.lt b e.symm).1; omega)).trans (Below.heap_alloc wr o b (by omega)))
theorem BoxAt.below {w w' : World} {B b : Nat} {u0 u1 : Value} (k : BoxAt w b u0 u1) (h : Below B w w') (hb : b < B) : BoxAt w' b u0 u1 := k.same (h.block b hb)
set_option maxHeartbeats 2000000 in
theorem wholeOf_any (n : Int) (h0 : -1000000000000000 ≤ n) (h1 : n ≤ 1000000000000000) (w : World) :
    Calls Try.prog 51 #[.int .i64 n] w fun e w' => ∃ A c, e = .returned (.agg #[.bool (wneg n), .slice A (wlimbs n).length c]) ∧ Nums w' w.heap.size (.slice A (wlimbs n).length c) (wlimbs n) ∧ Below w.heap.size w w' := by
  obtain ⟨i0, hi, hz0, hz1, hz2⟩ := info_parts infoInt
  have hlen := small_len h0 h1
  obtain ⟨N, hN⟩ : ∃ N : Nat, N = n.natAbs := ⟨_, rfl⟩
  have HW := Lib.hid (show wlimbs n = digs N by unfold wlimbs; rw [hN])
  have HL := Lib.hid (show (digs N).length ≤ 4 by rw [← HW.out]; exact hlen)
  by_cases hneg : n < 0
  · have hb : decide (n < 0) = true := decide_eq_true (by omega)
    have HB0 := Lib.hid (signed_of n true hb)
    have HS : Hid (Split N [] (-n)) := by
      show _ ++ _ = _
      rw [show (-n).toNat = N by omega]; rfl
    have ha : absI n = -n := by unfold absI; omega
    go_enter Try.func51, Try.ntmps51
    go_wp2
    go_loopw [0, 4] (fun p v wr => ∃ (m : Int) (ys : List Int), 0 ≤ m ∧ m ≤ 1000000000000000 ∧ p = .int .i64 m ∧ Hid (Split N ys m) ∧ Hid (Dig ys) ∧ Hid (Nums wr (w.heap.size + 1) v ys) ∧ Hid (Below w.heap.size w wr) ∧ w.heap.size < wr.heap.size ∧ Hid (BoxAt wr w.heap.size (.bool false) (.slice none 0 0))) (fun p v _ => (intOf p).toNat)
    case atStart => exact ⟨_, [], by omega, by omega, rfl, HS, Dig.nil, Nums.nil _ _, Lib.hid (by repeat' (first | (with_reducible exact Below.refl _ _) | (with_reducible assumption) | (with_reducible refine Below.alloc ?_ ?_ _) | (with_reducible refine Below.drew ?_) | (with_reducible refine below_drewN ?_ _) | (with_reducible refine Below.setCell ?_ ?_ _) | go_size)), by simp, Lib.hid (by simp [BoxAt, go_sem])⟩
    case round =>
      obtain ⟨m, ys, m0, m1, rfl, HSp, HDg, HN, HB, hsz, HX⟩ := hrel
      have hln := HSp.out.len
      have hll := HL.out
      by_cases hm : 0 < m
      · have HO := Lib.hid (show wr.ownsRow (w.heap.size + 1) 3 1 _ ys.length (ys.map (Value.int .i64)) from HN.out)
        have HS2 := Lib.hid (HSp.out.next hm)
        have HD2 : Hid (Dig (ys ++ [m % 10000])) := HDg.out.append (Dig.cons (by omega) Dig.nil)
        go_wp2_with (at_builtin; refine wpList_append_own _ rfl _ _ 22 rfl (w.heap.size + 1) 3 i0 (.int .i64 0) 1 8 underInts hi hz0 hz1 hz2 rfl (by decide) _ _ _ rfl (World.ownsRow.alloc HO.out _) ⟨wr.heap.size, 0, none⟩ 1 1 [.int .i64 (m % 10000)] rfl rfl (one_at _ _ rfl) (one_cell _) (by unfold maxLen; omega) (by omega) (by simp; omega) ?_; intro v' w1 hown' hgrow _)
        have R := nums_step HN.out HB.out (Nat.le_succ _) (by omega) hown' hgrow
        have R1 := Lib.hid R.1
        have R2 := Lib.hid R.2
        have R3 := Lib.hid (HX.out.step HN.out (Nat.lt_succ_self _) (by omega) hgrow)
        have R4 : w.heap.size < w1.heap.size := by have := hgrow.size; simp at this; omega
        clear R hown' hgrow
        go_wp2
        go_roundw
        case rel => exact ⟨_, _, by omega, by omega, rfl, HS2, HD2, R1, R2, R4, R3⟩
        case measure => simp [intOf]; omega
      · have hm0 : m = 0 := by omega
        rw [hm0] at HSp
        have hys := HSp.out.done
        rw [← HW.out] at hys
        rw [hys] at HN HDg
        obtain ⟨A, c, hv⟩ := HN.out.slice
        rw [hv] at HN
        obtain ⟨x0, x1, x2, x3⟩ := HX.out
        have hl4 := hlen
        have hbw := HB.out
        clear hys hll hln
        rw [hv]
        clear hv
        go_wp2_with (go_at_call 49; refine (trimmed_any true n (HN.out.below (by (repeat' (first | (with_reducible exact Below.refl _ _) | (with_reducible assumption) | (with_reducible refine Below.alloc ?_ ?_ _) | (with_reducible refine Below.drew ?_) | (with_reducible refine below_drewN ?_ _) | (with_reducible refine Below.setCell ?_ ?_ _) | go_size)))).holds (by omega) HDg.out HB0.out).mono ?_; rintro e w2 ⟨A2, d2, rfl, n2, hb2⟩; have N2 := Lib.hid n2; clear n2; obtain ⟨hc2, hf2⟩ := bcell hb2; have hB2 : Below w.heap.size w w2 := Below.trans (by repeat' (first | (with_reducible exact Below.refl _ _) | (with_reducible assumption) | (with_reducible refine Below.alloc ?_ ?_ _) | (with_reducible refine Below.drew ?_) | (with_reducible refine below_drewN ?_ _) | (with_reducible refine Below.setCell ?_ ?_ _) | go_size)) (hb2.mono (by go_size)); (have hs2 := hb2.size); (try simp at hs2); (try (have hl2 := Nat.lt_of_succ_le hs2)); (first | (have hz2 : w.heap.size < w2.heap.size := by omega) | (have hz2 : w.heap.size ≤ w2.heap.size := by omega)); (try (have hz1_2 : w1.heap.size < w2.heap.size := by omega)); (try (have hz3_2 : w3.heap.size < w2.heap.size := by omega)); (try (have hz4_2 : w4.heap.size < w2.heap.size := by omega)); (try (have hz5_2 : w5.heap.size < w2.heap.size := by omega)); (try (have hzc_2 : wc.heap.size < w2.heap.size := by omega)); (try (have hy1_2 : w.heap.size + 1 < w2.heap.size := by omega)); (try (have hy2_2 : w.heap.size + 2 < w2.heap.size := by omega)); (try (have hy3_2 : w.heap.size + 3 < w2.heap.size := by omega)); (have k2_0 : w2.cell? ⟨w.heap.size, 0, none⟩ = some (.bool false) := by (rw [hb2.cell (by first | (simp; done) | (simp; omega) | omega)]; first | assumption | (simp [go_sem]; done) | (simp [*, go_sem]; done))); (have k2_1 : w2.cell? ⟨w.heap.size, 1, none⟩ = some (.slice none 0 0) := by (rw [hb2.cell (by first | (simp; done) | (simp; omega) | omega)]; first | assumption | (simp [go_sem]; done) | (simp [*, go_sem]; done))); (have k2_2 : w2.frozen? ⟨w.heap.size, 0, none⟩ = false := by (rw [hb2.frozen (by first | (simp; done) | (simp; omega) | omega)]; first | assumption | (simp [go_sem]; done) | (simp [*, go_sem]; done))); (have k2_3 : w2.frozen? ⟨w.heap.size, 1, none⟩ = false := by (rw [hb2.frozen (by first | (simp; done) | (simp; omega) | omega)]; first | assumption | (simp [go_sem]; done) | (simp [*, go_sem]; done))))
        refine bodyPost_ret (by simp [results, Try.results51, go_sem, *]; try rfl) rfl ?_
        exact ⟨A2, d2, rfl, ((N2.out.setBelow (by first | omega | (simp; done) | (simp; omega)) _).setBelow (by first | omega | (simp; done) | (simp; omega)) _).mono (by first | omega | (simp; done) | (simp; omega)), by repeat' (first | (with_reducible exact Below.refl _ _) | (with_reducible assumption) | (with_reducible refine Below.alloc ?_ ?_ _) | (with_reducible refine Below.drew ?_) | (with_reducible refine below_drewN ?_ _) | (with_reducible refine Below.setCell ?_ ?_ _) | go_size)⟩
  · have hb : decide (n < 0) = false := decide_eq_false (by omega)
    have HB0 := Lib.hid (signed_of n false hb)
    have HS : Hid (Split N [] (n)) := by
      show _ ++ _ = _
      rw [show (n).toNat = N by omega]; rfl
    have ha : absI n = n := by unfold absI; omega
    go_enter Try.func51, Try.ntmps51
    go_wp2
    go_loopw [0, 4] (fun p v wr => ∃ (m : Int) (ys : List Int), 0 ≤ m ∧ m ≤ 1000000000000000 ∧ p = .int .i64 m ∧ Hid (Split N ys m) ∧ Hid (Dig ys) ∧ Hid (Nums wr (w.heap.size + 1) v ys) ∧ Hid (Below w.heap.size w wr) ∧ w.heap.size < wr.heap.size ∧ Hid (BoxAt wr w.heap.size (.bool false) (.slice none 0 0))) (fun p v _ => (intOf p).toNat)
    case atStart => exact ⟨_, [], by omega, by omega, rfl, HS, Dig.nil, Nums.nil _ _, Lib.hid (by repeat' (first | (with_reducible exact Below.refl _ _) | (with_reducible assumption) | (with_reducible refine Below.alloc ?_ ?_ _) | (with_reducible refine Below.drew ?_) | (with_reducible refine below_drewN ?_ _) | (with_reducible refine Below.setCell ?_ ?_ _) | go_size)), by simp, Lib.hid (by simp [BoxAt, go_sem])⟩
    case round =>
      obtain ⟨m, ys, m0, m1, rfl, HSp, HDg, HN, HB, hsz, HX⟩ := hrel
      have hln := HSp.out.len
      have hll := HL.out
      by_cases hm : 0 < m
      · have HO := Lib.hid (show wr.ownsRow (w.heap.size + 1) 3 1 _ ys.length (ys.map (Value.int .i64)) from HN.out)
        have HS2 := Lib.hid (HSp.out.next hm)
        have HD2 : Hid (Dig (ys ++ [m % 10000])) := HDg.out.append (Dig.cons (by omega) Dig.nil)
        go_wp2_with (at_builtin; refine wpList_append_own _ rfl _ _ 22 rfl (w.heap.size + 1) 3 i0 (.int .i64 0) 1 8 underInts hi hz0 hz1 hz2 rfl (by decide) _ _ _ rfl (World.ownsRow.alloc HO.out _) ⟨wr.heap.size, 0, none⟩ 1 1 [.int .i64 (m % 10000)] rfl rfl (one_at _ _ rfl) (one_cell _) (by unfold maxLen; omega) (by omega) (by simp; omega) ?_; intro v' w1 hown' hgrow _)
        have R := nums_step HN.out HB.out (Nat.le_succ _) (by omega) hown' hgrow
        have R1 := Lib.hid R.1
        have R2 := Lib.hid R.2
        have R3 := Lib.hid (HX.out.step HN.out (Nat.lt_succ_self _) (by omega) hgrow)
        have R4 : w.heap.size < w1.heap.size := by have := hgrow.size; simp at this; omega
        clear R hown' hgrow
        go_wp2
        go_roundw
        case rel => exact ⟨_, _, by omega, by omega, rfl, HS2, HD2, R1, R2, R4, R3⟩
        case measure => simp [intOf]; omega
      · have hm0 : m = 0 := by omega
        rw [hm0] at HSp
        have hys := HSp.out.done
        rw [← HW.out] at hys
        rw [hys] at HN HDg
        obtain ⟨A, c, hv⟩ := HN.out.slice
        rw [hv] at HN
        obtain ⟨x0, x1, x2, x3⟩ := HX.out
        have hl4 := hlen
        have hbw := HB.out
        clear hys hll hln
        rw [hv]
        clear hv
        go_wp2_with (go_at_call 49; refine (trimmed_any false n (HN.out.below (by (repeat' (first | (with_reducible exact Below.refl _ _) | (with_reducible assumption) | (with_reducible refine Below.alloc ?_ ?_ _) | (with_reducible refine Below.drew ?_) | (with_reducible refine below_drewN ?_ _) | (with_reducible refine Below.setCell ?_ ?_ _) | go_size)))).holds (by omega) HDg.out HB0.out).mono ?_; rintro e w2 ⟨A2, d2, rfl, n2, hb2⟩; have N2 := Lib.hid n2; clear n2; obtain ⟨hc2, hf2⟩ := bcell hb2; have hB2 : Below w.heap.size w w2 := Below.trans (by repeat' (first | (with_reducible exact Below.refl _ _) | (with_reducible assumption) | (with_reducible refine Below.alloc ?_ ?_ _) | (with_reducible refine Below.drew ?_) | (with_reducible refine below_drewN ?_ _) | (with_reducible refine Below.setCell ?_ ?_ _) | go_size)) (hb2.mono (by go_size)); (have hs2 := hb2.size); (try simp at hs2); (try (have hl2 := Nat.lt_of_succ_le hs2)); (first | (have hz2 : w.heap.size < w2.heap.size := by omega) | (have hz2 : w.heap.size ≤ w2.heap.size := by omega)); (try (have hz1_2 : w1.heap.size < w2.heap.size := by omega)); (try (have hz3_2 : w3.heap.size < w2.heap.size := by omega)); (try (have hz4_2 : w4.heap.size < w2.heap.size := by omega)); (try (have hz5_2 : w5.heap.size < w2.heap.size := by omega)); (try (have hzc_2 : wc.heap.size < w2.heap.size := by omega)); (try (have hy1_2 : w.heap.size + 1 < w2.heap.size := by omega)); (try (have hy2_2 : w.heap.size + 2 < w2.heap.size := by omega)); (try (have hy3_2 : w.heap.size + 3 < w2.heap.size := by omega)); (have k2_0 : w2.cell? ⟨w.heap.size, 0, none⟩ = some (.bool false) := by (rw [hb2.cell (by first | (simp; done) | (simp; omega) | omega)]; first | assumption | (simp [go_sem]; done) | (simp [*, go_sem]; done))); (have k2_1 : w2.cell? ⟨w.heap.size, 1, none⟩ = some (.slice none 0 0) := by (rw [hb2.cell (by first | (simp; done) | (simp; omega) | omega)]; first | assumption | (simp [go_sem]; done) | (simp [*, go_sem]; done))); (have k2_2 : w2.frozen? ⟨w.heap.size, 0, none⟩ = false := by (rw [hb2.frozen (by first | (simp; done) | (simp; omega) | omega)]; first | assumption | (simp [go_sem]; done) | (simp [*, go_sem]; done))); (have k2_3 : w2.frozen? ⟨w.heap.size, 1, none⟩ = false := by (rw [hb2.frozen (by first | (simp; done) | (simp; omega) | omega)]; first | assumption | (simp [go_sem]; done) | (simp [*, go_sem]; done))))
        refine bodyPost_ret (by simp [results, Try.results51, go_sem, *]; try rfl) rfl ?_
        exact ⟨A2, d2, rfl, ((N2.out.setBelow (by first | omega | (simp; done) | (simp; omega)) _).setBelow (by first | omega | (simp; done) | (simp; omega)) _).mono (by first | omega | (simp; done) | (simp; omega)), by repeat' (first | (with_reducible exact Below.refl _ _) | (with_reducible assumption) | (with_reducible refine Below.alloc ?_ ?_ _) | (with_reducible refine Below.drew ?_) | (with_reducible refine below_drewN ?_ _) | (with_reducible refine Below.setCell ?_ ?_ _) | go_size)⟩
set_option maxHeartbeats 2000000 in
theorem bgOf_any (n : Int) (h0 : -1000000000000000 ≤ n) (h1 : n ≤ 1000000000000000) (w : World) :
    Calls Try.prog 38 #[.int .i64 n] w fun e w' => ∃ A c, e = .returned (.agg #[.bool (wneg n), .slice A (wlimbs n).length c]) ∧ Nums w' w.heap.size (.slice A (wlimbs n).length c) (wlimbs n) ∧ Below w.heap.size w w' := by
  obtain ⟨i0, hi, hz0, hz1, hz2⟩ := info_parts infoInt
  have hlen := small_len h0 h1
  obtain ⟨N, hN⟩ : ∃ N : Nat, N = n.natAbs := ⟨_, rfl⟩
  have HW := Lib.hid (show wlimbs n = digs N by unfold wlimbs; rw [hN])
  have HL := Lib.hid (show (digs N).length ≤ 4 by rw [← HW.out]; exact hlen)
  by_cases hneg : n < 0
  · have hb : decide (n < 0) = true := decide_eq_true (by omega)
    have HB0 := Lib.hid (signed_of n true hb)
    have HS : Hid (Split N [] (-n)) := by
      show _ ++ _ = _
      rw [show (-n).toNat = N by omega]; rfl
    have ha : absI n = -n := by unfold absI; omega
    go_enter Try.func38, Try.ntmps38
    go_wp2_with (go_at_call 44; refine (l1Abs_any _ (by omega) (by omega) _).mono ?_; rintro e w' ⟨rfl, rfl⟩)
    go_loopw [3, 4] (fun v p wr => ∃ (m : Int) (ys : List Int), 0 ≤ m ∧ m ≤ 1000000000000000 ∧ p = .int .i64 m ∧ Hid (Split N ys m) ∧ Hid (Dig ys) ∧ Hid (Nums wr (w.heap.size + 1) v ys) ∧ Hid (Below w.heap.size w wr) ∧ w.heap.size < wr.heap.size ∧ Hid (BoxAt wr w.heap.size (.bool false) (.slice none 0 0))) (fun v p _ => (intOf p).toNat)
    case atStart => exact ⟨_, [], by omega, by omega, rfl, HS, Dig.nil, Nums.nil _ _, Lib.hid (by repeat' (first | (with_reducible exact Below.refl _ _) | (with_reducible assumption) | (with_reducible refine Below.alloc ?_ ?_ _) | (with_reducible refine Below.drew ?_) | (with_reducible refine below_drewN ?_ _) | (with_reducible refine Below.setCell ?_ ?_ _) | go_size)), by simp, Lib.hid (by simp [BoxAt, go_sem])⟩
    case round =>
      obtain ⟨m, ys, m0, m1, rfl, HSp, HDg, HN, HB, hsz, HX⟩ := hrel
      have hln := HSp.out.len
      have hll := HL.out
      by_cases hm : 0 < m
      · have HO := Lib.hid (show wr.ownsRow (w.heap.size + 1) 3 1 _ ys.length (ys.map (Value.int .i64)) from HN.out)
        have HS2 := Lib.hid (HSp.out.next hm)
        have HD2 : Hid (Dig (ys ++ [m % 10000])) := HDg.out.append (Dig.cons (by omega) Dig.nil)
        go_wp2_with (at_builtin; refine wpList_append_own _ rfl _ _ 22 rfl (w.heap.size + 1) 3 i0 (.int .i64 0) 1 8 underInts hi hz0 hz1 hz2 rfl (by decide) _ _ _ rfl (World.ownsRow.alloc HO.out _) ⟨wr.heap.size, 0, none⟩ 1 1 [.int .i64 (m % 10000)] rfl rfl (one_at _ _ rfl) (one_cell _) (by unfold maxLen; omega) (by omega) (by simp; omega) ?_; intro v' w1 hown' hgrow _)
        have R := nums_step HN.out HB.out (Nat.le_succ _) (by omega) hown' hgrow
        have R1 := Lib.hid R.1
        have R2 := Lib.hid R.2
        have R3 := Lib.hid (HX.out.step HN.out (Nat.lt_succ_self _) (by omega) hgrow)
        have R4 : w.heap.size < w1.heap.size := by have := hgrow.size; simp at this; omega
        clear R hown' hgrow
        go_wp2
        go_roundw
        case rel => exact ⟨_, _, by omega, by omega, rfl, HS2, HD2, R1, R2, R4, R3⟩
        case measure => simp [intOf]; omega
      · have hm0 : m = 0 := by omega
        rw [hm0] at HSp
        have hys := HSp.out.done
        rw [← HW.out] at hys
        rw [hys] at HN HDg
        obtain ⟨A, c, hv⟩ := HN.out.slice
        rw [hv] at HN
        obtain ⟨x0, x1, x2, x3⟩ := HX.out
        have hl4 := hlen
        have hbw := HB.out
        clear hys hll hln
        rw [hv]
        clear hv
        go_wp2_with (go_at_call 36; refine (bgMake_any true n (HN.out.below (by (repeat' (first | (with_reducible exact Below.refl _ _) | (with_reducible assumption) | (with_reducible refine Below.alloc ?_ ?_ _) | (with_reducible refine Below.drew ?_) | (with_reducible refine below_drewN ?_ _) | (with_reducible refine Below.setCell ?_ ?_ _) | go_size)))).holds (by omega) HDg.out HB0.out).mono ?_; rintro e w2 ⟨A2, d2, rfl, n2, hb2⟩; have N2 := Lib.hid n2; clear n2; obtain ⟨hc2, hf2⟩ := bcell hb2; have hB2 : Below w.heap.size w w2 := Below.trans (by repeat' (first | (with_reducible exact Below.refl _ _) | (with_reducible assumption) | (with_reducible refine Below.alloc ?_ ?_ _) | (with_reducible refine Below.drew ?_) | (with_reducible refine below_drewN ?_ _) | (with_reducible refine Below.setCell ?_ ?_ _) | go_size)) (hb2.mono (by go_size)); (have hs2 := hb2.size); (try simp at hs2); (try (have hl2 := Nat.lt_of_succ_le hs2)); (first | (have hz2 : w.heap.size < w2.heap.size := by omega) | (have hz2 : w.heap.size ≤ w2.heap.size := by omega)); (try (have hz1_2 : w1.heap.size < w2.heap.size := by omega)); (try (have hz3_2 : w3.heap.size < w2.heap.size := by omega)); (try (have hz4_2 : w4.heap.size < w2.heap.size := by omega)); (try (have hz5_2 : w5.heap.size < w2.heap.size := by omega)); (try (have hzc_2 : wc.heap.size < w2.heap.size := by omega)); (try (have hy1_2 : w.heap.size + 1 < w2.heap.size := by omega)); (try (have hy2_2 : w.heap.size + 2 < w2.heap.size := by omega)); (try (have hy3_2 : w.heap.size + 3 < w2.heap.size := by omega)); (have k2_0 : w2.cell? ⟨w.heap.size, 0, none⟩ = some (.bool false) := by (rw [hb2.cell (by first | (simp; done) | (simp; omega) | omega)]; first | assumption | (simp [go_sem]; done) | (simp [*, go_sem]; done))); (have k2_1 : w2.cell? ⟨w.heap.size, 1, none⟩ = some (.slice none 0 0) := by (rw [hb2.cell (by first | (simp; done) | (simp; omega) | omega)]; first | assumption | (simp [go_sem]; done) | (simp [*, go_sem]; done))); (have k2_2 : w2.frozen? ⟨w.heap.size, 0, none⟩ = false := by (rw [hb2.frozen (by first | (simp; done) | (simp; omega) | omega)]; first | assumption | (simp [go_sem]; done) | (simp [*, go_sem]; done))); (have k2_3 : w2.frozen? ⟨w.heap.size, 1, none⟩ = false := by (rw [hb2.frozen (by first | (simp; done) | (simp; omega) | omega)]; first | assumption | (simp [go_sem]; done) | (simp [*, go_sem]; done))))
        refine bodyPost_ret (by simp [results, Try.results38, go_sem, *]; try rfl) rfl ?_
        exact ⟨A2, d2, rfl, ((N2.out.setBelow (by first | omega | (simp; done) | (simp; omega)) _).setBelow (by first | omega | (simp; done) | (simp; omega)) _).mono (by first | omega | (simp; done) | (simp; omega)), by repeat' (first | (with_reducible exact Below.refl _ _) | (with_reducible assumption) | (with_reducible refine Below.alloc ?_ ?_ _) | (with_reducible refine Below.drew ?_) | (with_reducible refine below_drewN ?_ _) | (with_reducible refine Below.setCell ?_ ?_ _) | go_size)⟩
  · have hb : decide (n < 0) = false := decide_eq_false (by omega)
    have HB0 := Lib.hid (signed_of n false hb)
    have HS : Hid (Split N [] (n)) := by
      show _ ++ _ = _
      rw [show (n).toNat = N by omega]; rfl
    have ha : absI n = n := by unfold absI; omega
    go_enter Try.func38, Try.ntmps38
    go_wp2_with (go_at_call 44; refine (l1Abs_any _ (by omega) (by omega) _).mono ?_; rintro e w' ⟨rfl, rfl⟩)
    go_loopw [3, 4] (fun v p wr => ∃ (m : Int) (ys : List Int), 0 ≤ m ∧ m ≤ 1000000000000000 ∧ p = .int .i64 m ∧ Hid (Split N ys m) ∧ Hid (Dig ys) ∧ Hid (Nums wr (w.heap.size + 1) v ys) ∧ Hid (Below w.heap.size w wr) ∧ w.heap.size < wr.heap.size ∧ Hid (BoxAt wr w.heap.size (.bool false) (.slice none 0 0))) (fun v p _ => (intOf p).toNat)
    case atStart => exact ⟨_, [], by omega, by omega, rfl, HS, Dig.nil, Nums.nil _ _, Lib.hid (by repeat' (first | (with_reducible exact Below.refl _ _) | (with_reducible assumption) | (with_reducible refine Below.alloc ?_ ?_ _) | (with_reducible refine Below.drew ?_) | (with_reducible refine below_drewN ?_ _) | (with_reducible refine Below.setCell ?_ ?_ _) | go_size)), by simp, Lib.hid (by simp [BoxAt, go_sem])⟩
    case round =>
      obtain ⟨m, ys, m0, m1, rfl, HSp, HDg, HN, HB, hsz, HX⟩ := hrel
      have hln := HSp.out.len
      have hll := HL.out
      by_cases hm : 0 < m
      · have HO := Lib.hid (show wr.ownsRow (w.heap.size + 1) 3 1 _ ys.length (ys.map (Value.int .i64)) from HN.out)
        have HS2 := Lib.hid (HSp.out.next hm)
        have HD2 : Hid (Dig (ys ++ [m % 10000])) := HDg.out.append (Dig.cons (by omega) Dig.nil)
        go_wp2_with (at_builtin; refine wpList_append_own _ rfl _ _ 22 rfl (w.heap.size + 1) 3 i0 (.int .i64 0) 1 8 underInts hi hz0 hz1 hz2 rfl (by decide) _ _ _ rfl (World.ownsRow.alloc HO.out _) ⟨wr.heap.size, 0, none⟩ 1 1 [.int .i64 (m % 10000)] rfl rfl (one_at _ _ rfl) (one_cell _) (by unfold maxLen; omega) (by omega) (by simp; omega) ?_; intro v' w1 hown' hgrow _)
        have R := nums_step HN.out HB.out (Nat.le_succ _) (by omega) hown' hgrow
        have R1 := Lib.hid R.1
        have R2 := Lib.hid R.2
        have R3 := Lib.hid (HX.out.step HN.out (Nat.lt_succ_self _) (by omega) hgrow)
        have R4 : w.heap.size < w1.heap.size := by have := hgrow.size; simp at this; omega
        clear R hown' hgrow
        go_wp2
        go_roundw
        case rel => exact ⟨_, _, by omega, by omega, rfl, HS2, HD2, R1, R2, R4, R3⟩
        case measure => simp [intOf]; omega
      · have hm0 : m = 0 := by omega
        rw [hm0] at HSp
        have hys := HSp.out.done
        rw [← HW.out] at hys
        rw [hys] at HN HDg
        obtain ⟨A, c, hv⟩ := HN.out.slice
        rw [hv] at HN
        obtain ⟨x0, x1, x2, x3⟩ := HX.out
        have hl4 := hlen
        have hbw := HB.out
        clear hys hll hln
        rw [hv]
        clear hv
        go_wp2_with (go_at_call 36; refine (bgMake_any false n (HN.out.below (by (repeat' (first | (with_reducible exact Below.refl _ _) | (with_reducible assumption) | (with_reducible refine Below.alloc ?_ ?_ _) | (with_reducible refine Below.drew ?_) | (with_reducible refine below_drewN ?_ _) | (with_reducible refine Below.setCell ?_ ?_ _) | go_size)))).holds (by omega) HDg.out HB0.out).mono ?_; rintro e w2 ⟨A2, d2, rfl, n2, hb2⟩; have N2 := Lib.hid n2; clear n2; obtain ⟨hc2, hf2⟩ := bcell hb2; have hB2 : Below w.heap.size w w2 := Below.trans (by repeat' (first | (with_reducible exact Below.refl _ _) | (with_reducible assumption) | (with_reducible refine Below.alloc ?_ ?_ _) | (with_reducible refine Below.drew ?_) | (with_reducible refine below_drewN ?_ _) | (with_reducible refine Below.setCell ?_ ?_ _) | go_size)) (hb2.mono (by go_size)); (have hs2 := hb2.size); (try simp at hs2); (try (have hl2 := Nat.lt_of_succ_le hs2)); (first | (have hz2 : w.heap.size < w2.heap.size := by omega) | (have hz2 : w.heap.size ≤ w2.heap.size := by omega)); (try (have hz1_2 : w1.heap.size < w2.heap.size := by omega)); (try (have hz3_2 : w3.heap.size < w2.heap.size := by omega)); (try (have hz4_2 : w4.heap.size < w2.heap.size := by omega)); (try (have hz5_2 : w5.heap.size < w2.heap.size := by omega)); (try (have hzc_2 : wc.heap.size < w2.heap.size := by omega)); (try (have hy1_2 : w.heap.size + 1 < w2.heap.size := by omega)); (try (have hy2_2 : w.heap.size + 2 < w2.heap.size := by omega)); (try (have hy3_2 : w.heap.size + 3 < w2.heap.size := by omega)); (have k2_0 : w2.cell? ⟨w.heap.size, 0, none⟩ = some (.bool false) := by (rw [hb2.cell (by first | (simp; done) | (simp; omega) | omega)]; first | assumption | (simp [go_sem]; done) | (simp [*, go_sem]; done))); (have k2_1 : w2.cell? ⟨w.heap.size, 1, none⟩ = some (.slice none 0 0) := by (rw [hb2.cell (by first | (simp; done) | (simp; omega) | omega)]; first | assumption | (simp [go_sem]; done) | (simp [*, go_sem]; done))); (have k2_2 : w2.frozen? ⟨w.heap.size, 0, none⟩ = false := by (rw [hb2.frozen (by first | (simp; done) | (simp; omega) | omega)]; first | assumption | (simp [go_sem]; done) | (simp [*, go_sem]; done))); (have k2_3 : w2.frozen? ⟨w.heap.size, 1, none⟩ = false := by (rw [hb2.frozen (by first | (simp; done) | (simp; omega) | omega)]; first | assumption | (simp [go_sem]; done) | (simp [*, go_sem]; done))))
        refine bodyPost_ret (by simp [results, Try.results38, go_sem, *]; try rfl) rfl ?_
        exact ⟨A2, d2, rfl, ((N2.out.setBelow (by first | omega | (simp; done) | (simp; omega)) _).setBelow (by first | omega | (simp; done) | (simp; omega)) _).mono (by first | omega | (simp; done) | (simp; omega)), by repeat' (first | (with_reducible exact Below.refl _ _) | (with_reducible assumption) | (with_reducible refine Below.alloc ?_ ?_ _) | (with_reducible refine Below.drew ?_) | (with_reducible refine below_drewN ?_ _) | (with_reducible refine Below.setCell ?_ ?_ _) | go_size)⟩
theorem bgMinus_any (z : Int) {A : Option Addr} {c : Nat} {w : World} (h : Holds w (.slice A (wlimbs z).length c) (wlimbs z)) (hl : (wlimbs z).length ≤ 1048576) :
    Calls Try.prog 48 #[.agg #[.bool (wneg z), .slice A (wlimbs z).length c]] w fun e w' => ∃ A c, e = .returned (.agg #[.bool (wneg (-z)), .slice A (wlimbs (-z)).length c]) ∧ Nums w' w.heap.size (.slice A (wlimbs (-z)).length c) (wlimbs (-z)) ∧ Below w.heap.size w w' := by
  have H := Lib.hid h
  have HZ : Hid (-z = if !wneg z then - dv (wlimbs z) else dv (wlimbs z)) := by
    show _ = _
    rw [dv_wlimbs]
    by_cases h : z < 0
    · simp [wneg, h]; omega
    · simp [wneg, h]; omega
  have HL := Lib.hid (wlimbs_neg z)
  clear h
  go_enter Try.func48, Try.ntmps48
  go_wp2_with (go_at_call 36; refine (bgMake_any (!wneg z) (-z) (H.out.below (by (repeat' (first | (with_reducible exact Below.refl _ _) | (with_reducible assumption) | (with_reducible refine Below.alloc ?_ ?_ _) | (with_reducible refine Below.drew ?_) | (with_reducible refine below_drewN ?_ _) | (with_reducible refine Below.setCell ?_ ?_ _) | go_size)))) hl (wlimbs_Dig z) HZ.out).mono ?_; rintro e w2 ⟨A2, d2, rfl, n2, hb2⟩; have N2 := Lib.hid n2; clear n2; obtain ⟨hc2, hf2⟩ := bcell hb2; have hB2 : Below w.heap.size w w2 := Below.trans (by repeat' (first | (with_reducible exact Below.refl _ _) | (with_reducible assumption) | (with_reducible refine Below.alloc ?_ ?_ _) | (with_reducible refine Below.drew ?_) | (with_reducible refine below_drewN ?_ _) | (with_reducible refine Below.setCell ?_ ?_ _) | go_size)) (hb2.mono (by go_size)); (have hs2 := hb2.size); (try simp at hs2); (try (have hl2 := Nat.lt_of_succ_le hs2)); (first | (have hz2 : w.heap.size < w2.heap.size := by omega) | (have hz2 : w.heap.size ≤ w2.heap.size := by omega)); (try (have hz1_2 : w1.heap.size < w2.heap.size := by omega)); (try (have hz3_2 : w3.heap.size < w2.heap.size := by omega)); (try (have hz4_2 : w4.heap.size < w2.heap.size := by omega)); (try (have hz5_2 : w5.heap.size < w2.heap.size := by omega)); (try (have hzc_2 : wc.heap.size < w2.heap.size := by omega)); (try (have hy1_2 : w.heap.size + 1 < w2.heap.size := by omega)); (try (have hy2_2 : w.heap.size + 2 < w2.heap.size := by omega)); (try (have hy3_2 : w.heap.size + 3 < w2.heap.size := by omega)); (have k2_0 : w2.cell? ⟨w.heap.size + 1, 0, none⟩ = some (.bool false) := by (rw [hb2.cell (by first | (simp; done) | (simp; omega) | omega)]; first | assumption | (simp [go_sem]; done) | (simp [*, go_sem]; done))); (have k2_1 : w2.cell? ⟨w.heap.size + 1, 1, none⟩ = some (.slice none 0 0) := by (rw [hb2.cell (by first | (simp; done) | (simp; omega) | omega)]; first | assumption | (simp [go_sem]; done) | (simp [*, go_sem]; done))); (have k2_2 : w2.frozen? ⟨w.heap.size + 1, 0, none⟩ = false := by (rw [hb2.frozen (by first | (simp; done) | (simp; omega) | omega)]; first | assumption | (simp [go_sem]; done) | (simp [*, go_sem]; done))); (have k2_3 : w2.frozen? ⟨w.heap.size + 1, 1, none⟩ = false := by (rw [hb2.frozen (by first | (simp; done) | (simp; omega) | omega)]; first | assumption | (simp [go_sem]; done) | (simp [*, go_sem]; done))))
  refine bodyPost_ret (by simp [results, Try.results48, go_sem, *]; try rfl) rfl ?_
  exact ⟨A2, d2, rfl, ((N2.out.setBelow (by first | omega | (simp; done) | (simp; omega)) _).setBelow (by first | omega | (simp; done) | (simp; omega)) _).mono (by first | omega | (simp; done) | (simp; omega)), by repeat' (first | (with_reducible exact Below.refl _ _) | (with_reducible assumption) | (with_reducible refine Below.alloc ?_ ?_ _) | (with_reducible refine Below.drew ?_) | (with_reducible refine below_drewN ?_ _) | (with_reducible refine Below.setCell ?_ ?_ _) | go_size)⟩
end Go.Proofs.Ytcplelcblfjpoaa
