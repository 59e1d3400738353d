/- Contract of spec.bgMul. -/
import Derived.Test.YtfaglhhkcgjbnaaWhMulL
namespace Go.Proofs.Ytfaglhhkcgjbnaa
open Go.RowKit
set_option linter.unusedVariables false
set_option linter.unusedSimpArgs false
theorem dig_set {ss : List Int} {k : Nat} {x : Int} (hk : k < ss.length) (j : Nat) : dig (ss.set k x) j = if j = k then x else dig ss j := by
  unfold dig
  by_cases h : j = k
  · subst h
    rw [if_pos rfl, List.getElem?_set_self hk]; rfl
  · rw [if_neg h, List.getElem?_set_ne (fun e => h e.symm)]
def MulSum (xs ys ss : List Int) (n i : Nat) : Prop := ss.length = n ∧ (∀ j, 0 ≤ dig ss j ∧ dig ss j ≤ (i : Int) * 99980001) ∧ dv ss = dv (xs.take i) * dv ys
def MulSumIn (xs ys ss : List Int) (n i k : Nat) (x : Int) : Prop :=
  ss.length = n ∧ (∀ j, 0 ≤ dig ss j ∧ dig ss j ≤ ((i : Int) + 1) * 99980001 ∧ (i + k ≤ j → dig ss j ≤ (i : Int) * 99980001)) ∧ dv ss = dv (xs.take i) * dv ys + x * 10000 ^ i * dv (ys.take k)
theorem MulSum.start (xs ys : List Int) (n : Nat) : MulSum xs ys (List.replicate n 0) n 0 := by
  refine ⟨List.length_replicate, fun j => ?_, by simp [dv_zeros, dv]⟩
  have : dig (List.replicate n 0) j = 0 := by
    unfold dig
    rw [List.getElem?_replicate]; split <;> rfl
  omega
theorem MulSumIn.start {xs ys ss : List Int} {n i : Nat} (h : MulSum xs ys ss n i) (x : Int) : MulSumIn xs ys ss n i 0 x :=
  ⟨h.1, fun j => by have := h.2.1 j; omega, by rw [h.2.2]; simp [dv]⟩
theorem MulSumIn.next {xs ys ss : List Int} {n i k : Nat} {x : Int} (h : MulSumIn xs ys ss n i k x) (hk : k < ys.length) (hn : i + k < n) (hp : 0 ≤ x * dig ys k ∧ x * dig ys k ≤ 99980001) :
    MulSumIn xs ys (ss.set (i + k) (dig ss (i + k) + x * dig ys k)) n i (k + 1) x := by
  obtain ⟨a1, a2, a3⟩ := h
  have hi : i + k < ss.length := by omega
  refine ⟨by rw [List.length_set]; exact a1, fun j => ?_, ?_⟩
  · rw [dig_set hi]
    have h1 := a2 j
    have h2 := a2 (i + k)
    split
    · rename_i e
      subst e
      have := h2.2.2 (Nat.le_refl _)
      omega
    · exact ⟨h1.1, h1.2.1, fun e => h1.2.2 (by omega)⟩
  · have hx := List.getElem?_eq_getElem hi
    rw [dv_set ss (i + k) _ _ hx, a3, ← dig_some hx, dv_take_dig ys k hk, Int.mul_add, Int.add_assoc]
    congr 2
    have e4 : (10000 : Int) ^ (i + k) = 10000 ^ i * 10000 ^ k := Int.pow_add ..
    rw [show dig ss (i + k) + x * dig ys k - dig ss (i + k) = x * dig ys k by omega, e4, Int.mul_assoc x, Int.mul_assoc x]
    congr 1
    rw [Int.mul_comm (dig ys k), Int.mul_assoc]
theorem MulSumIn.done {xs ys ss : List Int} {n i k : Nat} {x : Int} (h : MulSumIn xs ys ss n i k x) (hk : ys.length ≤ k) (hi : i < xs.length) (hx : x = dig xs i) : MulSum xs ys ss n (i + 1) := by
  obtain ⟨a1, a2, a3⟩ := h
  refine ⟨a1, fun j => ⟨(a2 j).1, by have := (a2 j).2.1; omega⟩, ?_⟩
  rw [a3, List.take_of_length_le hk, dv_take_dig xs i hi, Int.add_mul, hx, Int.mul_comm (dig xs i)]
/-- Behind j carries. -/
def CarryIn (ss es : List Int) (j : Nat) (c : Int) : Prop := ∃ ds : List Int, ds.length = j ∧ Dig ds ∧ es = ds ++ ss.drop j ∧ dv ds + 10000 ^ j * (c + dv (ss.drop j)) = dv ss ∧ 0 ≤ c ∧ c ≤ 10000000000000
theorem CarryIn.start (ss : List Int) : CarryIn ss ss 0 0 := ⟨[], rfl, Dig.nil, rfl, by simp [dv], by omega, by omega⟩
theorem CarryIn.at {ss es : List Int} {j : Nat} {c : Int} (h : CarryIn ss es j c) (hj : j < ss.length) : es[j]? = some (dig ss j) := by
  obtain ⟨ds, a1, _, a3, _⟩ := h
  have hx := List.getElem?_eq_getElem hj
  rw [a3, List.getElem?_append_right (by omega), a1, Nat.sub_self, List.getElem?_drop, Nat.add_zero, hx, dig_some hx]
theorem CarryIn.next {ss es : List Int} {j : Nat} {c t : Int} (h : CarryIn ss es j c) (hj : j < ss.length) (ht : t = dig ss j + c) (h0 : 0 ≤ dig ss j) (h1 : dig ss j ≤ 10000000000000) : CarryIn ss (es.set j (t % 10000)) (j + 1) (t / 10000) := by
  obtain ⟨ds, a1, a2, a3, a4, a5, a6⟩ := h
  refine ⟨ds ++ [t % 10000], by simp [a1], a2.append (Dig.cons (by omega) Dig.nil), ?_, ?_, by omega, by omega⟩
  · have hx := List.drop_eq_getElem_cons hj
    rw [a3, List.set_append_right _ _ (by omega), a1, Nat.sub_self, hx, List.set_cons_zero, List.append_assoc]
    rfl
  · rw [← a4, dv_append, a1, dv_dropd (xs := ss) j, show dv [t % 10000] = t % 10000 by simp [dv]]
    have e1 : c + (dig ss j + 10000 * dv (ss.drop (j + 1))) = t % 10000 + 10000 * (t / 10000 + dv (ss.drop (j + 1))) := by omega
    rw [e1]
    generalize t / 10000 + dv (ss.drop (j + 1)) = E
    rw [Int.mul_add ((10000 : Int) ^ j) (t % 10000), Int.pow_succ, Int.mul_assoc, Int.add_assoc]
theorem CarryIn.done {ss es : List Int} {j : Nat} {c : Int} (h : CarryIn ss es j c) (hj : ss.length ≤ j) (hlt : dv ss < 10000 ^ j) : Dig es ∧ es.length = j ∧ dv es = dv ss := by
  obtain ⟨ds, a1, a2, a3, a4, a5, a6⟩ := h
  rw [List.drop_eq_nil_of_le hj] at a3 a4
  rw [List.append_nil] at a3
  subst a3
  simp only [dv, Int.add_zero] at a4
  have h2 := dv_nonneg a2
  have hp := pow_pos' j
  have h4 : c = 0 := by
    refine Classical.byContradiction fun h => ?_
    have h5 : (10000 : Int) ^ j * 1 ≤ 10000 ^ j * c := Int.mul_le_mul_of_nonneg_left (by omega) (by omega)
    omega
  rw [h4, Int.mul_zero] at a4
  exact ⟨a2, a1, by omega⟩
theorem mul_entries {i : Nat} (hi : i ≤ 100000) : (i : Int) * 99980001 ≤ 10000000000000 := by omega
set_option maxHeartbeats 8000000 in
theorem bgMul_any (y z : Int) {A A' : Option Addr} {cy cz : Nat} {w : World} (h : Holds w (.slice A (wlimbs y).length cy) (wlimbs y)) (h' : Holds w (.slice A' (wlimbs z).length cz) (wlimbs z)) (hl : (wlimbs y).length ≤ 100000) (hl' : (wlimbs z).length ≤ 100000) :
    Calls Try.prog 76 #[.agg #[.bool (wneg y), .slice A (wlimbs y).length cy], .agg #[.bool (wneg z), .slice A' (wlimbs z).length cz]] w fun e w' => ∃ A c, e = .returned (.agg #[.bool (wneg (y * z)), .slice A (wlimbs (y * z)).length c]) ∧ Nums w' w.heap.size (.slice A (wlimbs (y * z)).length c) (wlimbs (y * z)) ∧ Below w.heap.size w w' := by
  obtain ⟨i0, hi, hz0, hz1, hz2⟩ := info_parts infoInt
  have HC := Lib.hid h.cells
  have HC' := Lib.hid h'.cells
  clear h h'
  obtain ⟨n, hn, n2⟩ : ∃ n : Nat, ((n : Nat) : Int) = ((wlimbs y).length : Int) + ((wlimbs z).length : Int) ∧ n ≤ 200000 := ⟨(wlimbs y).length + (wlimbs z).length, by omega, by omega⟩
  have n1 : (wlimbs y).length + (wlimbs z).length ≤ n := by omega
  have HN := Lib.hid hn
  clear hn
  have HD := Lib.hid (wlimbs_Dig y)
  have HD' := Lib.hid (wlimbs_Dig z)
  go_enter Try.func76, Try.ntmps76
  go_wp2_with (at_make; refine wpList_make_full _ rfl _ _ 22 rfl (w.heap.size + 1 + 1 + 1) 3 i0 (.int .i64 0) 1 underInts hi hz0 hz1 .i64 .i64 _ _ n rfl rfl (by have := HN.out; omega) (by have := HN.out; omega) (by rw [hz2]; omega) (by unfold maxLen; omega) (by simp) ?_; intro w1 hown hgrow; have k1_0 : w1.cell? ⟨w.heap.size, 1, none⟩ = some (.slice A (wlimbs y).length cy) := hgrow.cell (by simp [go_sem]) (by simp); have k1_1 : w1.cell? ⟨w.heap.size, 0, none⟩ = some (.bool (wneg y)) := hgrow.cell (by simp [go_sem]) (by simp); have k1_2 : w1.cell? ⟨w.heap.size + 1, 1, none⟩ = some (.slice A' (wlimbs z).length cz) := hgrow.cell (by simp [go_sem]) (by simp); have k1_3 : w1.cell? ⟨w.heap.size + 1, 0, none⟩ = some (.bool (wneg z)) := hgrow.cell (by simp [go_sem]) (by simp))
  simp only [World.size_alloc] at hown
  have R1 := Lib.hid (row_made hown)
  have hb1 := (Below.refl (w.heap.size + 1 + 1 + 1) _).grown hgrow (by simp) (fun k h => by cases h)
  have b1 : Below w.heap.size w w1 := Below.trans (by repeat' (first | (with_reducible exact Below.refl _ _) | (with_reducible assumption) | (with_reducible refine Below.alloc ?_ ?_ _) | (with_reducible refine Below.drew ?_) | (with_reducible refine below_drewN ?_ _) | (with_reducible refine Below.setCell ?_ ?_ _) | go_size)) (hb1.mono (by omega))
  have XR := Lib.hid (show BoxAt w1 (w.heap.size + 1 + 1) (.bool false) (.slice none 0 0) from ⟨(hb1.cell (by simp)).trans (by simp [go_sem]), (hb1.cell (by simp)).trans (by simp [go_sem]), (hb1.frozen (by simp)).trans (by simp [go_sem]), (hb1.frozen (by simp)).trans (by simp [go_sem])⟩)
  have K0 := Lib.hid k1_0
  have K1 := Lib.hid k1_1
  have K2 := Lib.hid k1_2
  have K3 := Lib.hid k1_3
  have B1 := Lib.hid b1
  have q1 : w.heap.size + 1 + 1 + 1 < w1.heap.size := by have := R1.out.lt.2; omega
  clear hown hgrow hb1 b1 k1_0 k1_1 k1_2 k1_3
  go_loopw [24] (fun t wr => ∃ (i : Nat) (ds : List Int), i ≤ (wlimbs y).length ∧ t = .int .i64 i ∧ Hid (MulSum (wlimbs y) (wlimbs z) ds n i) ∧ Hid (Row wr (w.heap.size + 1 + 1 + 1) (w.heap.size + 1 + 1 + 1) n n ds) ∧ Hid (Below (w.heap.size + 1 + 1 + 1) w1 wr)) (fun t _ => (wlimbs y).length - (intOf t).toNat)
  case atStart => exact ⟨0, _, by omega, rfl, MulSum.start _ _ _, R1, Below.refl _ _⟩
  case round =>
    obtain ⟨i, ds, hin, rfl, HO, HR, HB⟩ := hrel
    have hgs := HR.out.lt.2
    by_cases hlt : i < (wlimbs y).length
    · obtain ⟨gx, hxA, hxg, hxc⟩ := HC.out i hlt
      have hcx : wr.cell? ⟨gx, i, none⟩ = some (.int .i64 (dig (wlimbs y) i)) := (HB.out.cell (by show gx < _; omega)).trans ((B1.out.cell hxg).trans hxc)
      have k2 : wr.cell? ⟨w.heap.size + 1, 1, none⟩ = some (.slice A' (wlimbs z).length cz) := (HB.out.cell (p := ⟨w.heap.size + 1, 1, none⟩) (by show w.heap.size + 1 < _; omega)).trans K2.out
      subst hxA
      clear hxg hxc
      have b0 : (0 : Int) ≤ (i : Int) := by omega
      have b2 : (i : Int) < ((wlimbs y).length : Int) := by omega
      have ux := HD.out.dig i
      have HI0 := Lib.hid (MulSumIn.start HO.out (dig (wlimbs y) i))
      go_wp2
      clear k2 hcx
      go_loopw [32] (fun t ws => ∃ (k : Nat) (es : List Int), k ≤ (wlimbs z).length ∧ t = .int .i64 k ∧ Hid (MulSumIn (wlimbs y) (wlimbs z) es n i k (dig (wlimbs y) i)) ∧ Hid (Row ws (w.heap.size + 1 + 1 + 1) (w.heap.size + 1 + 1 + 1) n n es) ∧ Hid (Below (w.heap.size + 1 + 1 + 1) w1 ws)) (fun t _ => (wlimbs z).length - (intOf t).toNat)
      case atStart => exact ⟨0, _, by omega, rfl, HI0, HR, HB⟩
      case round =>
        obtain ⟨k, es, hkn, rfl, HI, HS, HT⟩ := hrel
        have hgt := HS.out.lt.2
        have d0 : (0 : Int) ≤ (k : Int) := by omega
        by_cases hk : k < (wlimbs z).length
        · have d2 : (k : Int) < ((wlimbs z).length : Int) := by omega
          have d3 : (i : Int) + (k : Int) < (n : Int) := by omega
          have he : i + k < es.length := by rw [HI.out.1]; omega
          have hu : es[i + k]? = some (dig es (i + k)) := by have := List.getElem?_eq_getElem he; rw [this, dig_some this]
          have hcu := HS.out.cell hu
          have hf := HS.out.free (i + k)
          have uu := (HI.out.2.1 (i + k)).1
          have uu2 := (HI.out.2.1 (i + k)).2.1
          have uu3 : dig es (i + k) ≤ 10000000000000 := by omega
          clear hu he uu2
          obtain ⟨gy, hyA, hyg, hyc⟩ := HC'.out k hk
          have hcy : wr.cell? ⟨gy, k, none⟩ = some (.int .i64 (dig (wlimbs z) k)) := (HT.out.cell (by show gy < _; omega)).trans ((B1.out.cell hyg).trans hyc)
          have HYA := Lib.hid hyA
          clear hyA hyg hyc
          rw [HYA.out]
          have uv := HD'.out.dig k
          have pm := dig_mul ux uv
          have HS2 := Lib.hid (HI.out.next hk (by omega) pm)
          have S1 := Lib.hid (HS.out.set (i + k) (dig es (i + k) + dig (wlimbs y) i * dig (wlimbs z) k))
          have S2 := Lib.hid (HT.out.setCell (p := ⟨w.heap.size + 1 + 1 + 1, i + k, none⟩) (Nat.le_refl _) (.int .i64 (dig es (i + k) + dig (wlimbs y) i * dig (wlimbs z) k)))
          go_wp2
          go_roundw
          case rel => exact ⟨k + 1, _, by omega, by go_num, HS2, S1, S2⟩
          case measure => simp [intOf]; omega
        · have HO2 := Lib.hid (HI.out.done (by omega) hlt rfl)
          go_wp2
          go_roundw
          case rel => exact ⟨i + 1, _, by omega, by go_num, HO2, HS, HT⟩
          case measure => simp [intOf]; omega
    · have hi2 : i = (wlimbs y).length := by omega
      have HE := Lib.hid (show ds.length = n ∧ (∀ j, 0 ≤ dig ds j ∧ dig ds j ≤ 10000000000000) ∧ dv ds = dv (wlimbs y) * dv (wlimbs z) ∧ dv ds < 10000 ^ n by
        obtain ⟨a1, a2, a3⟩ := HO.out
        have hm := mul_lt_pow HD.out HD'.out i n n1
        rw [List.take_of_length_le (by omega)] at a3 hm
        exact ⟨a1, fun j => ⟨(a2 j).1, by have := (a2 j).2; have := mul_entries (show i ≤ 100000 by omega); omega⟩, a3, by omega⟩)
      clear hi2
      go_wp2
      go_loopw [10, 52] (fun cy t ws => ∃ (j : Nat) (c : Int) (es : List Int), j ≤ n ∧ t = .int .i64 j ∧ cy = .int .i64 c ∧ Hid (CarryIn ds es j c) ∧ Hid (Row ws (w.heap.size + 1 + 1 + 1) (w.heap.size + 1 + 1 + 1) n n es) ∧ Hid (Below (w.heap.size + 1 + 1 + 1) w1 ws)) (fun _ t _ => n - (intOf t).toNat)
      case atStart => exact ⟨0, 0, _, by omega, rfl, rfl, CarryIn.start _, HR, HB⟩
      case round =>
        obtain ⟨j, c, es, hjn, rfl, rfl, HI, HS, HT⟩ := hrel
        have hgt := HS.out.lt.2
        obtain ⟨c0, c1⟩ : 0 ≤ c ∧ c ≤ 10000000000000 := by obtain ⟨_, _, _, _, _, h⟩ := HI.out; exact h
        have d0 : (0 : Int) ≤ (j : Int) := by omega
        by_cases hj : j < n
        · have d2 : (j : Int) < (n : Int) := by omega
          have hjd : j < ds.length := by rw [HE.out.1]; exact hj
          have hcu := HS.out.cell (HI.out.at hjd)
          have hf := HS.out.free j
          have uu := (HE.out.2.1 j).1
          have uu2 := (HE.out.2.1 j).2
          have HS2 := Lib.hid (HI.out.next hjd rfl uu uu2)
          have S1 := Lib.hid (HS.out.set j ((dig ds j + c) % 10000))
          have S2 := Lib.hid (HT.out.setCell (p := ⟨w.heap.size + 1 + 1 + 1, j, none⟩) (Nat.le_refl _) (.int .i64 ((dig ds j + c) % 10000)))
          clear hjd
          go_wp2
          go_roundw
          case rel => exact ⟨j + 1, _, _, by omega, by go_num, rfl, HS2, S1, S2⟩
          case measure => simp [intOf]; omega
        · have hjn2 : j = n := by omega
          have HF := Lib.hid (HI.out.done (by rw [HE.out.1]; omega) (by rw [hjn2]; exact HE.out.2.2.2))
          have HZ := Lib.hid (mul_signed y z (HF.out.2.2.trans HE.out.2.2.1))
          have hl3 : es.length ≤ 1048576 := by have := HS.out.1; omega
          have HL5 := Lib.hid HS.out.1
          have hn5 := HS.out.nums
          rw [← HL5.out] at hn5
          have HN5 := Lib.hid hn5
          clear hn5 hjn2
          have hq1 := HT.out.size
          have x1 : wr.cell? ⟨w.heap.size, 0, none⟩ = some (.bool (wneg y)) := (HT.out.cell (p := ⟨w.heap.size, 0, none⟩) (by show w.heap.size < _; omega)).trans K1.out
          have x3 : wr.cell? ⟨w.heap.size + 1, 0, none⟩ = some (.bool (wneg z)) := (HT.out.cell (p := ⟨w.heap.size + 1, 0, none⟩) (by show w.heap.size + 1 < _; omega)).trans K3.out
          obtain ⟨y0, y1, y2, y3⟩ := XR.out.below HT.out (by omega)
          have hbw : Below w.heap.size w wr := B1.out.trans (HT.out.mono (by omega))
          have hj5 : ¬ j < es.length := by have := HL5.out; omega
          have hj6 : (es.length : Int) ≤ (j : Int) := by omega
          rw [← HL5.out]
          go_wp2_with (go_at_call 93; refine (bgMake_any (wneg y != wneg z) (y * z) HN5.out.holds hl3 HF.out.1 HZ.out).mono ?_; rintro e w2 ⟨A2, d2, rfl, n2, hb2⟩; have N2 := Lib.hid n2; clear n2; obtain ⟨hc2, hf2⟩ := bcell hb2; have hB2 : Below w.heap.size w w2 := Below.trans (by repeat' (first | (with_reducible exact Below.refl _ _) | (with_reducible assumption) | (with_reducible refine Below.alloc ?_ ?_ _) | (with_reducible refine Below.drew ?_) | (with_reducible refine below_drewN ?_ _) | (with_reducible refine Below.setCell ?_ ?_ _) | go_size)) (hb2.mono (by go_size)); (have hs2 := hb2.size); (try simp at hs2); (try (have hl2 := Nat.lt_of_succ_le hs2)); (first | (have hz2 : w.heap.size < w2.heap.size := by omega) | (have hz2 : w.heap.size ≤ w2.heap.size := by omega)); (try (have hz1_2 : w1.heap.size < w2.heap.size := by omega)); (try (have hz3_2 : w3.heap.size < w2.heap.size := by omega)); (try (have hz4_2 : w4.heap.size < w2.heap.size := by omega)); (try (have hz5_2 : w5.heap.size < w2.heap.size := by omega)); (try (have hzc_2 : wc.heap.size < w2.heap.size := by omega)); (try (have hy1_2 : w.heap.size + 1 < w2.heap.size := by omega)); (try (have hy2_2 : w.heap.size + 2 < w2.heap.size := by omega)); (try (have hy3_2 : w.heap.size + 3 < w2.heap.size := by omega)); (have k2_0 : w2.cell? ⟨w.heap.size + 1 + 1, 0, none⟩ = some (.bool false) := by (rw [hb2.cell (by first | (simp; done) | (simp; omega) | omega)]; first | assumption | (simp [go_sem]; done) | (simp [*, go_sem]; done))); (have k2_1 : w2.cell? ⟨w.heap.size + 1 + 1, 1, none⟩ = some (.slice none 0 0) := by (rw [hb2.cell (by first | (simp; done) | (simp; omega) | omega)]; first | assumption | (simp [go_sem]; done) | (simp [*, go_sem]; done))); (have k2_2 : w2.frozen? ⟨w.heap.size + 1 + 1, 0, none⟩ = false := by (rw [hb2.frozen (by first | (simp; done) | (simp; omega) | omega)]; first | assumption | (simp [go_sem]; done) | (simp [*, go_sem]; done))); (have k2_3 : w2.frozen? ⟨w.heap.size + 1 + 1, 1, none⟩ = false := by (rw [hb2.frozen (by first | (simp; done) | (simp; omega) | omega)]; first | assumption | (simp [go_sem]; done) | (simp [*, go_sem]; done))))
          refine bodyPost_ret (by simp [results, Try.results76, go_sem, *]; try rfl) rfl ?_
          exact ⟨A2, d2, rfl, ((N2.out.setBelow (by first | omega | (simp; done) | (simp; omega)) _).setBelow (by first | omega | (simp; done) | (simp; omega)) _).mono (by first | omega | (simp; done) | (simp; omega)), by repeat' (first | (with_reducible exact Below.refl _ _) | (with_reducible assumption) | (with_reducible refine Below.alloc ?_ ?_ _) | (with_reducible refine Below.drew ?_) | (with_reducible refine below_drewN ?_ _) | (with_reducible refine Below.setCell ?_ ?_ _) | go_size)⟩
end Go.Proofs.Ytfaglhhkcgjbnaa
