/- Contracts of impl.compareSizes, impl.compareWholes, spec.bgOrder, spec.bgCompare. -/
import Derived.Test.YtcplelcblfjpoaaWhKit
namespace Go.Proofs.Ytcplelcblfjpoaa
open Go.RowKit
set_option linter.unusedVariables false
set_option linter.unusedSimpArgs false
/-- The sign of a difference. -/
def cmpI (a b : Int) : Int := if a < b then -1 else if b < a then 1 else 0
theorem cmpI_lt {a b : Int} (h : a < b) : cmpI a b = -1 := by unfold cmpI; rw [if_pos h]
theorem cmpI_gt {a b : Int} (h : b < a) : cmpI a b = 1 := by unfold cmpI; rw [if_neg (by omega), if_pos h]
theorem cmpI_eq {a b : Int} (h : a = b) : cmpI a b = 0 := by unfold cmpI; rw [if_neg (by omega), if_neg (by omega)]
/-- Digit i, or 0. -/
def dig (xs : List Int) (i : Nat) : Int := xs[i]?.getD 0
theorem dig_some {xs : List Int} {k : Nat} {x : Int} (h : xs[k]? = some x) : dig xs k = x := by unfold dig; rw [h]; rfl
theorem dig_none {xs : List Int} {k : Nat} (h : xs.length ≤ k) : dig xs k = 0 := by unfold dig; rw [List.getElem?_eq_none h]; rfl
theorem Dig.dig {xs : List Int} (h : Dig xs) (k : Nat) : 0 ≤ dig xs k ∧ dig xs k ≤ 9999 := by
  by_cases hk : k < xs.length
  · have := List.getElem?_eq_getElem hk
    rw [dig_some this]; exact h.at this
  · rw [dig_none (by omega)]; omega
theorem dv_dropd {xs : List Int} (k : Nat) : dv (xs.drop k) = dig xs k + 10000 * dv (xs.drop (k + 1)) := by
  by_cases hk : k < xs.length
  · have h := List.getElem?_eq_getElem hk
    rw [dig_some h]; exact dv_drop h
  · rw [dig_none (by omega), List.drop_eq_nil_of_le (by omega), List.drop_eq_nil_of_le (by omega)]; rfl
/-- From digit k on the two are alike. -/
def Alike (xs ys : List Int) (k : Nat) : Prop := dv (xs.drop k) = dv (ys.drop k)
theorem Alike.start {xs ys : List Int} {k : Nat} (h1 : xs.length ≤ k) (h2 : ys.length ≤ k) : Alike xs ys k := by
  unfold Alike; rw [List.drop_eq_nil_of_le h1, List.drop_eq_nil_of_le h2]
theorem Alike.next {xs ys : List Int} {k : Nat} (h : Alike xs ys (k + 1)) (he : dig xs k = dig ys k) : Alike xs ys k := by
  unfold Alike at *; rw [dv_dropd (xs := xs) k, dv_dropd (xs := ys) k, h, he]
theorem dv_split (xs : List Int) (k : Nat) : dv xs = dv (xs.take k) + 10000 ^ (xs.take k).length * dv (xs.drop k) := by
  rw [← dv_append, List.take_append_drop]
theorem dv_split' (xs : List Int) (hd : Dig xs) (k : Nat) : ∃ r : Int, 0 ≤ r ∧ r < 10000 ^ k ∧ dv xs = r + 10000 ^ k * dv (xs.drop k) := by
  by_cases hk : k ≤ xs.length
  · refine ⟨dv (xs.take k), dv_nonneg (hd.take k), ?_, ?_⟩
    · have := dv_lt (hd.take k); rwa [List.length_take, Nat.min_eq_left hk] at this
    · have := dv_split xs k; rwa [List.length_take, Nat.min_eq_left hk] at this
  · refine ⟨dv xs, dv_nonneg hd, ?_, ?_⟩
    · exact Int.lt_of_lt_of_le (dv_lt hd) (pow_le_pow' (by omega))
    · rw [List.drop_eq_nil_of_le (by omega)]; simp [dv]
theorem Alike.lt {xs ys : List Int} (hx : Dig xs) (hy : Dig ys) {k : Nat} (h : Alike xs ys (k + 1)) (he : dig xs k < dig ys k) : dv xs < dv ys := by
  obtain ⟨r, r0, r1, e1⟩ := dv_split' xs hx k
  obtain ⟨s, s0, s1, e2⟩ := dv_split' ys hy k
  unfold Alike at h
  rw [e1, e2, dv_dropd (xs := xs) k, dv_dropd (xs := ys) k, h]
  have hp := pow_pos' k
  have h3 : (10000 : Int) ^ k * (dig xs k + 10000 * dv (ys.drop (k + 1)) + 1) ≤ 10000 ^ k * (dig ys k + 10000 * dv (ys.drop (k + 1))) := Int.mul_le_mul_of_nonneg_left (by omega) (by omega)
  rw [Int.mul_add] at h3
  omega
theorem Alike.done {xs ys : List Int} (h : Alike xs ys 0) : dv xs = dv ys := h
theorem Alike.symm {xs ys : List Int} {k : Nat} (h : Alike xs ys k) : Alike ys xs k := Eq.symm h
theorem isNaN_any (x : Int) (w : World) : Calls Try.prog 62 #[.int .i64 x] w fun e w' => e = .returned (.bool false) ∧ w = w' := by
  go_enter Try.func62, Try.ntmps62
  go_wp2
  go_ret
  exact ⟨rfl, rfl⟩
theorem compare_any (x y : Int) (w : World) : Calls Try.prog 61 #[.int .i64 x, .int .i64 y] w fun e w' => e = .returned (.int .i64 (cmpI x y)) ∧ w = w' := by
  by_cases h : x < y
  · have HG := Lib.hid (cmpI_lt h)
    go_enter Try.func61, Try.ntmps61
    go_wp2_with (go_at_call 62; refine (isNaN_any _ _).mono ?_; rintro e w' ⟨rfl, rfl⟩)
    go_ret
    exact ⟨ret_int HG.out.symm, rfl⟩
  · by_cases h2 : y < x
    · have HG := Lib.hid (cmpI_gt h2)
      go_enter Try.func61, Try.ntmps61
      go_wp2_with (go_at_call 62; refine (isNaN_any _ _).mono ?_; rintro e w' ⟨rfl, rfl⟩)
      go_ret
      exact ⟨ret_int HG.out.symm, rfl⟩
    · have HG := Lib.hid (cmpI_eq (show x = y by omega))
      go_enter Try.func61, Try.ntmps61
      go_wp2_with (go_at_call 62; refine (isNaN_any _ _).mono ?_; rintro e w' ⟨rfl, rfl⟩)
      go_ret
      exact ⟨ret_int HG.out.symm, rfl⟩
/-- Sizes compare as lengths where these part. -/
theorem cmp_lens {a b : Nat} (h : (digs a).length ≠ (digs b).length) : cmpI ((digs a).length : Int) ((digs b).length : Int) = cmpI a b := by
  by_cases hl : (digs a).length < (digs b).length
  · rw [cmpI_lt (by omega), cmpI_lt]
    refine Classical.byContradiction fun hn => ?_
    have := digs_length_mono (show b ≤ a by omega)
    omega
  · rw [cmpI_gt (by omega), cmpI_gt]
    refine Classical.byContradiction fun hn => ?_
    have := digs_length_mono (show a ≤ b by omega)
    omega
/-- The size of a number. -/
def sizeI (z : Int) : Int := (z.natAbs : Int)
theorem dv_w (z : Int) : dv (wlimbs z) = sizeI z := dv_wlimbs z
/-- A digit's cell, and the digit. -/
theorem cell_dig {w : World} {A : Option Addr} {c k : Nat} {xs : List Int} (h : Holds w (.slice A xs.length c) xs) (hk : k < xs.length) : ∃ g, A = some ⟨g, 0, none⟩ ∧ g < w.heap.size ∧ w.cell? ⟨g, k, none⟩ = some (.int .i64 (dig xs k)) := by
  rcases h with ⟨rfl, _⟩ | ⟨g, c', hv, h1, h2, h3, h4⟩
  · simp at hk
  · cases hv
    have hx := List.getElem?_eq_getElem hk
    exact ⟨g, rfl, h3, by rw [dig_some hx]; exact h4 k _ hx⟩
theorem len_zero {z : Int} (h : (wlimbs z).length = 0) : sizeI z = 0 := by
  have := dv_w z
  rw [List.length_eq_zero_iff.1 h] at this
  exact this.symm
theorem cells_at {w : World} {A : Option Addr} {c : Nat} {xs : List Int} (h : Holds w (.slice A xs.length c) xs) (h0 : 0 < xs.length) : ∃ g, A = some ⟨g, 0, none⟩ ∧ g < w.heap.size ∧ xs.length ≤ c ∧ ∀ k, k < xs.length → w.cell? ⟨g, k, none⟩ = some (.int .i64 (dig xs k)) := by
  rcases h with ⟨rfl, _⟩ | ⟨g, c', hv, h1, h2, h3, h4⟩
  · simp at h0
  · cases hv
    refine ⟨g, rfl, h3, h2, fun k hk => ?_⟩
    have hx := List.getElem?_eq_getElem hk
    rw [dig_some hx]; exact h4 k _ hx
set_option maxHeartbeats 2000000 in
theorem compareSizes_same (y z : Int) (p q : Bool) (g g' c c' n : Nat) (w : World) (hg : g < w.heap.size) (hg' : g' < w.heap.size) (hy : (wlimbs y).length = n) (hz : (wlimbs z).length = n) (hl : n ≤ 1048576)
    (hr : ∀ k, k < n → w.cell? ⟨g, k, none⟩ = some (.int .i64 (dig (wlimbs y) k))) (hr' : ∀ k, k < n → w.cell? ⟨g', k, none⟩ = some (.int .i64 (dig (wlimbs z) k))) :
    Calls Try.prog 60 #[.agg #[.bool p, .slice (some ⟨g, 0, none⟩) n c], .agg #[.bool q, .slice (some ⟨g', 0, none⟩) n c']] w fun e w' => e = .returned (.int .i64 (cmpI (sizeI y) (sizeI z))) ∧ Below w.heap.size w w' := by
  have HR := Lib.hid hr
  have HR' := Lib.hid hr'
  have HA : Hid (Alike (wlimbs y) (wlimbs z) n) := Alike.start (by omega) (by omega)
  clear hr hr' hy hz
  go_enter Try.func60, Try.ntmps60
  go_wp2
  go_loopw [5] (fun t wr => ∃ k : Nat, k ≤ n ∧ t = .int .i64 ((k : Int) - 1) ∧ Hid (Alike (wlimbs y) (wlimbs z) k) ∧ ∃ m, wr = ((w.alloc (.cells #[.bool p, .slice (some ⟨g, 0, none⟩) n c] 28)).alloc (.cells #[.bool q, .slice (some ⟨g', 0, none⟩) n c'] 28)).drewN m) (fun t _ => (intOf t + 1).toNat)
  case atStart => exact ⟨n, Nat.le_refl _, rfl, HA, 0, rfl⟩
  case round =>
    obtain ⟨k, hk, rfl, HK, m, rfl⟩ := hrel
    match k, hk, HK with
    | 0, hk, HK =>
      have HE := Lib.hid (cmpI_eq (show sizeI y = sizeI z by rw [← dv_w, ← dv_w]; exact HK.out.done))
      go_wp2
      go_ret
      exact ⟨ret_int HE.out.symm, by repeat' (first | (with_reducible exact Below.refl _ _) | (with_reducible assumption) | (with_reducible refine Below.alloc ?_ ?_ _) | (with_reducible refine Below.drew ?_) | (with_reducible refine below_drewN ?_ _) | (with_reducible refine Below.setCell ?_ ?_ _) | go_size)⟩
    | j + 1, hk, HK =>
      have hc := HR.out j (by omega)
      have hc' := HR'.out j (by omega)
      obtain ⟨u, hu⟩ : ∃ u, u = dig (wlimbs y) j := ⟨_, rfl⟩
      obtain ⟨v, hv⟩ : ∃ v, v = dig (wlimbs z) j := ⟨_, rfl⟩
      rw [← hu] at hc
      rw [← hv] at hc'
      have HU := Lib.hid hu
      have HV := Lib.hid hv
      clear hu hv
      have ej : (((j + 1 : Nat) : Int) - 1) = (j : Int) := by omega
      rw [ej]
      clear ej
      have b0 : (0 : Int) ≤ (j : Int) := by omega
      have b1 : (j : Int) < (n : Int) := by omega
      by_cases he : u = v
      · have HK2 : Hid (Alike (wlimbs y) (wlimbs z) j) := HK.out.next (by rw [← HU.out, ← HV.out]; exact he)
        have he2 : (u == v) = true := by simpa using he
        go_wp2_with fail
        go_quiet (fail)
        go_wp2
        go_roundw
        case rel => exact ⟨j, by omega, by go_num, HK2, _, rfl⟩
        case measure => simp [intOf]
      · have he2 : (u == v) = false := by simpa using he
        have HE : Hid (cmpI u v = cmpI (sizeI y) (sizeI z)) := by
          show _ = _
          rw [← dv_w, ← dv_w]
          by_cases hlt : u < v
          · rw [cmpI_lt hlt, cmpI_lt (HK.out.lt (wlimbs_Dig y) (wlimbs_Dig z) (by rw [← HU.out, ← HV.out]; exact hlt))]
          · rw [cmpI_gt (by omega), cmpI_gt (HK.out.symm.lt (wlimbs_Dig z) (wlimbs_Dig y) (by rw [← HU.out, ← HV.out]; omega))]
        go_wp2_with fail
        go_quiet (fail)
        go_wp2_with fail
        go_quiet ((go_at_call 61; exact quietG (compare_any _ _ _) ⟨_, rfl⟩))
        go_wp2
        go_ret
        exact ⟨ret_int HE.out, by repeat' (first | (with_reducible exact Below.refl _ _) | (with_reducible assumption) | (with_reducible refine Below.alloc ?_ ?_ _) | (with_reducible refine Below.drew ?_) | (with_reducible refine below_drewN ?_ _) | (with_reducible refine Below.setCell ?_ ?_ _) | go_size)⟩
theorem compareSizes_none (p q : Bool) (A A' : Option Addr) (c c' : Nat) (w : World) :
    Calls Try.prog 60 #[.agg #[.bool p, .slice A 0 c], .agg #[.bool q, .slice A' 0 c']] w fun e w' => e = .returned (.int .i64 0) ∧ Below w.heap.size w w' := by
  go_enter Try.func60, Try.ntmps60
  go_wp2
  go_rounds 1
  go_ret
  exact ⟨rfl, by repeat' (first | (with_reducible exact Below.refl _ _) | (with_reducible assumption) | (with_reducible refine Below.alloc ?_ ?_ _) | (with_reducible refine Below.drew ?_) | (with_reducible refine below_drewN ?_ _) | (with_reducible refine Below.setCell ?_ ?_ _) | go_size)⟩
theorem compareSizes_any (y z : Int) (p q : Bool) {A A' : Option Addr} {c c' : Nat} {w : World} (h : Holds w (.slice A (wlimbs y).length c) (wlimbs y)) (h' : Holds w (.slice A' (wlimbs z).length c') (wlimbs z)) (hl : (wlimbs y).length ≤ 1048576) (hl' : (wlimbs z).length ≤ 1048576) :
    Calls Try.prog 60 #[.agg #[.bool p, .slice A (wlimbs y).length c], .agg #[.bool q, .slice A' (wlimbs z).length c']] w fun e w' => e = .returned (.int .i64 (cmpI (sizeI y) (sizeI z))) ∧ Below w.heap.size w w' := by
  by_cases hne : (wlimbs y).length = (wlimbs z).length
  · by_cases h0 : (wlimbs z).length = 0
    · rw [hne, h0, len_zero h0, len_zero (hne.trans h0)]
      exact compareSizes_none _ _ _ _ _ _ _
    · obtain ⟨g, rfl, hg, _, hr⟩ := cells_at h (by omega)
      obtain ⟨g', rfl, hg', _, hr'⟩ := cells_at h' (by omega)
      rw [hne] at hr ⊢
      exact compareSizes_same y z p q g g' c c' _ w hg hg' hne rfl hl' hr hr'
  · have HE := Lib.hid (cmp_lens hne)
    have hne2 : (((wlimbs y).length : Int) == ((wlimbs z).length : Int)) = false := beq_eq_false_iff_ne.2 (by omega)
    go_enter Try.func60, Try.ntmps60
    go_wp2_with (go_at_call 61; refine (compare_any _ _ _).mono ?_; rintro e w' ⟨rfl, rfl⟩)
    go_ret
    exact ⟨ret_int HE.out, by repeat' (first | (with_reducible exact Below.refl _ _) | (with_reducible assumption) | (with_reducible refine Below.alloc ?_ ?_ _) | (with_reducible refine Below.drew ?_) | (with_reducible refine below_drewN ?_ _) | (with_reducible refine Below.setCell ?_ ?_ _) | go_size)⟩
theorem bgLimb_any {A : Option Addr} {c k : Nat} {xs : List Int} {w : World} (h : Holds w (.slice A xs.length c) xs) (hl : xs.length ≤ 1048576) (hk : k ≤ 10000000) :
    Calls Try.prog 42 #[.slice A xs.length c, .int .i64 (k : Int)] w fun e w' => e = .returned (.int .i64 (dig xs k)) ∧ w = w' := by
  have b0 : (0 : Int) ≤ (k : Int) := by omega
  by_cases hlt : k < xs.length
  · obtain ⟨g, rfl, hg, hc⟩ := cell_dig h hlt
    have b1 : (k : Int) < (xs.length : Int) := by omega
    clear h
    go_enter Try.func42, Try.ntmps42
    go_wp2
    go_ret
    exact ⟨rfl, rfl⟩
  · have HE := Lib.hid (dig_none (xs := xs) (k := k) (by omega))
    have b1 : (xs.length : Int) ≤ (k : Int) := by omega
    clear h
    go_enter Try.func42, Try.ntmps42
    go_wp2
    go_ret
    exact ⟨ret_int HE.out.symm, rfl⟩
set_option maxHeartbeats 2000000 in
theorem bgOrder_any (y z : Int) {A A' : Option Addr} {c c' : Nat} {w : World} (h : Holds w (.slice A (wlimbs y).length c) (wlimbs y)) (h' : Holds w (.slice A' (wlimbs z).length c') (wlimbs z)) (hl : (wlimbs y).length ≤ 1048576) (hl' : (wlimbs z).length ≤ 1048576) :
    Calls Try.prog 57 #[.slice A (wlimbs y).length c, .slice A' (wlimbs z).length c'] w fun e w' => e = .returned (.int .i64 (cmpI (sizeI y) (sizeI z))) ∧ w = w' := by
  have H := Lib.hid h
  have H' := Lib.hid h'
  clear h h'
  obtain ⟨n, hn⟩ : ∃ n : Nat, (n : Int) = max ((wlimbs y).length : Int) ((wlimbs z).length : Int) := ⟨max (wlimbs y).length (wlimbs z).length, by omega⟩
  have n1 : n ≤ 1048576 := by omega
  have HA : Hid (Alike (wlimbs y) (wlimbs z) n) := Alike.start (by omega) (by omega)
  have HM := Lib.hid hn
  clear hn
  go_enter Try.func57, Try.ntmps57
  go_wp2_with (go_at_call 54; refine (l1Most_any _ _ _).mono ?_; rw [← HM.out]; rintro e w' ⟨rfl, rfl⟩)
  go_loop [5] (fun t => ∃ k : Nat, k ≤ n ∧ t = .int .i64 ((k : Int) - 1) ∧ Hid (Alike (wlimbs y) (wlimbs z) k)) (fun t => (intOf t + 1).toNat)
  case atStart => exact ⟨n, Nat.le_refl _, rfl, HA⟩
  case round =>
    obtain ⟨k, hk, rfl, HK⟩ := hrel
    match k, hk, HK with
    | 0, hk, HK =>
      have HE := Lib.hid (cmpI_eq (show sizeI y = sizeI z by rw [← dv_w, ← dv_w]; exact HK.out.done))
      go_wp2
      go_ret
      exact ⟨ret_int HE.out.symm, rfl⟩
    | j + 1, hk, HK =>
      have ej : (((j + 1 : Nat) : Int) - 1) = (j : Int) := by omega
      rw [ej]
      clear ej
      have b0 : (0 : Int) ≤ (j : Int) := by omega
      by_cases h1 : dig (wlimbs y) j < dig (wlimbs z) j
      · have HE := Lib.hid (cmpI_lt (show sizeI y < sizeI z by rw [← dv_w, ← dv_w]; exact HK.out.lt (wlimbs_Dig y) (wlimbs_Dig z) h1))
        go_wp2_with (first | (go_at_call 42; (with_reducible refine (bgLimb_any H.out hl (by omega)).mono ?_); rintro e w' ⟨rfl, rfl⟩) | (go_at_call 42; (with_reducible refine (bgLimb_any H'.out hl' (by omega)).mono ?_); rintro e w' ⟨rfl, rfl⟩))
        go_ret
        exact ⟨ret_int HE.out.symm, rfl⟩
      · by_cases h2 : dig (wlimbs z) j < dig (wlimbs y) j
        · have HE := Lib.hid (cmpI_gt (show sizeI z < sizeI y by rw [← dv_w, ← dv_w]; exact HK.out.symm.lt (wlimbs_Dig z) (wlimbs_Dig y) h2))
          go_wp2_with (first | (go_at_call 42; (with_reducible refine (bgLimb_any H.out hl (by omega)).mono ?_); rintro e w' ⟨rfl, rfl⟩) | (go_at_call 42; (with_reducible refine (bgLimb_any H'.out hl' (by omega)).mono ?_); rintro e w' ⟨rfl, rfl⟩))
          go_ret
          exact ⟨ret_int HE.out.symm, rfl⟩
        · have HK2 : Hid (Alike (wlimbs y) (wlimbs z) j) := HK.out.next (by omega)
          go_wp2_with (first | (go_at_call 42; (with_reducible refine (bgLimb_any H.out hl (by omega)).mono ?_); rintro e w' ⟨rfl, rfl⟩) | (go_at_call 42; (with_reducible refine (bgLimb_any H'.out hl' (by omega)).mono ?_); rintro e w' ⟨rfl, rfl⟩))
          go_round
          case rel => exact ⟨j, by omega, by go_num, HK2⟩
          case measure => simp [intOf]
theorem wneg_true {z : Int} (h : z < 0) : wneg z = true := by simp [wneg, h]
theorem wneg_false {z : Int} (h : ¬ z < 0) : wneg z = false := by simp [wneg]; omega
theorem sizeI_neg {z : Int} (h : z < 0) : sizeI z = -z := by unfold sizeI; omega
theorem sizeI_pos {z : Int} (h : ¬ z < 0) : sizeI z = z := by unfold sizeI; omega
theorem cmpI_neg (a b : Int) : cmpI (-b) (-a) = cmpI a b := by
  unfold cmpI
  by_cases h : a < b
  · rw [if_pos (by omega), if_pos h]
  · by_cases h2 : b < a
    · rw [if_neg (by omega), if_pos (by omega), if_neg h, if_pos h2]
    · rw [if_neg (by omega), if_neg (by omega), if_neg h, if_neg h2]
end Go.Proofs.Ytcplelcblfjpoaa
