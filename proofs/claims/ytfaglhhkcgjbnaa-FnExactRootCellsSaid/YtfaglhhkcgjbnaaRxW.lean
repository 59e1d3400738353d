/- impl.RootCells and spec.RootCells; the walk of FnExactRootCells. -/
import Derived.Test.YtfaglhhkcgjbnaaInts
import Derived.Test.YtfaglhhkcgjbnaaCubVal
import Derived.IntWalk
import Derived.Deep.RegionHeld3
namespace Go.Proofs.Ytfaglhhkcgjbnaa.Rx
open Go.RowKit
set_option linter.unusedVariables false
set_option linter.unusedSimpArgs false
/-- The value at x. -/
def vC (a b c d x : Int) : Int := ((a * x + b) * x + c) * x + d
theorem mul_abs {s x : Int} {S : Nat} (hs : s.natAbs ≤ S) (hx : x.natAbs ≤ 1004) : (s * x).natAbs ≤ S * 1004 := by
  rw [Int.natAbs_mul]; exact Nat.mul_le_mul hs hx
theorem vC_bd {a b c d x : Int} (ha : -1000 ≤ a ∧ a ≤ 1000) (hb : -1000 ≤ b ∧ b ≤ 1000) (hc : -1000 ≤ c ∧ c ≤ 1000) (hd : -1000 ≤ d ∧ d ≤ 1000) (hx : -1004 ≤ x ∧ x ≤ 1004) :
    atW a b c d x = vC a b c d x ∧ -2000000000000 ≤ vC a b c d x ∧ vC a b c d x ≤ 2000000000000 := by
  have h1 : (a * x).natAbs ≤ 1000 * 1004 := mul_abs (by omega) (by omega)
  have h2 : ((a * x + b) * x).natAbs ≤ 1005000 * 1004 := mul_abs (by omega) (by omega)
  have h3 : (((a * x + b) * x + c) * x).natAbs ≤ 1009021000 * 1004 := mul_abs (by omega) (by omega)
  unfold atW vC
  rw [IntWalk.wrap64_in (a * x) (by omega), IntWalk.wrap64_in (a * x + b) (by omega), IntWalk.wrap64_in ((a * x + b) * x) (by omega), IntWalk.wrap64_in ((a * x + b) * x + c) (by omega), IntWalk.wrap64_in (((a * x + b) * x + c) * x) (by omega), IntWalk.wrap64_in (((a * x + b) * x + c) * x + d) (by omega)]
  refine ⟨rfl, by omega, by omega⟩
/-- Does the cell at x hold a root? v: the value at x, u: the one at x + 1. -/
def hit (v u : Int) : Bool := v == 0 || (decide (v < 0) && decide (0 < u)) || (decide (0 < v) && decide (u < 0))
def rcP (a b c d s : Int) (j : Nat) : Bool := hit (vC a b c d ((j : Int) + s)) (vC a b c d ((j : Int) + s + 1))
def rcF (s : Int) (j : Nat) : Int := (j : Int) + s
def rxL (a b c d : Int) : List Int := if cubB a b c d = true then gath (rcP a b c d (-1001)) (rcF (-1001)) 2003 else []
theorem up {t x e : Int} (ht : 1 ≤ t) (hx : 1001 ≤ x) (he : -1000 ≤ e) : 1 ≤ t * x + e := by
  have h1 : 1 * x ≤ t * x := Int.mul_le_mul_of_nonneg_right ht (by omega)
  omega
theorem down {t x e : Int} (ht : t ≤ -1) (hx : 1001 ≤ x) (he : e ≤ 1000) : t * x + e ≤ -1 := by
  have h1 : t * x ≤ -1 * x := Int.mul_le_mul_of_nonneg_right ht (by omega)
  omega
theorem up' {t x e : Int} (ht : t ≤ -1) (hx : x ≤ -1001) (he : -1000 ≤ e) : 1 ≤ t * x + e := by
  have h1 : -1 * x ≤ t * x := Int.mul_le_mul_of_nonpos_right ht (by omega)
  omega
theorem down' {t x e : Int} (ht : 1 ≤ t) (hx : x ≤ -1001) (he : e ≤ 1000) : t * x + e ≤ -1 := by
  have h1 : t * x ≤ 1 * x := Int.mul_le_mul_of_nonpos_right ht (by omega)
  omega
/-- Far from 0 the sign is the first coefficient's, or its opposite. -/
theorem far_pos {a b c d x : Int} (h0 : a ≠ 0) (hb : -1000 ≤ b ∧ b ≤ 1000) (hc : -1000 ≤ c ∧ c ≤ 1000) (hd : -1000 ≤ d ∧ d ≤ 1000) (hx : 1001 ≤ x) : (1 ≤ a ∧ 1 ≤ vC a b c d x) ∨ (a ≤ -1 ∧ vC a b c d x ≤ -1) := by
  unfold vC
  by_cases h : 1 ≤ a
  · exact .inl ⟨h, up (up (up h hx hb.1) hx hc.1) hx hd.1⟩
  · have h2 : a ≤ -1 := by omega
    exact .inr ⟨h2, down (down (down h2 hx hb.2) hx hc.2) hx hd.2⟩
theorem far_neg {a b c d x : Int} (h0 : a ≠ 0) (hb : -1000 ≤ b ∧ b ≤ 1000) (hc : -1000 ≤ c ∧ c ≤ 1000) (hd : -1000 ≤ d ∧ d ≤ 1000) (hx : x ≤ -1001) : (1 ≤ a ∧ vC a b c d x ≤ -1) ∨ (a ≤ -1 ∧ 1 ≤ vC a b c d x) := by
  unfold vC
  by_cases h : 1 ≤ a
  · exact .inl ⟨h, down' (up' (down' h hx hb.2) hx hc.1) hx hd.2⟩
  · have h2 : a ≤ -1 := by omega
    exact .inr ⟨h2, up' (down' (up' h2 hx hb.1) hx hc.2) hx hd.1⟩
theorem hit_no {v u : Int} (h : (1 ≤ v ∧ 1 ≤ u) ∨ (v ≤ -1 ∧ u ≤ -1)) : hit v u = false := by
  unfold hit
  rcases h with ⟨h1, h2⟩ | ⟨h1, h2⟩ <;> simp <;> omega
theorem hit_far {a b c d x : Int} (h : cubB a b c d = true) (hx : 1002 ≤ x ∨ x ≤ -1002) : hit (vC a b c d x) (vC a b c d (x + 1)) = false := by
  obtain ⟨h0, _, hb, hc, hd⟩ := cubB_range h
  refine hit_no ?_
  rcases hx with hx | hx
  · rcases far_pos h0 hb hc hd (show 1001 ≤ x by omega) with ⟨h1, h2⟩ | ⟨h1, h2⟩ <;> rcases far_pos h0 hb hc hd (show 1001 ≤ x + 1 by omega) with ⟨h3, h4⟩ | ⟨h3, h4⟩ <;> omega
  · rcases far_neg h0 hb hc hd (show x ≤ -1001 by omega) with ⟨h1, h2⟩ | ⟨h1, h2⟩ <;> rcases far_neg h0 hb hc hd (show x + 1 ≤ -1001 by omega) with ⟨h3, h4⟩ | ⟨h3, h4⟩ <;> omega
theorem gath_hi {P : Nat → Bool} {f : Nat → Int} {m : Nat} : ∀ l : Nat, (∀ j, m ≤ j → j < m + l → P j = false) → gath P f (m + l) = gath P f m
  | 0, _ => rfl
  | l + 1, h => by
    show gath P f (m + l + 1) = _
    rw [gath_no (h (m + l) (by omega) (by omega)), gath_hi l fun j h1 h2 => h j h1 (by omega)]
theorem gath_lo {P : Nat → Bool} {f : Nat → Int} {n : Nat} (h : ∀ j, j < n → P j = false) : ∀ m : Nat, gath P f (n + m) = gath (fun j => P (n + j)) (fun j => f (n + j)) m
  | 0 => by
    have := gath_hi (P := P) (f := f) (m := 0) n (fun j _ h2 => h j (by omega))
    rw [Nat.zero_add] at this
    rw [Nat.add_zero, this]
    rfl
  | m + 1 => by
    show gath P f (n + m + 1) = _
    rcases Bool.eq_false_or_eq_true (P (n + m)) with hp | hp
    · rw [gath_yes hp, gath_yes (P := fun j => P (n + j)) (k := m) hp, gath_lo h m]
    · rw [gath_no hp, gath_no (P := fun j => P (n + j)) (k := m) hp, gath_lo h m]
theorem gath_cut {P Q : Nat → Bool} {f g : Nat → Int} {m n : Nat} (hP : ∀ j, P (2 + j) = Q j) (hf : ∀ j, f (2 + j) = g j) (h0 : ∀ j, j < 2 → P j = false) (h1 : ∀ j, 2 + m ≤ j → j < 2 + m + 2 → P j = false) (hn : n = 2 + m + 2) : gath P f n = gath Q g m := by
  subst hn
  rw [gath_hi 2 h1, gath_lo h0 m]
  congr 1
  · funext j; exact hP j
  · funext j; exact hf j
theorem rx_same {a b c d : Int} (h : cubB a b c d = true) : gath (rcP a b c d (-1003)) (rcF (-1003)) 2007 = gath (rcP a b c d (-1001)) (rcF (-1001)) 2003 := by
  refine gath_cut (fun j => ?_) (fun j => ?_) (fun j h1 => hit_far h (by omega)) (fun j h1 h2 => hit_far h (by omega)) (by omega)
  · simp only [rcP]
    rw [show (((2 + j : Nat) : Int) + -1003) = (j : Int) + -1001 by omega]
  · simp only [rcF]; omega
theorem rxL_short (a b c d : Int) : (rxL a b c d).length ≤ 2003 := by
  unfold rxL
  split
  · exact gath_length _ _ _
  · simp
/-- The sign of a number. -/
def sgI (n : Int) : Int := if 0 < n then 1 else if n < 0 then -1 else 0
theorem l1Sign_any (n : Int) (w : World) : Calls Try.prog 60 #[.int .i64 n] w fun e w' => e = .returned (.int .i64 (sgI n)) ∧ w = w' := by
  by_cases h : 0 < n
  · have HG := Lib.hid (show sgI n = 1 by unfold sgI; rw [if_pos h])
    go_enter Try.func60, Try.ntmps60
    go_wp2
    go_ret
    exact ⟨ret_int HG.out.symm, rfl⟩
  · by_cases h2 : n < 0
    · have HG := Lib.hid (show sgI n = -1 by unfold sgI; rw [if_neg h, if_pos h2])
      go_enter Try.func60, Try.ntmps60
      go_wp2
      go_ret
      exact ⟨ret_int HG.out.symm, rfl⟩
    · have HG := Lib.hid (show sgI n = 0 by unfold sgI; rw [if_neg h, if_neg h2])
      go_enter Try.func60, Try.ntmps60
      go_wp2
      go_ret
      exact ⟨ret_int HG.out.symm, rfl⟩
theorem sg_hit (v u : Int) : hit v u = (sgI v == 0 || decide (sgI v * sgI u < 0)) := by
  unfold hit sgI
  by_cases h1 : 0 < v
  · by_cases h2 : 0 < u
    · rw [if_pos h1, if_pos h2]; simp; omega
    · by_cases h3 : u < 0
      · rw [if_pos h1, if_neg h2, if_pos h3]; simp; omega
      · rw [if_pos h1, if_neg h2, if_neg h3]; simp; omega
  · by_cases h4 : v < 0
    · by_cases h2 : 0 < u
      · rw [if_neg h1, if_pos h4, if_pos h2]; simp; omega
      · by_cases h3 : u < 0
        · rw [if_neg h1, if_pos h4, if_neg h2, if_pos h3]; simp; omega
        · rw [if_neg h1, if_pos h4, if_neg h2, if_neg h3]; simp; omega
    · have h5 : v = 0 := by omega
      subst h5
      simp
theorem sg_bd (v : Int) : -1 ≤ sgI v ∧ sgI v ≤ 1 := by unfold sgI; split <;> (try split) <;> omega
theorem sg_mul (v u : Int) : -1 ≤ sgI v * sgI u ∧ sgI v * sgI u ≤ 1 := by
  have h1 := sg_bd v
  have h2 := sg_bd u
  have h3 : (sgI v * sgI u).natAbs ≤ 1 * 1 := by rw [Int.natAbs_mul]; exact Nat.mul_le_mul (by omega) (by omega)
  omega
theorem at_in (a b c d x : Int) (ha : -1000 ≤ a ∧ a ≤ 1000) (hb : -1000 ≤ b ∧ b ≤ 1000) (hc : -1000 ≤ c ∧ c ≤ 1000) (hd : -1000 ≤ d ∧ d ≤ 1000) (hx : -1004 ≤ x ∧ x ≤ 1004) (w : World) :
    Calls Try.prog 63 #[.agg #[.int .i64 a, .int .i64 b, .int .i64 c, .int .i64 d], .int .i64 x] w fun e w' => e = .returned (.int .i64 (vC a b c d x)) ∧ Below w.heap.size w w' := by
  have h := at_any a b c d x w
  rw [(vC_bd ha hb hc hd hx).1] at h
  exact h
theorem value_in (a b c d x : Int) (ha : -1000 ≤ a ∧ a ≤ 1000) (hb : -1000 ≤ b ∧ b ≤ 1000) (hc : -1000 ≤ c ∧ c ≤ 1000) (hd : -1000 ≤ d ∧ d ≤ 1000) (hx : -1004 ≤ x ∧ x ≤ 1004) (w : World) :
    Calls Try.prog 61 #[.agg #[.int .i64 a, .int .i64 b, .int .i64 c, .int .i64 d], .int .i64 x, .int .i64 1] w fun e w' => e = .returned (.int .i64 (vC a b c d x)) ∧ Below w.heap.size w w' := by
  have h := cuValue_one a b c d x hb hc hd w
  rw [(vC_bd ha hb hc hd hx).1] at h
  exact h
/-- Four cells of a box. -/
def Box4 (w : World) (g : Nat) (a b c d : Int) : Prop := g < w.heap.size ∧ w.cell? ⟨g, 0, none⟩ = some (.int .i64 a) ∧ w.cell? ⟨g, 1, none⟩ = some (.int .i64 b) ∧ w.cell? ⟨g, 2, none⟩ = some (.int .i64 c) ∧ w.cell? ⟨g, 3, none⟩ = some (.int .i64 d)
theorem Box4.below {w w' : World} {g : Nat} {a b c d : Int} (h : Box4 w g a b c d) (hb : Below w.heap.size w w') : Box4 w' g a b c d :=
  ⟨Nat.lt_of_lt_of_le h.1 hb.size, (hb.cell (p := ⟨g, 0, none⟩) h.1).trans h.2.1, (hb.cell (p := ⟨g, 1, none⟩) h.1).trans h.2.2.1, (hb.cell (p := ⟨g, 2, none⟩) h.1).trans h.2.2.2.1, (hb.cell (p := ⟨g, 3, none⟩) h.1).trans h.2.2.2.2⟩
theorem Box4.step {wr w1 : World} {B g : Nat} {v : Value} {xs : List Int} {o : Obj} {a b c d : Int} (k : Box4 wr g a b c d) (h : Nums wr B v xs) (ha : g < B) (hB : B ≤ wr.heap.size) (hgrow : (wr.alloc o).grownBy w1 v.ownBlock) : Box4 w1 g a b c d :=
  ⟨by have h1 := hgrow.size; have h2 := k.1; (try simp at h1); omega, cell_step h ha hB hgrow k.2.1, cell_step h ha hB hgrow k.2.2.1, cell_step h ha hB hgrow k.2.2.2.1, cell_step h ha hB hgrow k.2.2.2.2⟩
set_option maxHeartbeats 8000000 in
theorem impl_any (a b c d : Int) (w : World) :
    Calls Try.prog 25 #[.agg #[.int .i64 a, .int .i64 b, .int .i64 c, .int .i64 d]] w fun e w' => ∃ v, e = .returned (.tuple #[v, .bool (cubB a b c d)]) ∧ Nums w' w.heap.size v (rxL a b c d) ∧ Below w.heap.size w w' := by
  obtain ⟨i0, hi, hz0, hz1, hz2⟩ := info_parts infoInt
  rcases Bool.eq_false_or_eq_true (cubB a b c d) with hc | hc
  · obtain ⟨_, ra, rb, rc, rd⟩ := cubB_range hc
    have RA := Lib.hid ra
    have RB := Lib.hid rb
    have RC := Lib.hid rc
    have RD := Lib.hid rd
    have HP := Lib.hid (show rxL a b c d = gath (rcP a b c d (-1003)) (rcF (-1003)) 2007 by unfold rxL; rw [if_pos hc, rx_same hc])
    have HC := Lib.hid hc
    clear ra rb rc rd
    go_enter Try.func25, Try.ntmps25
    go_wp2_with fail
    ((go_at_call 62; refine (isCubic_any _ _ _ _ _).mono ?_; rintro e w4 ⟨rfl, hb4⟩; obtain ⟨hc4, hf4⟩ := bcell hb4; have hB4 : Below w.heap.size w w4 := Below.trans (by repeat' (first | (with_reducible exact Below.refl _ _) | (with_reducible assumption) | (with_reducible refine Below.alloc ?_ ?_ _) | (with_reducible refine Below.drew ?_) | (with_reducible refine below_drewN ?_ _) | (with_reducible refine Below.setCell ?_ ?_ _) | go_size)) (hb4.mono (by go_size)); (have hs4 := hb4.size); (try simp at hs4); (try (have hl4 := Nat.lt_of_succ_le hs4)); (first | (have hz4 : w.heap.size < w4.heap.size := by omega) | (have hz4 : w.heap.size ≤ w4.heap.size := by omega)); (try (have hz1_4 : w1.heap.size < w4.heap.size := by omega)); (try (have hz2_4 : w2.heap.size < w4.heap.size := by omega)); (try (have hz3_4 : w3.heap.size < w4.heap.size := by omega)); (try (have hz5_4 : w5.heap.size < w4.heap.size := by omega)); (try (have hzc_4 : wc.heap.size < w4.heap.size := by omega)); (try (have hy1_4 : w.heap.size + 1 < w4.heap.size := by omega)); (try (have hy2_4 : w.heap.size + 2 < w4.heap.size := by omega)); (try (have hy3_4 : w.heap.size + 3 < w4.heap.size := by omega))); have X4 := Lib.hid (show Box4 w4 w.heap.size a b c d from ⟨by have := hb4.size; (try simp at this); omega, (hb4.cell (by simp)).trans (by simp [go_sem]), (hb4.cell (by simp)).trans (by simp [go_sem]), (hb4.cell (by simp)).trans (by simp [go_sem]), (hb4.cell (by simp)).trans (by simp [go_sem])⟩); have BW := Lib.hid hB4; clear hc4 hf4 hb4 hB4)
    go_wp2_with fail
    go_loopw [4, 5] (fun v p wr => ∃ (k : Nat) (X : Int), k ≤ 2007 ∧ Hid (X = (k : Int) + -1003) ∧ -1003 ≤ X ∧ X ≤ 1004 ∧ p = .int .i64 X ∧ Hid (Nums wr (w.heap.size + 1) v (gath (rcP a b c d (-1003)) (rcF (-1003)) k)) ∧ Hid (Below w.heap.size w wr) ∧ w.heap.size < wr.heap.size ∧ Hid (Box4 wr w.heap.size a b c d)) (fun _ p _ => (1004 - intOf p).toNat)
    case atStart => exact ⟨0, -1003, by omega, Lib.hid rfl, by omega, by omega, rfl, Nums.nil _ _, BW, by have := X4.out.1; omega, X4⟩
    case round =>
      obtain ⟨k, X, hk, HX, x0, x1, rfl, HN, HB, hsz, X4⟩ := hrel
      have hlen := gath_length (rcP a b c d (-1003)) (rcF (-1003)) k
      by_cases hlt : X < 1004
      · have HP1 := Lib.hid (show (rcP a b c d (-1003)) k = hit (vC a b c d X) (vC a b c d (X + 1)) by rw [HX.out]; rfl)
        have HF1 := Lib.hid (show (rcF (-1003)) k = X by rw [HX.out]; rfl)
        have HX2 : Hid (X + 1 = ((k + 1 : Nat) : Int) + -1003) := by show _ = _; rw [HX.out]; omega
        have hk2 : k + 1 ≤ 2007 := by have := HX.out; omega
        have BV := Lib.hid (vC_bd RA.out RB.out RC.out RD.out (x := X) (by omega)).2
        have BU := Lib.hid (vC_bd RA.out RB.out RC.out RD.out (x := X + 1) (by omega)).2
        obtain ⟨_, q0, q1, q2, q3⟩ := X4.out
        obtain ⟨v, hv⟩ : ∃ v, v = vC a b c d X := ⟨_, rfl⟩
        obtain ⟨u, hu⟩ : ∃ u, u = vC a b c d (X + 1) := ⟨_, rfl⟩
        rw [← hv] at HP1 BV
        rw [← hu] at HP1 BU
        have HV := Lib.hid hv
        have HU := Lib.hid hu
        clear hv hu
        have BVo := BV.out
        have BUo := BU.out
        unfold hit at HP1
        by_cases hv0 : v = 0
        · skip
          have e0 : (v == 0) = true := by simpa using hv0
          have HH := Lib.hid (show (v == 0 || (decide (v < 0) && decide (0 < u)) || (decide (0 < v) && decide (u < 0))) = true by rw [e0]; rfl)
          have HG := Lib.hid (gath_yes (P := (rcP a b c d (-1003))) (f := (rcF (-1003))) (k := k) (HP1.out.trans HH.out))
          go_wp2_with fail
          (go_at_call 63; refine (at_in a b c d X RA.out RB.out RC.out RD.out (by omega) _).mono ?_; rw [← HV.out]; rintro e w5 ⟨rfl, hb5⟩; have N5 := Lib.hid (HN.out.below hb5); have X5 := Lib.hid (X4.out.below hb5); have B5 := Lib.hid (HB.out.trans (hb5.mono (by omega))); have z5 := hb5.size; clear hb5)
          obtain ⟨_, p0, p1, p2, p3⟩ := X5.out
          have HO := Lib.hid (show w5.ownsRow (w.heap.size + 1) 3 1 _ (gath (rcP a b c d (-1003)) (rcF (-1003)) k).length ((gath (rcP a b c d (-1003)) (rcF (-1003)) k).map (Value.int .i64)) from N5.out)
          go_wp2_with (at_builtin; refine wpList_append_own _ rfl _ _ 22 rfl (w.heap.size + 1) 3 i0 (.int .i64 0) 1 8 underInts hi hz0 hz1 hz2 rfl (by decide) _ _ _ rfl (World.ownsRow.alloc HO.out _) ⟨w5.heap.size, 0, none⟩ 1 1 [.int .i64 (X)] rfl rfl (one_at _ _ rfl) (one_cell _) (by unfold maxLen; omega) (by omega) (by simp; omega) ?_; intro v' w1 hown' hgrow _)
          have R := nums_step N5.out B5.out (Nat.le_succ _) (by omega) hown' hgrow
          have R1 := Lib.hid R.1
          have R2 := Lib.hid R.2
          have R3 := Lib.hid (Box4.step X5.out N5.out (Nat.lt_succ_self _) (by omega) hgrow)
          have R4 : w.heap.size < w1.heap.size := R3.out.1
          clear R hown' hgrow
          go_wp2
          go_roundw
          case rel => exact ⟨k + 1, X + 1, hk2, HX2, by omega, by omega, by go_num, by rw [HG.out, HF1.out]; exact R1.out, R2, R4, R3⟩
          case measure => simp [intOf]; omega
        · by_cases hv1 : v < 0
          · by_cases hu1 : 0 < u
            · skip
              have e0 : (v == 0) = false := beq_eq_false_iff_ne.2 (by omega)
              have e1 : decide (v < 0) = true := decide_eq_true (by omega)
              have e2 : decide (0 < v) = false := decide_eq_false (by omega)
              have e3 : decide (0 < u) = true := decide_eq_true (by omega)
              have HH := Lib.hid (show (v == 0 || (decide (v < 0) && decide (0 < u)) || (decide (0 < v) && decide (u < 0))) = true by rw [e0, e1, e2, e3]; simp)
              have HG := Lib.hid (gath_yes (P := (rcP a b c d (-1003))) (f := (rcF (-1003))) (k := k) (HP1.out.trans HH.out))
              go_wp2_with fail
              (go_at_call 63; refine (at_in a b c d X RA.out RB.out RC.out RD.out (by omega) _).mono ?_; rw [← HV.out]; rintro e w5 ⟨rfl, hb5⟩; have N5 := Lib.hid (HN.out.below hb5); have X5 := Lib.hid (X4.out.below hb5); have B5 := Lib.hid (HB.out.trans (hb5.mono (by omega))); have z5 := hb5.size; clear hb5)
              obtain ⟨_, p0, p1, p2, p3⟩ := X5.out
              go_wp2_with fail
              (go_at_call 63; refine (at_in a b c d (X + 1) RA.out RB.out RC.out RD.out (by omega) _).mono ?_; rw [← HU.out]; rintro e w6 ⟨rfl, hb6⟩; have N6 := Lib.hid (N5.out.below hb6); have X6 := Lib.hid (X5.out.below hb6); have B6 := Lib.hid (B5.out.trans (hb6.mono (by omega))); have z6 := hb6.size; clear hb6)
              have HO := Lib.hid (show w6.ownsRow (w.heap.size + 1) 3 1 _ (gath (rcP a b c d (-1003)) (rcF (-1003)) k).length ((gath (rcP a b c d (-1003)) (rcF (-1003)) k).map (Value.int .i64)) from N6.out)
              go_wp2_with (at_builtin; refine wpList_append_own _ rfl _ _ 22 rfl (w.heap.size + 1) 3 i0 (.int .i64 0) 1 8 underInts hi hz0 hz1 hz2 rfl (by decide) _ _ _ rfl (World.ownsRow.alloc HO.out _) ⟨w6.heap.size, 0, none⟩ 1 1 [.int .i64 (X)] rfl rfl (one_at _ _ rfl) (one_cell _) (by unfold maxLen; omega) (by omega) (by simp; omega) ?_; intro v' w1 hown' hgrow _)
              have R := nums_step N6.out B6.out (Nat.le_succ _) (by omega) hown' hgrow
              have R1 := Lib.hid R.1
              have R2 := Lib.hid R.2
              have R3 := Lib.hid (Box4.step X6.out N6.out (Nat.lt_succ_self _) (by omega) hgrow)
              have R4 : w.heap.size < w1.heap.size := R3.out.1
              clear R hown' hgrow
              go_wp2
              go_roundw
              case rel => exact ⟨k + 1, X + 1, hk2, HX2, by omega, by omega, by go_num, by rw [HG.out, HF1.out]; exact R1.out, R2, R4, R3⟩
              case measure => simp [intOf]; omega
            · skip
              have e0 : (v == 0) = false := beq_eq_false_iff_ne.2 (by omega)
              have e1 : decide (v < 0) = true := decide_eq_true (by omega)
              have e2 : decide (0 < v) = false := decide_eq_false (by omega)
              have e3 : decide (0 < u) = false := decide_eq_false (by omega)
              have HH := Lib.hid (show (v == 0 || (decide (v < 0) && decide (0 < u)) || (decide (0 < v) && decide (u < 0))) = false by rw [e0, e1, e2, e3]; simp)
              have HG := Lib.hid (gath_no (P := (rcP a b c d (-1003))) (f := (rcF (-1003))) (k := k) (HP1.out.trans HH.out))
              go_wp2_with fail
              (go_at_call 63; refine (at_in a b c d X RA.out RB.out RC.out RD.out (by omega) _).mono ?_; rw [← HV.out]; rintro e w5 ⟨rfl, hb5⟩; have N5 := Lib.hid (HN.out.below hb5); have X5 := Lib.hid (X4.out.below hb5); have B5 := Lib.hid (HB.out.trans (hb5.mono (by omega))); have z5 := hb5.size; clear hb5)
              obtain ⟨_, p0, p1, p2, p3⟩ := X5.out
              go_wp2_with fail
              (go_at_call 63; refine (at_in a b c d (X + 1) RA.out RB.out RC.out RD.out (by omega) _).mono ?_; rw [← HU.out]; rintro e w6 ⟨rfl, hb6⟩; have N6 := Lib.hid (N5.out.below hb6); have X6 := Lib.hid (X5.out.below hb6); have B6 := Lib.hid (B5.out.trans (hb6.mono (by omega))); have z6 := hb6.size; clear hb6)
              go_wp2
              go_roundw
              case rel => exact ⟨k + 1, X + 1, hk2, HX2, by omega, by omega, by go_num, by rw [HG.out]; exact N6.out, Lib.hid (B6.out), by omega, Lib.hid (X6.out)⟩
              case measure => simp [intOf]; omega
          · by_cases hu1 : u < 0
            · skip
              have e0 : (v == 0) = false := beq_eq_false_iff_ne.2 (by omega)
              have e1 : decide (v < 0) = false := decide_eq_false (by omega)
              have e2 : decide (0 < v) = true := decide_eq_true (by omega)
              have e3 : decide (u < 0) = true := decide_eq_true (by omega)
              have HH := Lib.hid (show (v == 0 || (decide (v < 0) && decide (0 < u)) || (decide (0 < v) && decide (u < 0))) = true by rw [e0, e1, e2, e3]; simp)
              have HG := Lib.hid (gath_yes (P := (rcP a b c d (-1003))) (f := (rcF (-1003))) (k := k) (HP1.out.trans HH.out))
              go_wp2_with fail
              (go_at_call 63; refine (at_in a b c d X RA.out RB.out RC.out RD.out (by omega) _).mono ?_; rw [← HV.out]; rintro e w5 ⟨rfl, hb5⟩; have N5 := Lib.hid (HN.out.below hb5); have X5 := Lib.hid (X4.out.below hb5); have B5 := Lib.hid (HB.out.trans (hb5.mono (by omega))); have z5 := hb5.size; clear hb5)
              obtain ⟨_, p0, p1, p2, p3⟩ := X5.out
              go_wp2_with fail
              (go_at_call 63; refine (at_in a b c d (X + 1) RA.out RB.out RC.out RD.out (by omega) _).mono ?_; rw [← HU.out]; rintro e w6 ⟨rfl, hb6⟩; have N6 := Lib.hid (N5.out.below hb6); have X6 := Lib.hid (X5.out.below hb6); have B6 := Lib.hid (B5.out.trans (hb6.mono (by omega))); have z6 := hb6.size; clear hb6)
              have HO := Lib.hid (show w6.ownsRow (w.heap.size + 1) 3 1 _ (gath (rcP a b c d (-1003)) (rcF (-1003)) k).length ((gath (rcP a b c d (-1003)) (rcF (-1003)) k).map (Value.int .i64)) from N6.out)
              go_wp2_with (at_builtin; refine wpList_append_own _ rfl _ _ 22 rfl (w.heap.size + 1) 3 i0 (.int .i64 0) 1 8 underInts hi hz0 hz1 hz2 rfl (by decide) _ _ _ rfl (World.ownsRow.alloc HO.out _) ⟨w6.heap.size, 0, none⟩ 1 1 [.int .i64 (X)] rfl rfl (one_at _ _ rfl) (one_cell _) (by unfold maxLen; omega) (by omega) (by simp; omega) ?_; intro v' w1 hown' hgrow _)
              have R := nums_step N6.out B6.out (Nat.le_succ _) (by omega) hown' hgrow
              have R1 := Lib.hid R.1
              have R2 := Lib.hid R.2
              have R3 := Lib.hid (Box4.step X6.out N6.out (Nat.lt_succ_self _) (by omega) hgrow)
              have R4 : w.heap.size < w1.heap.size := R3.out.1
              clear R hown' hgrow
              go_wp2
              go_roundw
              case rel => exact ⟨k + 1, X + 1, hk2, HX2, by omega, by omega, by go_num, by rw [HG.out, HF1.out]; exact R1.out, R2, R4, R3⟩
              case measure => simp [intOf]; omega
            · skip
              have e0 : (v == 0) = false := beq_eq_false_iff_ne.2 (by omega)
              have e1 : decide (v < 0) = false := decide_eq_false (by omega)
              have e2 : decide (0 < v) = true := decide_eq_true (by omega)
              have e3 : decide (u < 0) = false := decide_eq_false (by omega)
              have HH := Lib.hid (show (v == 0 || (decide (v < 0) && decide (0 < u)) || (decide (0 < v) && decide (u < 0))) = false by rw [e0, e1, e2, e3]; simp)
              have HG := Lib.hid (gath_no (P := (rcP a b c d (-1003))) (f := (rcF (-1003))) (k := k) (HP1.out.trans HH.out))
              go_wp2_with fail
              (go_at_call 63; refine (at_in a b c d X RA.out RB.out RC.out RD.out (by omega) _).mono ?_; rw [← HV.out]; rintro e w5 ⟨rfl, hb5⟩; have N5 := Lib.hid (HN.out.below hb5); have X5 := Lib.hid (X4.out.below hb5); have B5 := Lib.hid (HB.out.trans (hb5.mono (by omega))); have z5 := hb5.size; clear hb5)
              obtain ⟨_, p0, p1, p2, p3⟩ := X5.out
              go_wp2_with fail
              (go_at_call 63; refine (at_in a b c d (X + 1) RA.out RB.out RC.out RD.out (by omega) _).mono ?_; rw [← HU.out]; rintro e w6 ⟨rfl, hb6⟩; have N6 := Lib.hid (N5.out.below hb6); have X6 := Lib.hid (X5.out.below hb6); have B6 := Lib.hid (B5.out.trans (hb6.mono (by omega))); have z6 := hb6.size; clear hb6)
              go_wp2
              go_roundw
              case rel => exact ⟨k + 1, X + 1, hk2, HX2, by omega, by omega, by go_num, by rw [HG.out]; exact N6.out, Lib.hid (B6.out), by omega, Lib.hid (X6.out)⟩
              case measure => simp [intOf]; omega
      · have HK := Lib.hid (show k = 2007 by have := HX.out; omega)
        go_wp2
        go_ret2
        exact ⟨_, ret_v_bool (by simp [HC.out]), by rw [HP.out, ← HK.out]; exact HN.out.mono (Nat.le_succ _), HB.out⟩
  · have HP := Lib.hid (show rxL a b c d = [] by unfold rxL; rw [hc]; rfl)
    have HC := Lib.hid hc
    go_enter Try.func25, Try.ntmps25
    go_wp2_with (go_at_call 62; refine (isCubic_any _ _ _ _ _).mono ?_; rintro e w4 ⟨rfl, hb4⟩; obtain ⟨hc4, hf4⟩ := bcell hb4; have hB4 : Below w.heap.size w w4 := Below.trans (by repeat' (first | (with_reducible exact Below.refl _ _) | (with_reducible assumption) | (with_reducible refine Below.alloc ?_ ?_ _) | (with_reducible refine Below.drew ?_) | (with_reducible refine below_drewN ?_ _) | (with_reducible refine Below.setCell ?_ ?_ _) | go_size)) (hb4.mono (by go_size)); (have hs4 := hb4.size); (try simp at hs4); (try (have hl4 := Nat.lt_of_succ_le hs4)); (first | (have hz4 : w.heap.size < w4.heap.size := by omega) | (have hz4 : w.heap.size ≤ w4.heap.size := by omega)); (try (have hz1_4 : w1.heap.size < w4.heap.size := by omega)); (try (have hz2_4 : w2.heap.size < w4.heap.size := by omega)); (try (have hz3_4 : w3.heap.size < w4.heap.size := by omega)); (try (have hz5_4 : w5.heap.size < w4.heap.size := by omega)); (try (have hzc_4 : wc.heap.size < w4.heap.size := by omega)); (try (have hy1_4 : w.heap.size + 1 < w4.heap.size := by omega)); (try (have hy2_4 : w.heap.size + 2 < w4.heap.size := by omega)); (try (have hy3_4 : w.heap.size + 3 < w4.heap.size := by omega)))
    go_ret2
    exact ⟨_, ret_v_bool (by simp [HC.out]), by rw [HP.out]; exact Nums.nil _ _, by repeat' (first | (with_reducible exact Below.refl _ _) | (with_reducible assumption) | (with_reducible refine Below.alloc ?_ ?_ _) | (with_reducible refine Below.drew ?_) | (with_reducible refine below_drewN ?_ _) | (with_reducible refine Below.setCell ?_ ?_ _) | go_size)⟩
set_option maxHeartbeats 8000000 in
theorem spec_any (a b c d : Int) (w : World) :
    Calls Try.prog 23 #[.agg #[.int .i64 a, .int .i64 b, .int .i64 c, .int .i64 d]] w fun e w' => ∃ v, e = .returned (.tuple #[v, .bool (cubB a b c d)]) ∧ Nums w' w.heap.size v (rxL a b c d) ∧ Below w.heap.size w w' := by
  obtain ⟨i0, hi, hz0, hz1, hz2⟩ := info_parts infoInt
  rcases Bool.eq_false_or_eq_true (cubB a b c d) with hc | hc
  · obtain ⟨_, ra, rb, rc, rd⟩ := cubB_range hc
    have RA := Lib.hid ra
    have RB := Lib.hid rb
    have RC := Lib.hid rc
    have RD := Lib.hid rd
    have HP := Lib.hid (show rxL a b c d = gath (rcP a b c d (-1001)) (rcF (-1001)) 2003 by unfold rxL; rw [if_pos hc])
    have HC := Lib.hid hc
    clear ra rb rc rd
    go_enter Try.func23, Try.ntmps23
    go_wp2_with fail
    ((go_at_call 59; refine (cuGood_any _ _ _ _ _).mono ?_; rintro e w4 ⟨rfl, hb4⟩; obtain ⟨hc4, hf4⟩ := bcell hb4; have hB4 : Below w.heap.size w w4 := Below.trans (by repeat' (first | (with_reducible exact Below.refl _ _) | (with_reducible assumption) | (with_reducible refine Below.alloc ?_ ?_ _) | (with_reducible refine Below.drew ?_) | (with_reducible refine below_drewN ?_ _) | (with_reducible refine Below.setCell ?_ ?_ _) | go_size)) (hb4.mono (by go_size)); (have hs4 := hb4.size); (try simp at hs4); (try (have hl4 := Nat.lt_of_succ_le hs4)); (first | (have hz4 : w.heap.size < w4.heap.size := by omega) | (have hz4 : w.heap.size ≤ w4.heap.size := by omega)); (try (have hz1_4 : w1.heap.size < w4.heap.size := by omega)); (try (have hz2_4 : w2.heap.size < w4.heap.size := by omega)); (try (have hz3_4 : w3.heap.size < w4.heap.size := by omega)); (try (have hz5_4 : w5.heap.size < w4.heap.size := by omega)); (try (have hzc_4 : wc.heap.size < w4.heap.size := by omega)); (try (have hy1_4 : w.heap.size + 1 < w4.heap.size := by omega)); (try (have hy2_4 : w.heap.size + 2 < w4.heap.size := by omega)); (try (have hy3_4 : w.heap.size + 3 < w4.heap.size := by omega))); have X4 := Lib.hid (show Box4 w4 w.heap.size a b c d from ⟨by have := hb4.size; (try simp at this); omega, (hb4.cell (by simp)).trans (by simp [go_sem]), (hb4.cell (by simp)).trans (by simp [go_sem]), (hb4.cell (by simp)).trans (by simp [go_sem]), (hb4.cell (by simp)).trans (by simp [go_sem])⟩); have BW := Lib.hid hB4; clear hc4 hf4 hb4 hB4)
    go_wp2_with fail
    go_loopw [4, 5] (fun v p wr => ∃ (k : Nat) (X : Int), k ≤ 2003 ∧ Hid (X = (k : Int) + -1001) ∧ -1001 ≤ X ∧ X ≤ 1002 ∧ p = .int .i64 X ∧ Hid (Nums wr (w.heap.size + 1) v (gath (rcP a b c d (-1001)) (rcF (-1001)) k)) ∧ Hid (Below w.heap.size w wr) ∧ w.heap.size < wr.heap.size ∧ Hid (Box4 wr w.heap.size a b c d)) (fun _ p _ => (1002 - intOf p).toNat)
    case atStart => exact ⟨0, -1001, by omega, Lib.hid rfl, by omega, by omega, rfl, Nums.nil _ _, BW, by have := X4.out.1; omega, X4⟩
    case round =>
      obtain ⟨k, X, hk, HX, x0, x1, rfl, HN, HB, hsz, X4⟩ := hrel
      have hlen := gath_length (rcP a b c d (-1001)) (rcF (-1001)) k
      by_cases hlt : X < 1002
      · have HP1 := Lib.hid (show (rcP a b c d (-1001)) k = hit (vC a b c d X) (vC a b c d (X + 1)) by rw [HX.out]; rfl)
        have HF1 := Lib.hid (show (rcF (-1001)) k = X by rw [HX.out]; rfl)
        have HX2 : Hid (X + 1 = ((k + 1 : Nat) : Int) + -1001) := by show _ = _; rw [HX.out]; omega
        have hk2 : k + 1 ≤ 2003 := by have := HX.out; omega
        have BV := Lib.hid (vC_bd RA.out RB.out RC.out RD.out (x := X) (by omega)).2
        have BU := Lib.hid (vC_bd RA.out RB.out RC.out RD.out (x := X + 1) (by omega)).2
        obtain ⟨_, q0, q1, q2, q3⟩ := X4.out
        obtain ⟨v, hv⟩ : ∃ v, v = vC a b c d X := ⟨_, rfl⟩
        obtain ⟨u, hu⟩ : ∃ u, u = vC a b c d (X + 1) := ⟨_, rfl⟩
        rw [← hv] at HP1 BV
        rw [← hu] at HP1 BU
        rw [sg_hit] at HP1
        have HV := Lib.hid hv
        have HU := Lib.hid hu
        have sv := sg_bd v
        have sm := sg_mul v u
        obtain ⟨m, hm⟩ : ∃ m, m = sgI v * sgI u := ⟨_, rfl⟩
        clear hv hu
        have ww : IntKind.i64.wrap (X + 1) = X + 1 := IntWalk.i64_in _ (by omega)
        rcases Bool.eq_false_or_eq_true (sgI v == 0) with e0 | e0
        · skip
          have HH := Lib.hid (show (sgI v == 0 || decide (sgI v * sgI u < 0)) = true by rw [e0]; rfl)
          have HG := Lib.hid (gath_yes (P := (rcP a b c d (-1001))) (f := (rcF (-1001))) (k := k) (HP1.out.trans HH.out))
          clear hm
          go_wp2_with fail
          go_region_held3 (fun w' => w'.cell? ⟨w.heap.size, 0, none⟩ = some (.int .i64 a) ∧ w'.cell? ⟨w.heap.size, 1, none⟩ = some (.int .i64 b) ∧ w'.cell? ⟨w.heap.size, 2, none⟩ = some (.int .i64 c) ∧ w'.cell? ⟨w.heap.size, 3, none⟩ = some (.int .i64 d)) ((first | exact ⟨by with_reducible assumption, by with_reducible assumption, by with_reducible assumption, by with_reducible assumption⟩ | ((try dsimp only); (repeat' apply And.intro); all_goals (first | (with_reducible assumption) | (go_keep; done) | (simp [go_sem]; done))))) (first | (go_at_call 61; (with_reducible refine (value_in a b c d X RA.out RB.out RC.out RD.out (by omega) _).mono ?_); rw [← HV.out]; rintro e w5 ⟨rfl, hb5⟩; have N5 := Lib.hid (HN.out.below (Below.trans (by (repeat' (first | (with_reducible exact Below.refl _ _) | (with_reducible assumption) | (with_reducible refine Below.alloc ?_ ?_ _) | (with_reducible refine Below.drew ?_) | (with_reducible refine below_drewN ?_ _) | (with_reducible refine Below.setCell ?_ ?_ _) | go_size))) (hb5.mono (by go_size)))); have X5 := Lib.hid (X4.out.below (Below.trans (by (repeat' (first | (with_reducible exact Below.refl _ _) | (with_reducible assumption) | (with_reducible refine Below.alloc ?_ ?_ _) | (with_reducible refine Below.drew ?_) | (with_reducible refine below_drewN ?_ _) | (with_reducible refine Below.setCell ?_ ?_ _) | go_size))) (hb5.mono (by go_size)))); have B5 := Lib.hid (HB.out.trans (Below.trans (by (repeat' (first | (with_reducible exact Below.refl _ _) | (with_reducible assumption) | (with_reducible refine Below.alloc ?_ ?_ _) | (with_reducible refine Below.drew ?_) | (with_reducible refine below_drewN ?_ _) | (with_reducible refine Below.setCell ?_ ?_ _) | go_size))) (hb5.mono (by go_size)))); have z5 : wr.heap.size ≤ w5.heap.size := (by have := hb5.size; (try simp at this); omega); clear hb5; have k5_0 := X5.out.2.1; have k5_1 := X5.out.2.2.1; have k5_2 := X5.out.2.2.2.1; have k5_3 := X5.out.2.2.2.2) | (go_at_call 61; (with_reducible refine (value_in a b c d (X + 1) RA.out RB.out RC.out RD.out (by omega) _).mono ?_); rw [← HU.out]; rintro e w6 ⟨rfl, hb6⟩; have N6 := Lib.hid (N5.out.below hb6); have X6 := Lib.hid (X5.out.below hb6); have B6 := Lib.hid (B5.out.trans (hb6.mono (by omega))); have z6 := hb6.size; clear hb6; have k6_0 := X6.out.2.1; have k6_1 := X6.out.2.2.1; have k6_2 := X6.out.2.2.2.1; have k6_3 := X6.out.2.2.2.2) | (go_at_call 60; (with_reducible refine (l1Sign_any _ _).mono ?_); rintro e w' ⟨rfl, rfl⟩))
          clear ww
          have HO := Lib.hid (show w6.ownsRow (w.heap.size + 1) 3 1 _ (gath (rcP a b c d (-1001)) (rcF (-1001)) k).length ((gath (rcP a b c d (-1001)) (rcF (-1001)) k).map (Value.int .i64)) from N6.out)
          go_wp2_with (at_builtin; refine wpList_append_own _ rfl _ _ 22 rfl (w.heap.size + 1) 3 i0 (.int .i64 0) 1 8 underInts hi hz0 hz1 hz2 rfl (by decide) _ _ _ rfl (World.ownsRow.alloc HO.out _) ⟨w6.heap.size, 0, none⟩ 1 1 [.int .i64 (X)] rfl rfl (one_at _ _ rfl) (one_cell _) (by unfold maxLen; omega) (by omega) (by simp; omega) ?_; intro v' w1 hown' hgrow _)
          have R := nums_step N6.out B6.out (Nat.le_succ _) (by omega) hown' hgrow
          have R1 := Lib.hid R.1
          have R2 := Lib.hid R.2
          have R3 := Lib.hid (Box4.step X6.out N6.out (Nat.lt_succ_self _) (by omega) hgrow)
          have R4 : w.heap.size < w1.heap.size := R3.out.1
          clear R hown' hgrow
          go_wp2
          go_roundw
          case rel => exact ⟨k + 1, X + 1, hk2, HX2, by omega, by omega, by go_num, by rw [HG.out, HF1.out]; exact R1.out, R2, R4, R3⟩
          case measure => simp [intOf]; omega
        · rcases Bool.eq_false_or_eq_true (decide (sgI v * sgI u < 0)) with e1 | e1
          · skip
            have HH := Lib.hid (show (sgI v == 0 || decide (sgI v * sgI u < 0)) = true by rw [e0, e1]; rfl)
            have HG := Lib.hid (gath_yes (P := (rcP a b c d (-1001))) (f := (rcF (-1001))) (k := k) (HP1.out.trans HH.out))
            clear hm
            go_wp2_with fail
            go_region_held3 (fun w' => w'.cell? ⟨w.heap.size, 0, none⟩ = some (.int .i64 a) ∧ w'.cell? ⟨w.heap.size, 1, none⟩ = some (.int .i64 b) ∧ w'.cell? ⟨w.heap.size, 2, none⟩ = some (.int .i64 c) ∧ w'.cell? ⟨w.heap.size, 3, none⟩ = some (.int .i64 d)) ((first | exact ⟨by with_reducible assumption, by with_reducible assumption, by with_reducible assumption, by with_reducible assumption⟩ | ((try dsimp only); (repeat' apply And.intro); all_goals (first | (with_reducible assumption) | (go_keep; done) | (simp [go_sem]; done))))) (first | (go_at_call 61; (with_reducible refine (value_in a b c d X RA.out RB.out RC.out RD.out (by omega) _).mono ?_); rw [← HV.out]; rintro e w5 ⟨rfl, hb5⟩; have N5 := Lib.hid (HN.out.below (Below.trans (by (repeat' (first | (with_reducible exact Below.refl _ _) | (with_reducible assumption) | (with_reducible refine Below.alloc ?_ ?_ _) | (with_reducible refine Below.drew ?_) | (with_reducible refine below_drewN ?_ _) | (with_reducible refine Below.setCell ?_ ?_ _) | go_size))) (hb5.mono (by go_size)))); have X5 := Lib.hid (X4.out.below (Below.trans (by (repeat' (first | (with_reducible exact Below.refl _ _) | (with_reducible assumption) | (with_reducible refine Below.alloc ?_ ?_ _) | (with_reducible refine Below.drew ?_) | (with_reducible refine below_drewN ?_ _) | (with_reducible refine Below.setCell ?_ ?_ _) | go_size))) (hb5.mono (by go_size)))); have B5 := Lib.hid (HB.out.trans (Below.trans (by (repeat' (first | (with_reducible exact Below.refl _ _) | (with_reducible assumption) | (with_reducible refine Below.alloc ?_ ?_ _) | (with_reducible refine Below.drew ?_) | (with_reducible refine below_drewN ?_ _) | (with_reducible refine Below.setCell ?_ ?_ _) | go_size))) (hb5.mono (by go_size)))); have z5 : wr.heap.size ≤ w5.heap.size := (by have := hb5.size; (try simp at this); omega); clear hb5; have k5_0 := X5.out.2.1; have k5_1 := X5.out.2.2.1; have k5_2 := X5.out.2.2.2.1; have k5_3 := X5.out.2.2.2.2) | (go_at_call 61; (with_reducible refine (value_in a b c d (X + 1) RA.out RB.out RC.out RD.out (by omega) _).mono ?_); rw [← HU.out]; rintro e w6 ⟨rfl, hb6⟩; have N6 := Lib.hid (N5.out.below hb6); have X6 := Lib.hid (X5.out.below hb6); have B6 := Lib.hid (B5.out.trans (hb6.mono (by omega))); have z6 := hb6.size; clear hb6; have k6_0 := X6.out.2.1; have k6_1 := X6.out.2.2.1; have k6_2 := X6.out.2.2.2.1; have k6_3 := X6.out.2.2.2.2) | (go_at_call 60; (with_reducible refine (l1Sign_any _ _).mono ?_); rintro e w' ⟨rfl, rfl⟩))
            clear ww
            have HO := Lib.hid (show w6.ownsRow (w.heap.size + 1) 3 1 _ (gath (rcP a b c d (-1001)) (rcF (-1001)) k).length ((gath (rcP a b c d (-1001)) (rcF (-1001)) k).map (Value.int .i64)) from N6.out)
            go_wp2_with (at_builtin; refine wpList_append_own _ rfl _ _ 22 rfl (w.heap.size + 1) 3 i0 (.int .i64 0) 1 8 underInts hi hz0 hz1 hz2 rfl (by decide) _ _ _ rfl (World.ownsRow.alloc HO.out _) ⟨w6.heap.size, 0, none⟩ 1 1 [.int .i64 (X)] rfl rfl (one_at _ _ rfl) (one_cell _) (by unfold maxLen; omega) (by omega) (by simp; omega) ?_; intro v' w1 hown' hgrow _)
            have R := nums_step N6.out B6.out (Nat.le_succ _) (by omega) hown' hgrow
            have R1 := Lib.hid R.1
            have R2 := Lib.hid R.2
            have R3 := Lib.hid (Box4.step X6.out N6.out (Nat.lt_succ_self _) (by omega) hgrow)
            have R4 : w.heap.size < w1.heap.size := R3.out.1
            clear R hown' hgrow
            go_wp2
            go_roundw
            case rel => exact ⟨k + 1, X + 1, hk2, HX2, by omega, by omega, by go_num, by rw [HG.out, HF1.out]; exact R1.out, R2, R4, R3⟩
            case measure => simp [intOf]; omega
          · skip
            have HH := Lib.hid (show (sgI v == 0 || decide (sgI v * sgI u < 0)) = false by rw [e0, e1]; rfl)
            have HG := Lib.hid (gath_no (P := (rcP a b c d (-1001))) (f := (rcF (-1001))) (k := k) (HP1.out.trans HH.out))
            clear hm
            go_wp2_with fail
            go_region_held3 (fun w' => w'.cell? ⟨w.heap.size, 0, none⟩ = some (.int .i64 a) ∧ w'.cell? ⟨w.heap.size, 1, none⟩ = some (.int .i64 b) ∧ w'.cell? ⟨w.heap.size, 2, none⟩ = some (.int .i64 c) ∧ w'.cell? ⟨w.heap.size, 3, none⟩ = some (.int .i64 d)) ((first | exact ⟨by with_reducible assumption, by with_reducible assumption, by with_reducible assumption, by with_reducible assumption⟩ | ((try dsimp only); (repeat' apply And.intro); all_goals (first | (with_reducible assumption) | (go_keep; done) | (simp [go_sem]; done))))) (first | (go_at_call 61; (with_reducible refine (value_in a b c d X RA.out RB.out RC.out RD.out (by omega) _).mono ?_); rw [← HV.out]; rintro e w5 ⟨rfl, hb5⟩; have N5 := Lib.hid (HN.out.below (Below.trans (by (repeat' (first | (with_reducible exact Below.refl _ _) | (with_reducible assumption) | (with_reducible refine Below.alloc ?_ ?_ _) | (with_reducible refine Below.drew ?_) | (with_reducible refine below_drewN ?_ _) | (with_reducible refine Below.setCell ?_ ?_ _) | go_size))) (hb5.mono (by go_size)))); have X5 := Lib.hid (X4.out.below (Below.trans (by (repeat' (first | (with_reducible exact Below.refl _ _) | (with_reducible assumption) | (with_reducible refine Below.alloc ?_ ?_ _) | (with_reducible refine Below.drew ?_) | (with_reducible refine below_drewN ?_ _) | (with_reducible refine Below.setCell ?_ ?_ _) | go_size))) (hb5.mono (by go_size)))); have B5 := Lib.hid (HB.out.trans (Below.trans (by (repeat' (first | (with_reducible exact Below.refl _ _) | (with_reducible assumption) | (with_reducible refine Below.alloc ?_ ?_ _) | (with_reducible refine Below.drew ?_) | (with_reducible refine below_drewN ?_ _) | (with_reducible refine Below.setCell ?_ ?_ _) | go_size))) (hb5.mono (by go_size)))); have z5 : wr.heap.size ≤ w5.heap.size := (by have := hb5.size; (try simp at this); omega); clear hb5; have k5_0 := X5.out.2.1; have k5_1 := X5.out.2.2.1; have k5_2 := X5.out.2.2.2.1; have k5_3 := X5.out.2.2.2.2) | (go_at_call 61; (with_reducible refine (value_in a b c d (X + 1) RA.out RB.out RC.out RD.out (by omega) _).mono ?_); rw [← HU.out]; rintro e w6 ⟨rfl, hb6⟩; have N6 := Lib.hid (N5.out.below hb6); have X6 := Lib.hid (X5.out.below hb6); have B6 := Lib.hid (B5.out.trans (hb6.mono (by omega))); have z6 := hb6.size; clear hb6; have k6_0 := X6.out.2.1; have k6_1 := X6.out.2.2.1; have k6_2 := X6.out.2.2.2.1; have k6_3 := X6.out.2.2.2.2) | (go_at_call 60; (with_reducible refine (l1Sign_any _ _).mono ?_); rintro e w' ⟨rfl, rfl⟩))
            clear ww
            go_wp2
            go_roundw
            case rel => exact ⟨k + 1, X + 1, hk2, HX2, by omega, by omega, by go_num, by rw [HG.out]; exact N6.out, Lib.hid (B6.out), by omega, Lib.hid (X6.out)⟩
            case measure => simp [intOf]; omega
      · have HK := Lib.hid (show k = 2003 by have := HX.out; omega)
        go_wp2
        go_ret2
        exact ⟨_, ret_v_bool (by simp [HC.out]), by rw [HP.out, ← HK.out]; exact HN.out.mono (Nat.le_succ _), HB.out⟩
  · have HP := Lib.hid (show rxL a b c d = [] by unfold rxL; rw [hc]; rfl)
    have HC := Lib.hid hc
    go_enter Try.func23, Try.ntmps23
    go_wp2_with (go_at_call 59; refine (cuGood_any _ _ _ _ _).mono ?_; rintro e w4 ⟨rfl, hb4⟩; obtain ⟨hc4, hf4⟩ := bcell hb4; have hB4 : Below w.heap.size w w4 := Below.trans (by repeat' (first | (with_reducible exact Below.refl _ _) | (with_reducible assumption) | (with_reducible refine Below.alloc ?_ ?_ _) | (with_reducible refine Below.drew ?_) | (with_reducible refine below_drewN ?_ _) | (with_reducible refine Below.setCell ?_ ?_ _) | go_size)) (hb4.mono (by go_size)); (have hs4 := hb4.size); (try simp at hs4); (try (have hl4 := Nat.lt_of_succ_le hs4)); (first | (have hz4 : w.heap.size < w4.heap.size := by omega) | (have hz4 : w.heap.size ≤ w4.heap.size := by omega)); (try (have hz1_4 : w1.heap.size < w4.heap.size := by omega)); (try (have hz2_4 : w2.heap.size < w4.heap.size := by omega)); (try (have hz3_4 : w3.heap.size < w4.heap.size := by omega)); (try (have hz5_4 : w5.heap.size < w4.heap.size := by omega)); (try (have hzc_4 : wc.heap.size < w4.heap.size := by omega)); (try (have hy1_4 : w.heap.size + 1 < w4.heap.size := by omega)); (try (have hy2_4 : w.heap.size + 2 < w4.heap.size := by omega)); (try (have hy3_4 : w.heap.size + 3 < w4.heap.size := by omega)))
    go_ret2
    exact ⟨_, ret_v_bool (by simp [HC.out]), by rw [HP.out]; exact Nums.nil _ _, by repeat' (first | (with_reducible exact Below.refl _ _) | (with_reducible assumption) | (with_reducible refine Below.alloc ?_ ?_ _) | (with_reducible refine Below.drew ?_) | (with_reducible refine below_drewN ?_ _) | (with_reducible refine Below.setCell ?_ ?_ _) | go_size)⟩
theorem rxL_short2 (a b c d : Int) : (rxL a b c d).length ≤ 4611686018427387904 := by have := rxL_short a b c d; omega
theorem rxL_short2' (a b c d : Int) : (rxL a b c d).length ≤ 1000000000000000 := by have := rxL_short a b c d; omega
set_option maxHeartbeats 4000000 in
theorem walk (a b c d : Int) (_ : (Lit.int .i64 a).wf = true) (_ : (Lit.int .i64 b).wf = true) (_ : (Lit.int .i64 c).wf = true) (_ : (Lit.int .i64 d).wf = true) (w : World) : Calls Try.prog 5 #[.agg #[.int .i64 a, .int .i64 b, .int .i64 c, .int .i64 d]] w fun e w' => e = .returned (.bool true) ∧ Below w.heap.size w w' := by
  go_enter Try.func5, Try.ntmps5
  go_wp2_with (go_at_call 24; refine (toCubic_any _ _ _ _ _).mono ?_; rintro e w1 ⟨rfl, hb1⟩; obtain ⟨hc1, hf1⟩ := bcell hb1; have hB1 : Below w.heap.size w w1 := Below.trans (by repeat' (first | (with_reducible exact Below.refl _ _) | (with_reducible assumption) | (with_reducible refine Below.alloc ?_ ?_ _) | (with_reducible refine Below.drew ?_) | (with_reducible refine below_drewN ?_ _) | (with_reducible refine Below.setCell ?_ ?_ _) | go_size)) (hb1.mono (by go_size)); (have hs1 := hb1.size); (try simp at hs1); (try (have hl1 := Nat.lt_of_succ_le hs1)); (first | (have hz1 : w.heap.size < w1.heap.size := by omega) | (have hz1 : w.heap.size ≤ w1.heap.size := by omega)); (try (have hz2_1 : w2.heap.size < w1.heap.size := by omega)); (try (have hz3_1 : w3.heap.size < w1.heap.size := by omega)); (try (have hz4_1 : w4.heap.size < w1.heap.size := by omega)); (try (have hz5_1 : w5.heap.size < w1.heap.size := by omega)); (try (have hzc_1 : wc.heap.size < w1.heap.size := by omega)); (try (have hy1_1 : w.heap.size + 1 < w1.heap.size := by omega)); (try (have hy2_1 : w.heap.size + 2 < w1.heap.size := by omega)); (try (have hy3_1 : w.heap.size + 3 < w1.heap.size := by omega)))
  (go_at_call 23; refine (spec_any _ _ _ _ _).mono ?_; rintro e w2 ⟨v2, rfl, n2, hb2⟩; obtain ⟨hc2, hf2⟩ := bcellB hb2; have hB2 : Below w.heap.size w w2 := Below.trans (by repeat' (first | (with_reducible exact Below.refl _ _) | (with_reducible assumption) | (with_reducible refine Below.alloc ?_ ?_ _) | (with_reducible refine Below.drew ?_) | (with_reducible refine below_drewN ?_ _) | (with_reducible refine Below.setCell ?_ ?_ _) | go_size)) (hb2.mono (by go_size)); (have hs2 := hb2.size); (try simp at hs2); (first | (have hz2 : w.heap.size < w2.heap.size := by omega) | (have hz2 : w.heap.size ≤ w2.heap.size := by omega)))
  have q2 := hb2.size
  go_wp2_with (go_at_call 24; refine (toCubic_any _ _ _ _ _).mono ?_; rintro e w3 ⟨rfl, hb3⟩; obtain ⟨hc3, hf3⟩ := bcell hb3; have hB3 : Below w.heap.size w w3 := Below.trans (by repeat' (first | (with_reducible exact Below.refl _ _) | (with_reducible assumption) | (with_reducible refine Below.alloc ?_ ?_ _) | (with_reducible refine Below.drew ?_) | (with_reducible refine below_drewN ?_ _) | (with_reducible refine Below.setCell ?_ ?_ _) | go_size)) (hb3.mono (by go_size)); (have hs3 := hb3.size); (try simp at hs3); (try (have hl3 := Nat.lt_of_succ_le hs3)); (first | (have hz3 : w.heap.size < w3.heap.size := by omega) | (have hz3 : w.heap.size ≤ w3.heap.size := by omega)); (try (have hz1_3 : w1.heap.size < w3.heap.size := by omega)); (try (have hz2_3 : w2.heap.size < w3.heap.size := by omega)); (try (have hz4_3 : w4.heap.size < w3.heap.size := by omega)); (try (have hz5_3 : w5.heap.size < w3.heap.size := by omega)); (try (have hzc_3 : wc.heap.size < w3.heap.size := by omega)); (try (have hy1_3 : w.heap.size + 1 < w3.heap.size := by omega)); (try (have hy2_3 : w.heap.size + 2 < w3.heap.size := by omega)); (try (have hy3_3 : w.heap.size + 3 < w3.heap.size := by omega)))
  (go_at_call 25; refine (impl_any _ _ _ _ _).mono ?_; rintro e w4 ⟨v4, rfl, n4, hb4⟩; obtain ⟨hc4, hf4⟩ := bcellB hb4; have hB4 : Below w.heap.size w w4 := Below.trans (by repeat' (first | (with_reducible exact Below.refl _ _) | (with_reducible assumption) | (with_reducible refine Below.alloc ?_ ?_ _) | (with_reducible refine Below.drew ?_) | (with_reducible refine below_drewN ?_ _) | (with_reducible refine Below.setCell ?_ ?_ _) | go_size)) (hb4.mono (by go_size)); (have hs4 := hb4.size); (try simp at hs4); (first | (have hz4 : w.heap.size < w4.heap.size := by omega) | (have hz4 : w.heap.size ≤ w4.heap.size := by omega)))
  have q4 := hb4.size
  have m2 : Nums w4 _ v2 _ := (n2.below hb3).below hb4
  have q3 := hb3.size
  have ap := Nums.apart n2 n4 (by omega)
  have N2 := Lib.hid m2
  have N4 := Lib.hid n4
  have AP := Lib.hid ap
  clear m2 n2 n4 ap
  go_wp2_with fail
  (go_at_call 17; refine (eqIntS_same N4.out N2.out (rxL_short2 a b c d)).mono ?_; rintro e w5 ⟨rfl, hb5⟩; obtain ⟨hc5, hf5⟩ := bcellB hb5; have hB5 : Below w.heap.size w w5 := Below.trans (by repeat' (first | (with_reducible exact Below.refl _ _) | (with_reducible assumption) | (with_reducible refine Below.alloc ?_ ?_ _) | (with_reducible refine Below.drew ?_) | (with_reducible refine below_drewN ?_ _) | (with_reducible refine Below.setCell ?_ ?_ _) | go_size)) (hb5.mono (by go_size)); (have hs5 := hb5.size); (try simp at hs5); (first | (have hz5 : w.heap.size < w5.heap.size := by omega) | (have hz5 : w.heap.size ≤ w5.heap.size := by omega)))
  have q5 := hb5.size
  go_wp2_with fail
  (go_at_call 18; refine (markIntS_row 1 (N4.out.below hb5) (by omega) (rxL_short2' a b c d) (by omega) (by omega)).mono ?_; rintro e w6 ⟨rfl, n6, g6, hb6⟩; obtain ⟨hc6, hf6⟩ := bcellB hb6; have hB6 : Below w.heap.size w w6 := Below.trans (by repeat' (first | (with_reducible exact Below.refl _ _) | (with_reducible assumption) | (with_reducible refine Below.alloc ?_ ?_ _) | (with_reducible refine Below.drew ?_) | (with_reducible refine below_drewN ?_ _) | (with_reducible refine Below.setCell ?_ ?_ _) | go_size)) (hb6.mono (by go_size)); (have hs6 := hb6.size); (try simp at hs6); (first | (have hz6 : w.heap.size < w6.heap.size := by omega) | (have hz6 : w.heap.size ≤ w6.heap.size := by omega)))
  have q6 := hb6.size
  have N6 := Lib.hid n6
  have N26 := Lib.hid ((N2.out.below hb5).kept g6 AP.out)
  clear n6 g6
  go_wp2_with fail
  (go_at_call 19; refine (heldIntS_any 1 N6.out (rxL_short2' a b c d) (by omega) (by omega)).mono ?_; rintro e w' ⟨rfl, rfl⟩)
  go_wp2_with (go_at_call 24; refine (toCubic_any _ _ _ _ _).mono ?_; rintro e w7 ⟨rfl, hb7⟩; obtain ⟨hc7, hf7⟩ := bcell hb7; have hB7 : Below w.heap.size w w7 := Below.trans (by repeat' (first | (with_reducible exact Below.refl _ _) | (with_reducible assumption) | (with_reducible refine Below.alloc ?_ ?_ _) | (with_reducible refine Below.drew ?_) | (with_reducible refine below_drewN ?_ _) | (with_reducible refine Below.setCell ?_ ?_ _) | go_size)) (hb7.mono (by go_size)); (have hs7 := hb7.size); (try simp at hs7); (try (have hl7 := Nat.lt_of_succ_le hs7)); (first | (have hz7 : w.heap.size < w7.heap.size := by omega) | (have hz7 : w.heap.size ≤ w7.heap.size := by omega)); (try (have hz1_7 : w1.heap.size < w7.heap.size := by omega)); (try (have hz2_7 : w2.heap.size < w7.heap.size := by omega)); (try (have hz3_7 : w3.heap.size < w7.heap.size := by omega)); (try (have hz4_7 : w4.heap.size < w7.heap.size := by omega)); (try (have hz5_7 : w5.heap.size < w7.heap.size := by omega)); (try (have hzc_7 : wc.heap.size < w7.heap.size := by omega)); (try (have hy1_7 : w.heap.size + 1 < w7.heap.size := by omega)); (try (have hy2_7 : w.heap.size + 2 < w7.heap.size := by omega)); (try (have hy3_7 : w.heap.size + 3 < w7.heap.size := by omega)))
  (go_at_call 25; refine (impl_any _ _ _ _ _).mono ?_; rintro e w8 ⟨v8, rfl, n8, hb8⟩; obtain ⟨hc8, hf8⟩ := bcellB hb8; have hB8 : Below w.heap.size w w8 := Below.trans (by repeat' (first | (with_reducible exact Below.refl _ _) | (with_reducible assumption) | (with_reducible refine Below.alloc ?_ ?_ _) | (with_reducible refine Below.drew ?_) | (with_reducible refine below_drewN ?_ _) | (with_reducible refine Below.setCell ?_ ?_ _) | go_size)) (hb8.mono (by go_size)); (have hs8 := hb8.size); (try simp at hs8); (first | (have hz8 : w.heap.size < w8.heap.size := by omega) | (have hz8 : w.heap.size ≤ w8.heap.size := by omega)))
  have q8 := hb8.size
  have N28 := Lib.hid ((N26.out.below hb7).below hb8)
  have N68 := Lib.hid ((N6.out.below hb7).below hb8)
  have N8 := Lib.hid n8
  clear n8
  go_wp2_with fail
  (go_at_call 17; refine (eqIntS_same N8.out N28.out (rxL_short2 a b c d)).mono ?_; rintro e w9 ⟨rfl, hb9⟩; obtain ⟨hc9, hf9⟩ := bcellB hb9; have hB9 : Below w.heap.size w w9 := Below.trans (by repeat' (first | (with_reducible exact Below.refl _ _) | (with_reducible assumption) | (with_reducible refine Below.alloc ?_ ?_ _) | (with_reducible refine Below.drew ?_) | (with_reducible refine below_drewN ?_ _) | (with_reducible refine Below.setCell ?_ ?_ _) | go_size)) (hb9.mono (by go_size)); (have hs9 := hb9.size); (try simp at hs9); (first | (have hz9 : w.heap.size < w9.heap.size := by omega) | (have hz9 : w.heap.size ≤ w9.heap.size := by omega)))
  go_wp2_with fail
  (go_at_call 19; refine (heldIntS_any 1 (N68.out.below hb9) (rxL_short2' a b c d) (by omega) (by omega)).mono ?_; rintro e w' ⟨rfl, rfl⟩)
  go_wp2
  go_ret
  exact ⟨rfl, by repeat' (first | (with_reducible exact Below.refl _ _) | (with_reducible assumption) | (with_reducible refine Below.alloc ?_ ?_ _) | (with_reducible refine Below.drew ?_) | (with_reducible refine below_drewN ?_ _) | (with_reducible refine Below.setCell ?_ ?_ _) | go_size)⟩
end Go.Proofs.Ytfaglhhkcgjbnaa.Rx
