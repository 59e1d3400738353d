/- Contracts of impl.isWhole and spec.bgGood: whether a whole is valid; of laws.eqWhole, markWhole, heldWhole. -/
import Derived.Test.YtklhmaegpejdbaaDoorWhole
namespace Go.Proofs.YtklhmaegpejdbaaDoor
open Go.RowKit
set_option linter.unusedVariables false
set_option linter.unusedSimpArgs false
theorem goodB_long {neg : Bool} {xs : List Int} (h : 400 < xs.length) : goodB neg xs = false := by
  rw [Bool.eq_false_iff]; intro e; have := (goodB_iff.1 e).1; omega
theorem goodB_last {neg : Bool} {xs : List Int} (h : xs[xs.length - 1]? = some 0) : goodB neg xs = false := by
  rw [Bool.eq_false_iff]; intro e; exact (goodB_iff.1 e).2.2.2 h
theorem goodB_out {neg : Bool} {xs : List Int} {k : Nat} {x : Int} (h : xs[k]? = some x) (hx : inB x 0 9999 = false) : goodB neg xs = false := by
  rw [Bool.eq_false_iff]; intro e; exact (inB_not.1 hx) ((goodB_iff.1 e).2.2.1.at h)
/-- The first k are digits. -/
def DigTo (xs : List Int) (k : Nat) : Prop := ∀ (j : Nat) (x : Int), j < k → xs[j]? = some x → 0 ≤ x ∧ x ≤ 9999
theorem DigTo.next {xs : List Int} {k : Nat} {x : Int} (h : DigTo xs k) (hx : xs[k]? = some x) (hi : inB x 0 9999 = true) : DigTo xs (k + 1) := fun j y hj hy => by
  by_cases e : j = k
  · subst e; rw [hx] at hy; cases hy; exact inB_iff.1 hi
  · exact h j y (by omega) hy
theorem DigTo.all {xs : List Int} (h : DigTo xs xs.length) : Dig xs := fun x hx => by
  obtain ⟨j, hj, rfl⟩ := List.getElem_of_mem hx
  exact h j _ hj (List.getElem?_eq_getElem hj)
theorem goodB_yes {neg : Bool} {xs : List Int} {x : Int} (h : xs.length ≤ 400) (h0 : 0 < xs.length) (hx : xs[xs.length - 1]? = some x) (hn : x ≠ 0) (hd : Dig xs) : goodB neg xs = true :=
  goodB_iff.2 ⟨h, .inl h0, hd, by rw [hx]; intro e; cases e; exact hn rfl⟩
set_option maxHeartbeats 1000000 in
theorem isWhole_some (neg : Bool) (xs : List Int) (g c : Nat) (w : World) (hl : xs.length ≤ 1048576) (h0 : 0 < xs.length) (hg : g < w.heap.size)
    (hr : ∀ (k : Nat) (x : Int), xs[k]? = some x → w.cell? ⟨g, k, none⟩ = some (.int .i64 x)) :
    Calls Tryd.prog 48 #[.agg #[.bool neg, .slice (some ⟨g, 0, none⟩) xs.length c]] w fun e w' => e = .returned (.bool (goodB neg xs)) ∧ Below w.heap.size w w' := by
  have HR := Lib.hid hr
  clear hr
  by_cases hlen : 400 < xs.length
  · have HG := Lib.hid (goodB_long (neg := neg) hlen)
    go_enter Tryd.func48, Tryd.ntmps48
    go_wp2
    go_ret
    exact ⟨ret_bool HG.out.symm, by repeat' (first | (with_reducible exact Below.refl _ _) | (with_reducible assumption) | (with_reducible refine Below.alloc ?_ ?_ _) | (with_reducible refine Below.drew ?_) | (with_reducible refine below_drewN ?_ _) | (with_reducible refine Below.setCell ?_ ?_ _) | go_size)⟩
  · obtain ⟨x, hx⟩ : ∃ x, xs[xs.length - 1]? = some x := ⟨_, List.getElem?_eq_getElem (by omega)⟩
    have hc := HR.out _ x hx
    have HX := Lib.hid hx
    clear hx
    have l1 : xs.length ≤ 400 := by omega
    have l2 : ¬ (xs.length = 0) := by omega
    by_cases hz : x = 0
    · subst hz
      have HG := Lib.hid (goodB_last (neg := neg) HX.out)
      go_enter Tryd.func48, Tryd.ntmps48
      go_wp2
      go_ret
      exact ⟨ret_bool HG.out.symm, by repeat' (first | (with_reducible exact Below.refl _ _) | (with_reducible assumption) | (with_reducible refine Below.alloc ?_ ?_ _) | (with_reducible refine Below.drew ?_) | (with_reducible refine below_drewN ?_ _) | (with_reducible refine Below.setCell ?_ ?_ _) | go_size)⟩
    · have hzb : (x == 0) = false := by simpa using hz
      have l3 : decide ((400 : Int) < (xs.length : Int)) = false := by simp; omega
      go_enter Tryd.func48, Tryd.ntmps48
      go_wp2
      go_loop [35] (fun i => ∃ k : Nat, k ≤ xs.length ∧ i = .int .i64 k ∧ Hid (DigTo xs k)) (fun i => xs.length - (intOf i).toNat)
      case atStart => exact ⟨0, by omega, rfl, fun j y hj => by omega⟩
      case round =>
        obtain ⟨k, hk, rfl, HD⟩ := hrel
        by_cases hlt : k < xs.length
        · obtain ⟨y, hy⟩ : ∃ y, xs[k]? = some y := ⟨_, List.getElem?_eq_getElem hlt⟩
          have hcy := HR.out _ y hy
          have HY := Lib.hid hy
          clear hy
          have b0 : (0 : Int) ≤ (k : Int) := by omega
          have b1 : (k : Int) < (xs.length : Int) := by omega
          rcases Bool.eq_false_or_eq_true (inB y 0 9999) with hin | hin
          · have HD2 : Hid (DigTo xs (k + 1)) := HD.out.next HY.out hin
            go_wp2_with (go_at_call 90; refine (inside_any _ _ _ _).mono ?_; rintro e w' ⟨rfl, rfl⟩)
            go_round
            case rel => exact ⟨k + 1, by omega, by go_num, HD2⟩
            case measure => simp [intOf]; omega
          · have HG := Lib.hid (goodB_out (neg := neg) HY.out hin)
            go_wp2_with (go_at_call 90; refine (inside_any _ _ _ _).mono ?_; rintro e w' ⟨rfl, rfl⟩)
            go_ret
            exact ⟨ret_bool HG.out.symm, by repeat' (first | (with_reducible exact Below.refl _ _) | (with_reducible assumption) | (with_reducible refine Below.alloc ?_ ?_ _) | (with_reducible refine Below.drew ?_) | (with_reducible refine below_drewN ?_ _) | (with_reducible refine Below.setCell ?_ ?_ _) | go_size)⟩
        · obtain rfl : k = xs.length := by omega
          have HG := Lib.hid (goodB_yes (neg := neg) l1 h0 HX.out hz HD.out.all)
          go_wp2
          go_ret
          exact ⟨ret_bool HG.out.symm, by repeat' (first | (with_reducible exact Below.refl _ _) | (with_reducible assumption) | (with_reducible refine Below.alloc ?_ ?_ _) | (with_reducible refine Below.drew ?_) | (with_reducible refine below_drewN ?_ _) | (with_reducible refine Below.setCell ?_ ?_ _) | go_size)⟩
theorem goodB_nil (neg : Bool) : goodB neg [] = !neg := by cases neg <;> rfl
theorem isWhole_none (neg : Bool) (A : Option Addr) (c : Nat) (w : World) :
    Calls Tryd.prog 48 #[.agg #[.bool neg, .slice A 0 c]] w fun e w' => e = .returned (.bool (!neg)) ∧ Below w.heap.size w w' := by
  cases neg
  · go_enter Tryd.func48, Tryd.ntmps48
    go_wp2
    go_rounds 1
    go_ret
    exact ⟨rfl, by repeat' (first | (with_reducible exact Below.refl _ _) | (with_reducible assumption) | (with_reducible refine Below.alloc ?_ ?_ _) | (with_reducible refine Below.drew ?_) | (with_reducible refine below_drewN ?_ _) | (with_reducible refine Below.setCell ?_ ?_ _) | go_size)⟩
  · go_enter Tryd.func48, Tryd.ntmps48
    go_wp2
    go_ret
    exact ⟨rfl, by repeat' (first | (with_reducible exact Below.refl _ _) | (with_reducible assumption) | (with_reducible refine Below.alloc ?_ ?_ _) | (with_reducible refine Below.drew ?_) | (with_reducible refine below_drewN ?_ _) | (with_reducible refine Below.setCell ?_ ?_ _) | go_size)⟩
theorem isWhole_any (neg : Bool) {A : Option Addr} {c : Nat} {xs : List Int} {w : World} (h : Holds w (.slice A xs.length c) xs) (hl : xs.length ≤ 1048576) :
    Calls Tryd.prog 48 #[.agg #[.bool neg, .slice A xs.length c]] w fun e w' => e = .returned (.bool (goodB neg xs)) ∧ Below w.heap.size w w' := by
  rcases h with ⟨rfl, _⟩ | ⟨g, c', hv, h1, h2, h3, h4⟩
  · rw [goodB_nil]; exact isWhole_none _ _ _ _
  · cases hv; exact isWhole_some neg xs g c w hl h1 h3 h4
def digB (xs : List Int) : Bool := decide (∀ x ∈ xs, 0 ≤ x ∧ x ≤ 9999)
theorem digB_iff {xs : List Int} : digB xs = true ↔ Dig xs := by simp [digB, Dig]
theorem digB_not {xs : List Int} {k : Nat} {x : Int} (h : xs[k]? = some x) (hx : inB x 0 9999 = false) : digB xs = false := by
  rw [Bool.eq_false_iff]; intro e; exact (inB_not.1 hx) ((digB_iff.1 e).at h)
set_option maxHeartbeats 1000000 in
theorem l1All_some (xs : List Int) (g c : Nat) (w : World) (hl : xs.length ≤ 1048576)
    (hr : ∀ (k : Nat) (x : Int), xs[k]? = some x → w.cell? ⟨g, k, none⟩ = some (.int .i64 x)) :
    Calls Tryd.prog 95 #[.slice (some ⟨g, 0, none⟩) xs.length c, .int .i64 0, .int .i64 9999] w fun e w' => e = .returned (.bool (digB xs)) ∧ w = w' := by
  have HR := Lib.hid hr
  clear hr
  go_enter Tryd.func95, Tryd.ntmps95
  go_wp2
  go_loop [11] (fun i => ∃ k : Nat, k ≤ xs.length ∧ i = .int .i64 k ∧ Hid (DigTo xs k)) (fun i => xs.length - (intOf i).toNat)
  case atStart => exact ⟨0, by omega, rfl, fun j y hj => by omega⟩
  case round =>
    obtain ⟨k, hk, rfl, HD⟩ := hrel
    by_cases hlt : k < xs.length
    · obtain ⟨y, hy⟩ : ∃ y, xs[k]? = some y := ⟨_, List.getElem?_eq_getElem hlt⟩
      have hcy := HR.out _ y hy
      have HY := Lib.hid hy
      clear hy
      have b0 : (0 : Int) ≤ (k : Int) := by omega
      have b1 : (k : Int) < (xs.length : Int) := by omega
      rcases Bool.eq_false_or_eq_true (inB y 0 9999) with hin | hin
      · have HD2 : Hid (DigTo xs (k + 1)) := HD.out.next HY.out hin
        go_wp2_with (go_at_call 43; refine (l1In_any _ _ _ _).mono ?_; rintro e w' ⟨rfl, rfl⟩)
        go_round
        case rel => exact ⟨k + 1, by omega, by go_num, HD2⟩
        case measure => simp [intOf]; omega
      · have HG := Lib.hid (digB_not HY.out hin)
        go_wp2_with (go_at_call 43; refine (l1In_any _ _ _ _).mono ?_; rintro e w' ⟨rfl, rfl⟩)
        go_ret
        exact ⟨ret_bool HG.out.symm, rfl⟩
    · obtain rfl : k = xs.length := by omega
      have HG := Lib.hid (digB_iff.2 HD.out.all)
      go_wp2
      go_ret
      exact ⟨ret_bool HG.out.symm, rfl⟩
theorem l1All_none (A : Option Addr) (c : Nat) (w : World) :
    Calls Tryd.prog 95 #[.slice A 0 c, .int .i64 0, .int .i64 9999] w fun e w' => e = .returned (.bool true) ∧ w = w' := by
  go_enter Tryd.func95, Tryd.ntmps95
  go_wp2
  go_rounds 1
  go_ret
  exact ⟨rfl, rfl⟩
theorem goodB_dig {neg : Bool} {xs : List Int} (h : digB xs = false) : goodB neg xs = false := by
  rw [Bool.eq_false_iff]; intro e; rw [digB_iff.2 (goodB_iff.1 e).2.2.1] at h; cases h
set_option maxHeartbeats 1000000 in
theorem bgGood_some (neg : Bool) (xs : List Int) (g c : Nat) (w : World) (hl : xs.length ≤ 1048576) (h0 : 0 < xs.length) (hg : g < w.heap.size)
    (hr : ∀ (k : Nat) (x : Int), xs[k]? = some x → w.cell? ⟨g, k, none⟩ = some (.int .i64 x)) :
    Calls Tryd.prog 54 #[.agg #[.bool neg, .slice (some ⟨g, 0, none⟩) xs.length c]] w fun e w' => e = .returned (.bool (goodB neg xs)) ∧ Below w.heap.size w w' := by
  have HR := Lib.hid hr
  clear hr
  have hra : ∀ (o : Obj) (k : Nat) (x : Int), xs[k]? = some x → (w.alloc o).cell? ⟨g, k, none⟩ = some (.int .i64 x) := fun o k x hx => (World.cell?_alloc_lt _ _ _ hg).trans (HR.out k x hx)
  have HRA := Lib.hid hra
  clear hra
  by_cases hlen : 400 < xs.length
  · have HG := Lib.hid (goodB_long (neg := neg) hlen)
    go_enter Tryd.func54, Tryd.ntmps54
    go_wp2
    go_ret
    exact ⟨ret_bool HG.out.symm, by repeat' (first | (with_reducible exact Below.refl _ _) | (with_reducible assumption) | (with_reducible refine Below.alloc ?_ ?_ _) | (with_reducible refine Below.drew ?_) | (with_reducible refine below_drewN ?_ _) | (with_reducible refine Below.setCell ?_ ?_ _) | go_size)⟩
  · obtain ⟨x, hx⟩ : ∃ x, xs[xs.length - 1]? = some x := ⟨_, List.getElem?_eq_getElem (by omega)⟩
    have hc := HR.out _ x hx
    have HX := Lib.hid hx
    clear hx
    have l1 : xs.length ≤ 400 := by omega
    have l2 : ¬ (xs.length = 0) := by omega
    have l3 : decide ((xs.length : Int) ≤ 400) = true := by simp; omega
    have l4 : decide ((0 : Int) < (xs.length : Int)) = true := decide_eq_true (by omega)
    have l5 : ((xs.length : Int) == 0) = false := beq_eq_false_iff_ne.2 (by omega)
    rcases Bool.eq_false_or_eq_true (digB xs) with hd | hd
    · by_cases hz : 0 < x
      · have HG := Lib.hid (goodB_yes (neg := neg) l1 h0 HX.out (by omega) (digB_iff.1 hd))
        go_enter Tryd.func54, Tryd.ntmps54
        go_wp2_with (go_at_call 95; refine (l1All_some xs g c _ hl (HRA.out _)).mono ?_; rintro e w' ⟨rfl, rfl⟩)
        go_ret
        exact ⟨ret_bool HG.out.symm, by repeat' (first | (with_reducible exact Below.refl _ _) | (with_reducible assumption) | (with_reducible refine Below.alloc ?_ ?_ _) | (with_reducible refine Below.drew ?_) | (with_reducible refine below_drewN ?_ _) | (with_reducible refine Below.setCell ?_ ?_ _) | go_size)⟩
      · have hxx := (digB_iff.1 hd).at HX.out
        obtain rfl : x = 0 := by omega
        have HG := Lib.hid (goodB_last (neg := neg) HX.out)
        go_enter Tryd.func54, Tryd.ntmps54
        go_wp2_with (go_at_call 95; refine (l1All_some xs g c _ hl (HRA.out _)).mono ?_; rintro e w' ⟨rfl, rfl⟩)
        go_ret
        exact ⟨ret_bool HG.out.symm, by repeat' (first | (with_reducible exact Below.refl _ _) | (with_reducible assumption) | (with_reducible refine Below.alloc ?_ ?_ _) | (with_reducible refine Below.drew ?_) | (with_reducible refine below_drewN ?_ _) | (with_reducible refine Below.setCell ?_ ?_ _) | go_size)⟩
    · have HG := Lib.hid (goodB_dig (neg := neg) hd)
      go_enter Tryd.func54, Tryd.ntmps54
      go_wp2_with (go_at_call 95; refine (l1All_some xs g c _ hl (HRA.out _)).mono ?_; rintro e w' ⟨rfl, rfl⟩)
      go_ret
      exact ⟨ret_bool HG.out.symm, by repeat' (first | (with_reducible exact Below.refl _ _) | (with_reducible assumption) | (with_reducible refine Below.alloc ?_ ?_ _) | (with_reducible refine Below.drew ?_) | (with_reducible refine below_drewN ?_ _) | (with_reducible refine Below.setCell ?_ ?_ _) | go_size)⟩
theorem bgGood_none (neg : Bool) (A : Option Addr) (c : Nat) (w : World) :
    Calls Tryd.prog 54 #[.agg #[.bool neg, .slice A 0 c]] w fun e w' => e = .returned (.bool (!neg)) ∧ Below w.heap.size w w' := by
  cases neg
  · go_enter Tryd.func54, Tryd.ntmps54
    go_wp2_with (go_at_call 95; refine (l1All_none _ _ _).mono ?_; rintro e w' ⟨rfl, rfl⟩)
    go_ret
    exact ⟨rfl, by repeat' (first | (with_reducible exact Below.refl _ _) | (with_reducible assumption) | (with_reducible refine Below.alloc ?_ ?_ _) | (with_reducible refine Below.drew ?_) | (with_reducible refine below_drewN ?_ _) | (with_reducible refine Below.setCell ?_ ?_ _) | go_size)⟩
  · go_enter Tryd.func54, Tryd.ntmps54
    go_wp2_with (go_at_call 95; refine (l1All_none _ _ _).mono ?_; rintro e w' ⟨rfl, rfl⟩)
    go_ret
    exact ⟨rfl, by repeat' (first | (with_reducible exact Below.refl _ _) | (with_reducible assumption) | (with_reducible refine Below.alloc ?_ ?_ _) | (with_reducible refine Below.drew ?_) | (with_reducible refine below_drewN ?_ _) | (with_reducible refine Below.setCell ?_ ?_ _) | go_size)⟩
theorem bgGood_any (neg : Bool) {A : Option Addr} {c : Nat} {xs : List Int} {w : World} (h : Holds w (.slice A xs.length c) xs) (hl : xs.length ≤ 1048576) :
    Calls Tryd.prog 54 #[.agg #[.bool neg, .slice A xs.length c]] w fun e w' => e = .returned (.bool (goodB neg xs)) ∧ Below w.heap.size w w' := by
  rcases h with ⟨rfl, _⟩ | ⟨g, c', hv, h1, h2, h3, h4⟩
  · rw [goodB_nil]; exact bgGood_none _ _ _ _
  · cases hv; exact bgGood_some neg xs g c w hl h1 h3 h4
theorem eqWhole_same (neg : Bool) {B B' : Nat} {A A' : Option Addr} {c c' : Nat} {xs : List Int} {w : World} (h : Nums w B (.slice A xs.length c) xs) (h2 : Nums w B' (.slice A' xs.length c') xs) (hl : xs.length ≤ 1048576) :
    Calls Tryd.prog 11 #[.agg #[.bool neg, .slice A xs.length c], .agg #[.bool neg, .slice A' xs.length c']] w fun e w' => e = .returned (.bool true) ∧ Below w.heap.size w w' := by
  have H := Lib.hid h
  have H2 := Lib.hid h2
  clear h h2
  go_enter Tryd.func11, Tryd.ntmps11
  go_wp2_with (go_at_call 50; refine (eqIntS_same (H.out.below (by (repeat' (first | (with_reducible exact Below.refl _ _) | (with_reducible assumption) | (with_reducible refine Below.alloc ?_ ?_ _) | (with_reducible refine Below.drew ?_) | (with_reducible refine below_drewN ?_ _) | (with_reducible refine Below.setCell ?_ ?_ _) | go_size)))) (H2.out.below (by (repeat' (first | (with_reducible exact Below.refl _ _) | (with_reducible assumption) | (with_reducible refine Below.alloc ?_ ?_ _) | (with_reducible refine Below.drew ?_) | (with_reducible refine below_drewN ?_ _) | (with_reducible refine Below.setCell ?_ ?_ _) | go_size)))) (by omega)).mono ?_; rintro e w2 ⟨rfl, hb2⟩; obtain ⟨hc2, hf2⟩ := bcell hb2; have hB2 : Below w.heap.size w w2 := Below.trans (by repeat' (first | (with_reducible exact Below.refl _ _) | (with_reducible assumption) | (with_reducible refine Below.alloc ?_ ?_ _) | (with_reducible refine Below.drew ?_) | (with_reducible refine below_drewN ?_ _) | (with_reducible refine Below.setCell ?_ ?_ _) | go_size)) (hb2.mono (by go_size)); (have hs2 := hb2.size); (try simp at hs2); (try (have hl2 := Nat.lt_of_succ_le hs2)); (first | (have hz2 : w.heap.size < w2.heap.size := by omega) | (have hz2 : w.heap.size ≤ w2.heap.size := by omega)); (try (have hz1_2 : w1.heap.size < w2.heap.size := by omega)); (try (have hz3_2 : w3.heap.size < w2.heap.size := by omega)); (try (have hz4_2 : w4.heap.size < w2.heap.size := by omega)); (try (have hz5_2 : w5.heap.size < w2.heap.size := by omega)); (try (have hzc_2 : wc.heap.size < w2.heap.size := by omega)); (try (have hy1_2 : w.heap.size + 1 < w2.heap.size := by omega)); (try (have hy2_2 : w.heap.size + 2 < w2.heap.size := by omega)); (try (have hy3_2 : w.heap.size + 3 < w2.heap.size := by omega)))
  go_ret
  exact ⟨rfl, by repeat' (first | (with_reducible exact Below.refl _ _) | (with_reducible assumption) | (with_reducible refine Below.alloc ?_ ?_ _) | (with_reducible refine Below.drew ?_) | (with_reducible refine below_drewN ?_ _) | (with_reducible refine Below.setCell ?_ ?_ _) | go_size)⟩
theorem grownBy_alloc_trans {w w' : World} {o : Obj} {row : Option Nat} (h : (w.alloc o).grownBy w' row) : w.grownBy w' row :=
  ⟨h.os, h.tape, h.output, Nat.le_trans (by simp) h.size, fun k hk hne => (h.block k (by simp; omega) hne).trans (Below.heap_alloc w o k hk)⟩
theorem markWhole_any (neg : Bool) {B : Nat} {A : Option Addr} {c : Nat} {xs : List Int} {w : World} (K : Int) (h : Nums w B (.slice A xs.length c) xs) (hB : B ≤ w.heap.size) (hl : xs.length ≤ 1048576) (hK0 : 0 ≤ K) (hK1 : K ≤ 10000000) :
    Calls Tryd.prog 12 #[.agg #[.bool neg, .slice A xs.length c], .int .i64 K] w fun e w' => e = .returned (.int .i64 (K + (xs.length : Int))) ∧ Nums w' B (.slice A xs.length c) (marks K xs.length) ∧ w.grownBy w' (Value.slice A xs.length c).ownBlock ∧ Below B w w' := by
  have H := Lib.hid h
  clear h
  go_enter Tryd.func12, Tryd.ntmps12
  go_wp2_with (go_at_call 51; refine (markIntS_row K (H.out.below (by repeat' (first | (with_reducible exact Below.refl _ _) | (with_reducible assumption) | (with_reducible refine Below.alloc ?_ ?_ _) | (with_reducible refine Below.drew ?_) | (with_reducible refine below_drewN ?_ _) | (with_reducible refine Below.setCell ?_ ?_ _) | go_size))) (by simp; omega) (by omega) hK0 (by omega)).mono ?_; rintro e w2 ⟨rfl, n2, g2, hb2⟩; have N2 := Lib.hid n2; have G2 := Lib.hid g2; have B2 := Lib.hid hb2; clear n2 g2 hb2)
  go_ret
  exact ⟨rfl, N2.out, grownBy_alloc_trans G2.out, ((Below.refl _ _).alloc hB _).trans B2.out⟩
theorem heldWhole_any (neg : Bool) {B : Nat} {A : Option Addr} {n c : Nat} {w : World} (K : Int) (h : Nums w B (.slice A n c) (marks K n)) (hl : n ≤ 1048576) (hK0 : 0 ≤ K) (hK1 : K ≤ 10000000) :
    Calls Tryd.prog 13 #[.agg #[.bool neg, .slice A n c], .int .i64 K] w fun e w' => e = .returned (.int .i64 (K + (n : Int))) ∧ Below w.heap.size w w' := by
  have H := Lib.hid h
  clear h
  have h0 : ¬ K + (n : Int) < 0 := by omega
  go_enter Tryd.func13, Tryd.ntmps13
  go_wp2_with (go_at_call 52; refine (heldIntS_any K (H.out.below (by (repeat' (first | (with_reducible exact Below.refl _ _) | (with_reducible assumption) | (with_reducible refine Below.alloc ?_ ?_ _) | (with_reducible refine Below.drew ?_) | (with_reducible refine below_drewN ?_ _) | (with_reducible refine Below.setCell ?_ ?_ _) | go_size)))) (by omega) hK0 (by omega)).mono ?_; rintro e w' ⟨rfl, rfl⟩)
  go_ret
  exact ⟨rfl, by repeat' (first | (with_reducible exact Below.refl _ _) | (with_reducible assumption) | (with_reducible refine Below.alloc ?_ ?_ _) | (with_reducible refine Below.drew ?_) | (with_reducible refine below_drewN ?_ _) | (with_reducible refine Below.setCell ?_ ?_ _) | go_size)⟩
end Go.Proofs.YtklhmaegpejdbaaDoor
