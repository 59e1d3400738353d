/- Slices that read as lists of ints, wholes; contracts of laws.szIntS, toIntS, szWhole, toWhole, eqWhole. -/
import Derived.Test.YtklhmaegpejdbaaDoorInts
import Derived.Test.YtklhmaegpejdbaaDoorRow
import Derived.Test.YtklhmaegpejdbaaDoorInside
import Derived.Test.YtklhmaegpejdbaaDoorDigs
import Derived.WalkSpells
import Derived.OpenShut
namespace Go.Proofs.YtklhmaegpejdbaaDoor
open Go.ChangeShapes Go.WideShapes Go.ChangeAt Go.RowKit Go.Deep
set_option linter.unusedVariables false
set_option linter.unusedSimpArgs false
set_option maxRecDepth 100000
/-- v is a slice that reads as the numbers xs. -/
def Holds (w : World) (v : Value) (xs : List Int) : Prop :=
  (xs = [] ∧ ∃ A cap, v = .slice A 0 cap ∧ (A = none → cap = 0)) ∨
  ∃ g cap, v = .slice (some ⟨g, 0, none⟩) xs.length cap ∧ 0 < xs.length ∧ xs.length ≤ cap ∧ g < w.heap.size ∧ ∀ (k : Nat) (x : Int), xs[k]? = some x → w.cell? ⟨g, k, none⟩ = some (.int .i64 x)
theorem Nums.holds {w : World} {B : Nat} {v : Value} {xs : List Int} (h : Nums w B v xs) : Holds w v xs := by
  have h0 : w.ownsRow B 3 1 v xs.length (xs.map (Value.int .i64)) := h
  by_cases e : xs = []
  · subst e
    rcases h0.2 with ⟨hv, _⟩ | ⟨g, cap, cur, rfl, _, _, _, _⟩
    · exact .inl ⟨rfl, none, 0, hv, fun _ => rfl⟩
    · exact .inl ⟨rfl, _, _, rfl, fun h => by cases h⟩
  · rcases h.shape with ⟨_, e2⟩ | ⟨g, cap, rfl, _, h2, h3, _⟩
    · exact absurd e2 e
    · refine .inr ⟨g, cap, rfl, List.length_pos_iff.2 e, ?_, h2, h3⟩
      rcases h0.2 with ⟨hv, _⟩ | ⟨g', cap', cur, hv, _, _, hn, _⟩
      · cases hv
      · cases hv; exact hn
theorem Nums.setBelow {w : World} {B : Nat} {v : Value} {xs : List Int} (h : Nums w B v xs) {a : Addr} (ha : a.block < B) (u : Value) : Nums (w.setCell a u) B v xs := ownsRow_setCell_below h ha u
theorem Holds.below {w w' : World} {v : Value} {xs : List Int} (h : Holds w v xs) (hb : Below w.heap.size w w') : Holds w' v xs := by
  rcases h with h | ⟨g, cap, rfl, h1, h2, h3, h4⟩
  · exact .inl h
  · exact .inr ⟨g, cap, rfl, h1, h2, Nat.lt_of_lt_of_le h3 hb.size, fun k x hx => (hb.cell (p := ⟨g, k, none⟩) h3).trans (h4 k x hx)⟩
theorem szIntS_no (A : Option Addr) (n cap : Nat) (L : Int) (w : World) (hn : n ≤ maxLen) (hL0 : 0 ≤ L) (hL : L ≤ 1048576) (h : L < n) :
    Calls Tryd.prog 53 #[.slice A n cap, .int .i64 L] w fun e w' => e = .returned (.int .i64 (-1)) ∧ w = w' := by
  unfold maxLen at hn
  have h2 : L - n < 0 := by omega
  go_enter Tryd.func53, Tryd.ntmps53
  go_wp2
  go_ret
  exact ⟨rfl, rfl⟩
theorem szIntS_yes (A : Option Addr) (n cap : Nat) (L : Int) (w : World) (hL : L ≤ 1048576) (h : n ≤ L) :
    Calls Tryd.prog 53 #[.slice A n cap, .int .i64 L] w fun e w' => e = .returned (.int .i64 (L - n)) ∧ w = w' := by
  have h2 : ¬ L - n < 0 := by omega
  go_enter Tryd.func53, Tryd.ntmps53
  go_wp2
  go_ret
  exact ⟨rfl, rfl⟩
theorem szWhole_no (neg : Bool) (A : Option Addr) (n cap : Nat) (L : Int) (w : World) (hn : n ≤ maxLen) (hL0 : 0 ≤ L) (hL : L ≤ 1048576) (h : L < n) :
    Calls Tryd.prog 14 #[.agg #[.bool neg, .slice A n cap], .int .i64 L] w fun e w' => e = .returned (.int .i64 (-1)) ∧ Below w.heap.size w w' := by
  go_enter Tryd.func14, Tryd.ntmps14
  go_wp2_with (go_at_call 53; refine (szIntS_no _ _ _ _ _ hn hL0 hL h).mono ?_; rintro e w' ⟨rfl, rfl⟩)
  go_ret
  exact ⟨rfl, by repeat' (first | (with_reducible exact Below.refl _ _) | (with_reducible assumption) | (with_reducible refine Below.alloc ?_ ?_ _) | (with_reducible refine Below.drew ?_) | (with_reducible refine below_drewN ?_ _) | (with_reducible refine Below.setCell ?_ ?_ _) | go_size)⟩
theorem szWhole_yes (neg : Bool) (A : Option Addr) (n cap : Nat) (L : Int) (w : World) (hL : L ≤ 1048576) (h : n ≤ L) :
    Calls Tryd.prog 14 #[.agg #[.bool neg, .slice A n cap], .int .i64 L] w fun e w' => e = .returned (.int .i64 (L - n)) ∧ Below w.heap.size w w' := by
  have h2 : ¬ L - (n : Int) < 0 := by omega
  go_enter Tryd.func14, Tryd.ntmps14
  go_wp2_with (go_at_call 53; refine (szIntS_yes _ _ _ _ _ hL h).mono ?_; rintro e w' ⟨rfl, rfl⟩)
  go_ret
  exact ⟨rfl, by repeat' (first | (with_reducible exact Below.refl _ _) | (with_reducible assumption) | (with_reducible refine Below.alloc ?_ ?_ _) | (with_reducible refine Below.drew ?_) | (with_reducible refine below_drewN ?_ _) | (with_reducible refine Below.setCell ?_ ?_ _) | go_size)⟩
/-- A list of zeros that is filled from the head. -/
def filled (xs : List Int) (k : Nat) : List Int := xs.take k ++ List.replicate (xs.length - k) 0
theorem filled_length {xs : List Int} {k : Nat} (h : k ≤ xs.length) : (filled xs k).length = xs.length := by simp [filled]; omega
theorem filled_zero (xs : List Int) : filled xs 0 = List.replicate xs.length 0 := by simp [filled]
theorem filled_all (xs : List Int) : filled xs xs.length = xs := by simp [filled]
theorem filled_next {xs : List Int} {k : Nat} {x : Int} (hx : xs[k]? = some x) : (filled xs k).set k x = filled xs (k + 1) := by
  obtain ⟨hk, hx'⟩ := List.getElem?_eq_some_iff.1 hx
  unfold filled
  rw [List.set_append_right _ _ (by simp; omega), List.take_add_one, hx]
  obtain ⟨m, hm⟩ : ∃ m, xs.length - k = m + 1 := ⟨xs.length - k - 1, by omega⟩
  rw [hm, List.replicate_succ, List.length_take, Nat.min_eq_left (by omega), Nat.sub_self, List.set_cons_zero, show xs.length - (k + 1) = m by omega]
  simp
set_option maxHeartbeats 1000000 in
theorem toIntS_some (xs : List Int) (g off cap : Nat) (w : World) (hl : xs.length ≤ 1048576) (hg : g < w.heap.size)
    (hr : ∀ (k : Nat) (x : Int), xs[k]? = some x → w.cell? ⟨g, off + k, none⟩ = some (.int .i64 x)) :
    Calls Tryd.prog 55 #[.slice (some ⟨g, off, none⟩) xs.length cap] w fun e w' => ∃ A c, e = .returned (.slice A xs.length c) ∧ Nums w' w.heap.size (.slice A xs.length c) xs ∧ Below w.heap.size w w' := by
  have HR := Lib.hid hr
  clear hr
  obtain ⟨i0, hi, hz0, hz1, hz2⟩ := info_parts infoInt
  go_enter Tryd.func55, Tryd.ntmps55
  go_wp2_with (at_make; refine wpList_make_full _ rfl _ _ 22 rfl w.heap.size 3 i0 (.int .i64 0) 1 underInts hi hz0 hz1 .i64 .i64 _ _ xs.length rfl rfl rfl rfl (by rw [hz2]; omega) (by unfold maxLen; omega) (Nat.le_refl _) ?_; intro w1 hown hgrow)
  have n1 := Lib.hid (row_made hown)
  have b1 := Lib.hid ((Below.refl w.heap.size w).grown hgrow (Nat.le_refl _) (fun k h => by cases h))
  clear hown hgrow
  go_loopw [4] (fun i wr => ∃ k : Nat, k ≤ xs.length ∧ i = .int .i64 k ∧ Hid (Row wr w.heap.size w.heap.size xs.length xs.length (filled xs k)) ∧ Hid (Below w.heap.size w wr)) (fun i _ => xs.length - (intOf i).toNat)
  case atStart => exact ⟨0, by omega, rfl, by rw [filled_zero]; exact n1.out, b1⟩
  case round =>
    obtain ⟨k, hk, rfl, HN, HB⟩ := hrel
    by_cases hlt : k < xs.length
    · obtain ⟨x, hx⟩ : ∃ x, xs[k]? = some x := ⟨_, List.getElem?_eq_getElem hlt⟩
      have b0 : (0 : Int) ≤ (k : Int) := by omega
      have b1 : (k : Int) < (xs.length : Int) := by omega
      have hc : wr.cell? ⟨g, off + k, none⟩ = some (.int .i64 x) := (HB.out.cell hg).trans (HR.out k x hx)
      have hf := HN.out.free k
      have hgs := HN.out.lt.2
      obtain ⟨u, hu⟩ : ∃ u, (filled xs k)[k]? = some u := ⟨_, List.getElem?_eq_getElem (by rw [filled_length hk]; exact hlt)⟩
      have hc2 := HN.out.cell hu
      have S1 := Lib.hid (HN.out.set k x)
      rw [filled_next hx] at S1
      have S2 := Lib.hid (HB.out.setCell (p := ⟨w.heap.size, k, none⟩) (Nat.le_refl _) (.int .i64 x))
      clear hx hu
      go_wp2
      go_roundw
      case rel => exact ⟨k + 1, by omega, by go_num, S1, S2⟩
      case measure => simp [intOf]; omega
    · obtain rfl : k = xs.length := by omega
      have HE := Lib.hid (filled_all xs)
      go_wp2
      go_ret
      exact ⟨_, _, rfl, by have := HN.out.nums; rw [HE.out] at this; exact this, HB.out⟩
set_option maxHeartbeats 1000000 in
theorem toIntS_none (A : Option Addr) (cap : Nat) (w : World) :
    Calls Tryd.prog 55 #[.slice A 0 cap] w fun e w' => ∃ A c, e = .returned (.slice A 0 c) ∧ Nums w' w.heap.size (.slice A 0 c) [] ∧ Below w.heap.size w w' := by
  obtain ⟨i0, hi, hz0, hz1, hz2⟩ := info_parts infoInt
  go_enter Tryd.func55, Tryd.ntmps55
  go_wp2_with (at_make; refine wpList_make_full _ rfl _ _ 22 rfl w.heap.size 3 i0 (.int .i64 0) 1 underInts hi hz0 hz1 .i64 .i64 _ _ 0 rfl rfl rfl rfl (by rw [hz2]; omega) (by unfold maxLen; omega) (Nat.le_refl _) ?_; intro w1 hown hgrow)
  have n1 := Lib.hid (row_made hown).nums
  have b1 := Lib.hid ((Below.refl w.heap.size w).grown hgrow (Nat.le_refl _) (fun k h => by cases h))
  clear hown hgrow
  go_wp2
  go_rounds 1
  go_ret
  exact ⟨_, _, rfl, n1.out, b1.out⟩
/-- v is a slice that came in; it reads as xs. -/
def Came (w : World) (v : Value) (xs : List Int) : Prop :=
  (xs = [] ∧ ∃ A cap, v = .slice A 0 cap) ∨ ∃ g off cap, v = .slice (some ⟨g, off, none⟩) xs.length cap ∧ g < w.heap.size ∧ ∀ (k : Nat) (x : Int), xs[k]? = some x → w.cell? ⟨g, off + k, none⟩ = some (.int .i64 x)
theorem Came.below {w w' : World} {v : Value} {xs : List Int} (h : Came w v xs) (hb : Below w.heap.size w w') : Came w' v xs := by
  rcases h with h | ⟨g, off, cap, rfl, h3, h4⟩
  · exact .inl h
  · exact .inr ⟨g, off, cap, rfl, Nat.lt_of_lt_of_le h3 hb.size, fun k x hx => (hb.cell (p := ⟨g, off + k, none⟩) h3).trans (h4 k x hx)⟩
/-- A struct of a bool and a slice of ints, opened. -/
theorem open_whole {H : Type} {enc : TypeId × Value → H} {W : World} {base b0 : Nat} {spare : Nat → Bool} {held : Bool} {r : Reach} {t tb tl te : TypeId} {f0 f1 : Field} {v : Value} {d : DataW H} {p : List MemPlace}
    (hs : Tryd.prog.underlying t = some (.struct #[f0, f1])) (hone : oneCellFields Tryd.prog #[f0, f1] = true) (hC : Tryd.prog.cellsOf t = 2)
    (e0 : f0.type = tb) (e1 : f1.type = tl) (hb : Tryd.prog.underlying tb = some .bool) (hl : Tryd.prog.underlying tl = some (.slice te)) (he : Tryd.prog.underlying te = some (.int .i64)) (hc : Tryd.prog.cellsOf te = 1)
    (hv : Value.okWide Tryd.prog W r b0 t v) (h : DataW.Trod enc Tryd.prog W base spare held t v d p) :
    ∃ (neg : Bool) (A : Option Addr) (c : Nat) (xs : List Int), v = .agg #[.bool neg, .slice A xs.length c] ∧ Came W (.slice A xs.length c) xs ∧ xs.length ≤ maxLen := by
  obtain ⟨c0, c1, y0, y1, m, rfl, rfl, rfl, hy0, hy1⟩ := Go.Joins.open_agg2 hs hone hC hv h
  rw [e0] at hy0
  rw [e1] at hy1
  obtain ⟨b, g0, rfl⟩ := Go.DataW.trod_bool hb hy0
  simp at g0
  subst g0
  rcases Go.ChangeShapes.open_ints hl he hc hy1 with ⟨hcs, _⟩ | ⟨a, len, cap, zs, hcs, _, h1, h2, h3, _, hcell, _⟩
  · simp at hcs
    subst hcs
    exact ⟨b, none, 0, [], rfl, .inl ⟨rfl, none, 0, rfl⟩, by simp⟩
  · simp at hcs
    subst hcs
    have hlz : len ≤ zs.length := by rw [h3]; split <;> omega
    have hlen : (zs.take len).length = len := by rw [List.length_take]; omega
    refine ⟨b, some a, cap, zs.take len, by rw [hlen], ?_, by rw [hlen]; omega⟩
    by_cases hz : len = 0
    · subst hz
      exact .inl ⟨rfl, some a, cap, rfl⟩
    · obtain ⟨g, off, rfl, hat⟩ := Go.ints_at hcell (by omega)
      refine .inr ⟨g, off, cap, rfl, ?_, fun k x hx => ?_⟩
      · exact World.block_lt_of_cell? W _ (hat 0 (by omega))
      · have hk := (List.getElem?_eq_some_iff.1 hx).1
        rw [hlen] at hk
        rw [hat k (by omega)]
        rw [List.getElem?_take, if_pos hk] at hx
        rw [List.getD_eq_getElem?_getD, hx]
        rfl
theorem toIntS_any {w : World} {v : Value} {xs : List Int} (h : Came w v xs) (hl : xs.length ≤ 1048576) :
    Calls Tryd.prog 55 #[v] w fun e w' => ∃ A c, e = .returned (.slice A xs.length c) ∧ Nums w' w.heap.size (.slice A xs.length c) xs ∧ Below w.heap.size w w' := by
  rcases h with ⟨rfl, A, cap, rfl⟩ | ⟨g, off, cap, rfl, h3, h4⟩
  · exact toIntS_none A cap w
  · exact toIntS_some xs g off cap w hl h3 h4
theorem toWhole_any (neg : Bool) {w : World} {v : Value} {xs : List Int} (h : Came w v xs) (hl : xs.length ≤ 1048576) :
    Calls Tryd.prog 16 #[.agg #[.bool neg, v]] w fun e w' => ∃ A c, e = .returned (.agg #[.bool neg, .slice A xs.length c]) ∧ Nums w' w.heap.size (.slice A xs.length c) xs ∧ Below w.heap.size w w' := by
  have H := Lib.hid h
  clear h
  go_enter Tryd.func16, Tryd.ntmps16
  go_wp2_with (go_at_call 55; refine (toIntS_any (H.out.below (by (repeat' (first | (with_reducible exact Below.refl _ _) | (with_reducible assumption) | (with_reducible refine Below.alloc ?_ ?_ _) | (with_reducible refine Below.drew ?_) | (with_reducible refine below_drewN ?_ _) | (with_reducible refine Below.setCell ?_ ?_ _) | go_size)))) hl).mono ?_; rintro e w2 ⟨A2, d2, rfl, n2, hb2⟩; have N2 := Lib.hid n2; clear n2; obtain ⟨hc2, hf2⟩ := bcell hb2; have hB2 : Below w.heap.size w w2 := Below.trans (by repeat' (first | (with_reducible exact Below.refl _ _) | (with_reducible assumption) | (with_reducible refine Below.alloc ?_ ?_ _) | (with_reducible refine Below.drew ?_) | (with_reducible refine below_drewN ?_ _) | (with_reducible refine Below.setCell ?_ ?_ _) | go_size)) (hb2.mono (by go_size)); (have hs2 := hb2.size); (try simp at hs2); (try (have hl2 := Nat.lt_of_succ_le hs2)); (first | (have hz2 : w.heap.size < w2.heap.size := by omega) | (have hz2 : w.heap.size ≤ w2.heap.size := by omega)); (try (have hz1_2 : w1.heap.size < w2.heap.size := by omega)); (try (have hz3_2 : w3.heap.size < w2.heap.size := by omega)); (try (have hz4_2 : w4.heap.size < w2.heap.size := by omega)); (try (have hz5_2 : w5.heap.size < w2.heap.size := by omega)); (try (have hzc_2 : wc.heap.size < w2.heap.size := by omega)); (try (have hy1_2 : w.heap.size + 1 < w2.heap.size := by omega)); (try (have hy2_2 : w.heap.size + 2 < w2.heap.size := by omega)); (try (have hy3_2 : w.heap.size + 3 < w2.heap.size := by omega)); (have k2_0 : w2.cell? ⟨w.heap.size + 1, 0, none⟩ = some (.bool false) := by (rw [hb2.cell (by first | (simp; done) | (simp; omega) | omega)]; first | assumption | (simp [go_sem]; done) | (simp [*, go_sem]; done))); (have k2_1 : w2.cell? ⟨w.heap.size + 1, 1, none⟩ = some (.slice none 0 0) := by (rw [hb2.cell (by first | (simp; done) | (simp; omega) | omega)]; first | assumption | (simp [go_sem]; done) | (simp [*, go_sem]; done))); (have k2_2 : w2.cell? ⟨w.heap.size + 1 + 1, 0, none⟩ = some (.bool neg) := by (rw [hb2.cell (by first | (simp; done) | (simp; omega) | omega)]; first | assumption | (simp [go_sem]; done) | (simp [*, go_sem]; done))); (have k2_3 : w2.cell? ⟨w.heap.size + 1 + 1, 1, none⟩ = some (.slice none 0 0) := by (rw [hb2.cell (by first | (simp; done) | (simp; omega) | omega)]; first | assumption | (simp [go_sem]; done) | (simp [*, go_sem]; done))); (have k2_4 : w2.frozen? ⟨w.heap.size + 1, 0, none⟩ = false := by (rw [hb2.frozen (by first | (simp; done) | (simp; omega) | omega)]; first | assumption | (simp [go_sem]; done) | (simp [*, go_sem]; done))); (have k2_5 : w2.frozen? ⟨w.heap.size + 1, 1, none⟩ = false := by (rw [hb2.frozen (by first | (simp; done) | (simp; omega) | omega)]; first | assumption | (simp [go_sem]; done) | (simp [*, go_sem]; done))); (have k2_6 : w2.frozen? ⟨w.heap.size + 1 + 1, 0, none⟩ = false := by (rw [hb2.frozen (by first | (simp; done) | (simp; omega) | omega)]; first | assumption | (simp [go_sem]; done) | (simp [*, go_sem]; done))); (have k2_7 : w2.frozen? ⟨w.heap.size + 1 + 1, 1, none⟩ = false := by (rw [hb2.frozen (by first | (simp; done) | (simp; omega) | omega)]; first | assumption | (simp [go_sem]; done) | (simp [*, go_sem]; done))))
  refine bodyPost_ret (by simp [results, Tryd.results16, go_sem, *]; try rfl) rfl ?_
  exact ⟨_, _, rfl, (((N2.out.setBelow (by simp) _).setBelow (by simp) _).setBelow (by simp) _).mono (by simp; omega), by repeat' (first | (with_reducible exact Below.refl _ _) | (with_reducible assumption) | (with_reducible refine Below.alloc ?_ ?_ _) | (with_reducible refine Below.drew ?_) | (with_reducible refine below_drewN ?_ _) | (with_reducible refine Below.setCell ?_ ?_ _) | go_size)⟩
end Go.Proofs.YtklhmaegpejdbaaDoor
