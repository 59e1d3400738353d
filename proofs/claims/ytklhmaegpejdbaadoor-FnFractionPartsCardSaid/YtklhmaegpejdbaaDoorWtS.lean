/- The text of a whole: spec.bgText; both texts. -/
import Derived.Test.YtklhmaegpejdbaaDoorWtT
namespace Go.Proofs.YtklhmaegpejdbaaDoor
open Go.RowKit
set_option linter.unusedVariables false
set_option linter.unusedSimpArgs false
set_option maxRecDepth 100000
theorem decN_l1Num {x : Int} (h : 0 ≤ x ∧ x ≤ 9999) {d : ByteArray} (hd : bsOf (decN x) = d) (w : World) : Calls Tryd.prog 88 #[.int .i64 x] w fun e w' => e = .returned (.string d) ∧ Below w.heap.size w w' := by
  obtain ⟨n, rfl⟩ := Int.eq_ofNat_of_zero_le h.1
  subst hd
  have := l1Num_any n (by omega) w
  exact this
theorem pad_one (c : Nat) (d : List UInt8) {t : ByteArray} (h : t = bsOf (List.replicate c 48 ++ d)) : (⟨#[48]⟩ : ByteArray) ++ t = bsOf (List.replicate (c + 1) 48 ++ d) := by
  subst h
  rw [show (⟨#[48]⟩ : ByteArray) = bsOf [48] from rfl, bsOf_append, List.replicate_succ]; rfl
set_option maxHeartbeats 8000000 in
theorem bgText_some (neg : Bool) (xs : List Int) (g c : Nat) (w : World) (hl : xs.length ≤ 1048576) (h0 : 0 < xs.length) (hd : Dig xs) (hg : g < w.heap.size)
    (hr : ∀ (k : Nat) (x : Int), xs[k]? = some x → w.cell? ⟨g, k, none⟩ = some (.int .i64 x)) :
    Calls Tryd.prog 46 #[.agg #[.bool neg, .slice (some ⟨g, 0, none⟩) xs.length c]] w fun e w' => e = .returned (.string (bsOf (sgL neg ++ hT xs))) ∧ Below w.heap.size w w' := by
  have HR := Lib.hid hr
  have HD := Lib.hid hd
  clear hr hd
  obtain ⟨m, hm⟩ : ∃ m, xs.length = m + 1 := ⟨xs.length - 1, by omega⟩
  obtain ⟨y, HY⟩ : ∃ y, Hid (xs[m]? = some y) := ⟨_, Lib.hid (List.getElem?_eq_getElem (by omega))⟩
  have hcy := HR.out m y HY.out
  have hyr := HD.out.at HY.out
  obtain ⟨s0, HS0⟩ : ∃ s0, Hid (bsOf (decN y) = s0) := ⟨_, Lib.hid rfl⟩
  have HS1 := Lib.hid (show s0 = bsOf (hT (xs.drop m)) by rw [(hT_last HY.out (by omega)).1]; exact HS0.out.symm)
  have e1 : IntKind.i64.wrap ((xs.length : Int) - 1) = (m : Int) := by rw [IntWalk.i64_in _ (by omega)]; omega
  have e2 : (xs.length : Int) - 1 = (m : Int) := by omega
  have e3 : IntKind.i64.wrap ((xs.length : Int) - 2) = (m : Int) - 1 := by rw [IntWalk.i64_in _ (by omega)]; omega
  have e4 : (xs.length : Int) - 2 = (m : Int) - 1 := by omega
  have b0 : (0 : Int) ≤ (m : Int) := by omega
  have b1 : (m : Int) < (xs.length : Int) := by omega
  have hn0 : ((xs.length : Int) == 0) = false := beq_false_of_ne (by omega)
  have HM := Lib.hid hm
  clear hm
  cases neg
  · skip
    go_enter Tryd.func46, Tryd.ntmps46
    go_wp2_with fail
    (go_at_call 88; (with_reducible refine (decN_l1Num hyr HS0.out _).mono ?_); rintro e w1 ⟨rfl, b1⟩)
    have HB1 := Lib.hid (Below.trans (by (repeat' (first | (with_reducible exact Below.refl _ _) | (with_reducible assumption) | (with_reducible refine Below.alloc ?_ ?_ _) | (with_reducible refine Below.drew ?_) | (with_reducible refine below_drewN ?_ _) | (with_reducible refine Below.setCell ?_ ?_ _) | go_size))) (b1.mono (by go_size)) : Below w.heap.size w w1)
    have HX0 := Lib.hid (show w1.cell? ⟨w.heap.size, 0, none⟩ = some (.bool false) by rw [b1.cell (p := ⟨w.heap.size, 0, none⟩) (by simp)]; simp [go_sem])
    have HX1 := Lib.hid (show w1.cell? ⟨w.heap.size, 1, none⟩ = some (.slice (some ⟨g, 0, none⟩) xs.length c) by rw [b1.cell (p := ⟨w.heap.size, 1, none⟩) (by simp)]; simp [go_sem])
    have HZ := Lib.hid (show w.heap.size + 1 ≤ w1.heap.size by have := b1.size; simp at this; omega)
    clear b1
    go_wp2
    go_loopw [4, 5] (fun s i wr => ∃ (z : Int) (k : Nat) (st : ByteArray), k < xs.length ∧ z = (k : Int) - 1 ∧ i = .int .i64 z ∧ s = .string st ∧ Hid (st = bsOf (hT (xs.drop k))) ∧ Hid (wr.cell? ⟨w.heap.size, 0, none⟩ = some (.bool false)) ∧ Hid (wr.cell? ⟨w.heap.size, 1, none⟩ = some (.slice (some ⟨g, 0, none⟩) xs.length c)) ∧ Hid (Below w.heap.size w wr) ∧ Hid (w.heap.size + 1 ≤ wr.heap.size)) (fun _ i _ => (intOf i + 1).toNat)
    case atStart => exact ⟨(m : Int) - 1, m, s0, by omega, rfl, by go_num, rfl, Lib.hid HS1.out, HX0, HX1, HB1, HZ⟩
    case round =>
      clear HX0 HX1 HB1 HZ
      obtain ⟨z, k, st, hk, hz, rfl, rfl, HS, HX0, HX1, HB, HZ⟩ := hrel
      have hx0 := HX0.out
      have hx1 := HX1.out
      have hsz := HZ.out
      by_cases h : 0 ≤ z
      · obtain ⟨j, rfl⟩ : ∃ j, k = j + 1 := ⟨k - 1, by omega⟩
        obtain rfl : z = (j : Int) := by omega
        obtain ⟨x, HXj⟩ : ∃ x, Hid (xs[j]? = some x) := ⟨_, Lib.hid (List.getElem?_eq_getElem (by omega))⟩
        have hcx : wr.cell? ⟨g, j, none⟩ = some (.int .i64 x) := by rw [HB.out.cell (p := ⟨g, j, none⟩) hg]; exact HR.out j x HXj.out
        have hxr := HD.out.at HXj.out
        obtain ⟨d, HDx⟩ : ∃ d, Hid (decN x = d) := ⟨_, Lib.hid rfl⟩
        have hdl := decN_len hxr
        rw [HDx.out] at hdl
        obtain ⟨t0, HT0⟩ : ∃ t0, Hid (bsOf (decN x) = t0) := ⟨_, Lib.hid rfl⟩
        have HT1 := Lib.hid (show t0 = bsOf (List.replicate 0 48 ++ d) by rw [← HT0.out, HDx.out]; rfl)
        have hlen := hT_drop_len HD.out (j + 1)
        have hst : st.size = (hT (xs.drop (j + 1))).length := by rw [HS.out, bsOf_size]
        rw [← hst] at hlen
        clear hst
        have b0 : (0 : Int) ≤ (j : Int) := by omega
        have b1 : (j : Int) < (xs.length : Int) := by omega
        clear h hz
        go_wp2_with fail
        (go_at_call 88; (with_reducible refine (decN_l1Num hxr HT0.out _).mono ?_); rintro e w2 ⟨rfl, b2⟩)
        have HB2 := Lib.hid (HB.out.trans (b2.mono HB.out.size))
        have hx02 : w2.cell? ⟨w.heap.size, 0, none⟩ = some (.bool false) := by rw [b2.cell (p := ⟨w.heap.size, 0, none⟩) (by show w.heap.size < _; omega)]; exact hx0
        have hx12 : w2.cell? ⟨w.heap.size, 1, none⟩ = some (.slice (some ⟨g, 0, none⟩) xs.length c) := by rw [b2.cell (p := ⟨w.heap.size, 1, none⟩) (by show w.heap.size < _; omega)]; exact hx1
        have hsz2 : w.heap.size + 1 ≤ w2.heap.size := by have := b2.size; omega
        clear b2
        go_wp2
        go_loop [6] (fun t => ∃ (q : Nat) (tt : ByteArray), q ≤ 4 - d.length ∧ t = .string tt ∧ Hid (tt = bsOf (List.replicate q 48 ++ d)) ∧ tt.size = q + d.length) (fun t => 4 - (match t with | .string s => s.size | _ => 0))
        case atStart => exact ⟨0, t0, by omega, rfl, HT1, by rw [HT1.out, bsOf_size]; simp⟩
        case round =>
          obtain ⟨q, tt, hq, rfl, HTT, hts⟩ := hrel
          by_cases h4 : tt.size < 4
          · have b4 : (tt.size : Int) < 4 := by omega
            have ka := fun (w : World) => run_string_add_sum (P := Tryd.prog) (w := w) ⟨#[48]⟩ tt (by show 1 + tt.size ≤ _; omega)
            have HP := Lib.hid (pad_one q d HTT.out)
            have hts2 : ((⟨#[48]⟩ : ByteArray) ++ tt).size = q + 1 + d.length := by rw [ByteArray.size_append, hts]; show 1 + _ = _; omega
            obtain ⟨t2, HE⟩ : ∃ t2, Hid ((⟨#[48]⟩ : ByteArray) ++ tt = t2) := ⟨_, Lib.hid rfl⟩
            rw [HE.out] at ka hts2 HP
            have HTS := Lib.hid hts
            clear hts
            go_wp2
            go_round
            case rel => exact ⟨q + 1, t2, by have := HTS.out; omega, rfl, HP, hts2⟩
            case measure => (have := HTS.out); dsimp only; omega
          · have b4 : ¬ (tt.size : Int) < 4 := by omega
            obtain rfl : q = 4 - d.length := by omega
            have ka := fun (w : World) => run_string_add_sum (P := Tryd.prog) (w := w) st tt (by omega)
            have HP := Lib.hid (show st ++ tt = bsOf (hT (xs.drop j)) by rw [HS.out, HTT.out, bsOf_append, hT_more HXj.out (by omega), HDx.out]; rfl)
            obtain ⟨t2, HE⟩ : ∃ t2, Hid (st ++ tt = t2) := ⟨_, Lib.hid rfl⟩
            rw [HE.out] at ka HP
            clear hts
            go_wp2
            go_roundw
            case rel => exact ⟨(j : Int) - 1, j, t2, by omega, rfl, by go_num, rfl, HP, Lib.hid hx02, Lib.hid hx12, HB2, Lib.hid hsz2⟩
            case measure => first | (simp [intOf]; done) | (simp [intOf]; omega)
      · obtain rfl : k = 0 := by omega
        have hst : st.size ≤ 4 * xs.length := by rw [HS.out, bsOf_size]; exact hT_drop_len HD.out 0
        go_wp2
        go_ret
        exact ⟨by rw [HS.out, List.drop_zero]; rfl, HB.out⟩
  · skip
    go_enter Tryd.func46, Tryd.ntmps46
    go_wp2_with fail
    (go_at_call 88; (with_reducible refine (decN_l1Num hyr HS0.out _).mono ?_); rintro e w1 ⟨rfl, b1⟩)
    have HB1 := Lib.hid (Below.trans (by (repeat' (first | (with_reducible exact Below.refl _ _) | (with_reducible assumption) | (with_reducible refine Below.alloc ?_ ?_ _) | (with_reducible refine Below.drew ?_) | (with_reducible refine below_drewN ?_ _) | (with_reducible refine Below.setCell ?_ ?_ _) | go_size))) (b1.mono (by go_size)) : Below w.heap.size w w1)
    have HX0 := Lib.hid (show w1.cell? ⟨w.heap.size, 0, none⟩ = some (.bool true) by rw [b1.cell (p := ⟨w.heap.size, 0, none⟩) (by simp)]; simp [go_sem])
    have HX1 := Lib.hid (show w1.cell? ⟨w.heap.size, 1, none⟩ = some (.slice (some ⟨g, 0, none⟩) xs.length c) by rw [b1.cell (p := ⟨w.heap.size, 1, none⟩) (by simp)]; simp [go_sem])
    have HZ := Lib.hid (show w.heap.size + 1 ≤ w1.heap.size by have := b1.size; simp at this; omega)
    clear b1
    go_wp2
    go_loopw [4, 5] (fun s i wr => ∃ (z : Int) (k : Nat) (st : ByteArray), k < xs.length ∧ z = (k : Int) - 1 ∧ i = .int .i64 z ∧ s = .string st ∧ Hid (st = bsOf (hT (xs.drop k))) ∧ Hid (wr.cell? ⟨w.heap.size, 0, none⟩ = some (.bool true)) ∧ Hid (wr.cell? ⟨w.heap.size, 1, none⟩ = some (.slice (some ⟨g, 0, none⟩) xs.length c)) ∧ Hid (Below w.heap.size w wr) ∧ Hid (w.heap.size + 1 ≤ wr.heap.size)) (fun _ i _ => (intOf i + 1).toNat)
    case atStart => exact ⟨(m : Int) - 1, m, s0, by omega, rfl, by go_num, rfl, Lib.hid HS1.out, HX0, HX1, HB1, HZ⟩
    case round =>
      clear HX0 HX1 HB1 HZ
      obtain ⟨z, k, st, hk, hz, rfl, rfl, HS, HX0, HX1, HB, HZ⟩ := hrel
      have hx0 := HX0.out
      have hx1 := HX1.out
      have hsz := HZ.out
      by_cases h : 0 ≤ z
      · obtain ⟨j, rfl⟩ : ∃ j, k = j + 1 := ⟨k - 1, by omega⟩
        obtain rfl : z = (j : Int) := by omega
        obtain ⟨x, HXj⟩ : ∃ x, Hid (xs[j]? = some x) := ⟨_, Lib.hid (List.getElem?_eq_getElem (by omega))⟩
        have hcx : wr.cell? ⟨g, j, none⟩ = some (.int .i64 x) := by rw [HB.out.cell (p := ⟨g, j, none⟩) hg]; exact HR.out j x HXj.out
        have hxr := HD.out.at HXj.out
        obtain ⟨d, HDx⟩ : ∃ d, Hid (decN x = d) := ⟨_, Lib.hid rfl⟩
        have hdl := decN_len hxr
        rw [HDx.out] at hdl
        obtain ⟨t0, HT0⟩ : ∃ t0, Hid (bsOf (decN x) = t0) := ⟨_, Lib.hid rfl⟩
        have HT1 := Lib.hid (show t0 = bsOf (List.replicate 0 48 ++ d) by rw [← HT0.out, HDx.out]; rfl)
        have hlen := hT_drop_len HD.out (j + 1)
        have hst : st.size = (hT (xs.drop (j + 1))).length := by rw [HS.out, bsOf_size]
        rw [← hst] at hlen
        clear hst
        have b0 : (0 : Int) ≤ (j : Int) := by omega
        have b1 : (j : Int) < (xs.length : Int) := by omega
        clear h hz
        go_wp2_with fail
        (go_at_call 88; (with_reducible refine (decN_l1Num hxr HT0.out _).mono ?_); rintro e w2 ⟨rfl, b2⟩)
        have HB2 := Lib.hid (HB.out.trans (b2.mono HB.out.size))
        have hx02 : w2.cell? ⟨w.heap.size, 0, none⟩ = some (.bool true) := by rw [b2.cell (p := ⟨w.heap.size, 0, none⟩) (by show w.heap.size < _; omega)]; exact hx0
        have hx12 : w2.cell? ⟨w.heap.size, 1, none⟩ = some (.slice (some ⟨g, 0, none⟩) xs.length c) := by rw [b2.cell (p := ⟨w.heap.size, 1, none⟩) (by show w.heap.size < _; omega)]; exact hx1
        have hsz2 : w.heap.size + 1 ≤ w2.heap.size := by have := b2.size; omega
        clear b2
        go_wp2
        go_loop [6] (fun t => ∃ (q : Nat) (tt : ByteArray), q ≤ 4 - d.length ∧ t = .string tt ∧ Hid (tt = bsOf (List.replicate q 48 ++ d)) ∧ tt.size = q + d.length) (fun t => 4 - (match t with | .string s => s.size | _ => 0))
        case atStart => exact ⟨0, t0, by omega, rfl, HT1, by rw [HT1.out, bsOf_size]; simp⟩
        case round =>
          obtain ⟨q, tt, hq, rfl, HTT, hts⟩ := hrel
          by_cases h4 : tt.size < 4
          · have b4 : (tt.size : Int) < 4 := by omega
            have ka := fun (w : World) => run_string_add_sum (P := Tryd.prog) (w := w) ⟨#[48]⟩ tt (by show 1 + tt.size ≤ _; omega)
            have HP := Lib.hid (pad_one q d HTT.out)
            have hts2 : ((⟨#[48]⟩ : ByteArray) ++ tt).size = q + 1 + d.length := by rw [ByteArray.size_append, hts]; show 1 + _ = _; omega
            obtain ⟨t2, HE⟩ : ∃ t2, Hid ((⟨#[48]⟩ : ByteArray) ++ tt = t2) := ⟨_, Lib.hid rfl⟩
            rw [HE.out] at ka hts2 HP
            have HTS := Lib.hid hts
            clear hts
            go_wp2
            go_round
            case rel => exact ⟨q + 1, t2, by have := HTS.out; omega, rfl, HP, hts2⟩
            case measure => (have := HTS.out); dsimp only; omega
          · have b4 : ¬ (tt.size : Int) < 4 := by omega
            obtain rfl : q = 4 - d.length := by omega
            have ka := fun (w : World) => run_string_add_sum (P := Tryd.prog) (w := w) st tt (by omega)
            have HP := Lib.hid (show st ++ tt = bsOf (hT (xs.drop j)) by rw [HS.out, HTT.out, bsOf_append, hT_more HXj.out (by omega), HDx.out]; rfl)
            obtain ⟨t2, HE⟩ : ∃ t2, Hid (st ++ tt = t2) := ⟨_, Lib.hid rfl⟩
            rw [HE.out] at ka HP
            clear hts
            go_wp2
            go_roundw
            case rel => exact ⟨(j : Int) - 1, j, t2, by omega, rfl, by go_num, rfl, HP, Lib.hid hx02, Lib.hid hx12, HB2, Lib.hid hsz2⟩
            case measure => first | (simp [intOf]; done) | (simp [intOf]; omega)
      · obtain rfl : k = 0 := by omega
        have hst : st.size ≤ 4 * xs.length := by rw [HS.out, bsOf_size]; exact hT_drop_len HD.out 0
        have ka := fun (w : World) => run_string_add_sum (P := Tryd.prog) (w := w) ⟨#[45]⟩ st (by show 1 + st.size ≤ _; omega)
        go_wp2
        go_ret
        exact ⟨by rw [HS.out, List.drop_zero]; rw [show (⟨#[45]⟩ : ByteArray) = bsOf [45] from rfl, bsOf_append]; rfl, HB.out⟩
theorem bgText_none (A : Option Addr) (c : Nat) (w : World) :
    Calls Tryd.prog 46 #[.agg #[.bool false, .slice A 0 c]] w fun e w' => e = .returned (.string (bsOf [48])) ∧ Below w.heap.size w w' := by
  go_enter Tryd.func46, Tryd.ntmps46
  go_wp2
  go_ret
  exact ⟨rfl, by repeat' (first | (with_reducible exact Below.refl _ _) | (with_reducible assumption) | (with_reducible refine Below.alloc ?_ ?_ _) | (with_reducible refine Below.drew ?_) | (with_reducible refine below_drewN ?_ _) | (with_reducible refine Below.setCell ?_ ?_ _) | go_size)⟩
theorem wholeText_none (A : Option Addr) (c : Nat) (w : World) :
    Calls Tryd.prog 49 #[.agg #[.bool false, .slice A 0 c]] w fun e w' => e = .returned (.string (bsOf [48])) ∧ Below w.heap.size w w' := by
  go_enter Tryd.func49, Tryd.ntmps49
  go_wp2
  go_rounds 1
  go_ret
  exact ⟨rfl, by repeat' (first | (with_reducible exact Below.refl _ _) | (with_reducible assumption) | (with_reducible refine Below.alloc ?_ ?_ _) | (with_reducible refine Below.drew ?_) | (with_reducible refine below_drewN ?_ _) | (with_reducible refine Below.setCell ?_ ?_ _) | go_size)⟩
theorem wtL_some {neg : Bool} {xs : List Int} (h : 0 < xs.length) : wtL neg xs = sgL neg ++ hT xs := by
  unfold wtL; rw [if_neg (by intro e; rw [e] at h; simp at h)]
theorem bgText_any (neg : Bool) {A : Option Addr} {c : Nat} {xs : List Int} {w : World} (h : Holds w (.slice A xs.length c) xs) (hl : xs.length ≤ 1048576) (hd : Dig xs) (hn : xs = [] → neg = false) :
    Calls Tryd.prog 46 #[.agg #[.bool neg, .slice A xs.length c]] w fun e w' => e = .returned (.string (bsOf (wtL neg xs))) ∧ Below w.heap.size w w' := by
  rcases h with ⟨rfl, _⟩ | ⟨g, c', hv, h1, h2, h3, h4⟩
  · rw [hn rfl]; exact bgText_none _ _ _
  · cases hv; rw [wtL_some h1]; exact bgText_some neg xs g c w hl h1 hd h3 h4
theorem wholeText_any (neg : Bool) {A : Option Addr} {c : Nat} {xs : List Int} {w : World} (h : Holds w (.slice A xs.length c) xs) (hl : xs.length ≤ 1048576) (hd : Dig xs) (hn : xs = [] → neg = false) (ht : Tab w) :
    Calls Tryd.prog 49 #[.agg #[.bool neg, .slice A xs.length c]] w fun e w' => e = .returned (.string (bsOf (wtL neg xs))) ∧ Below w.heap.size w w' := by
  rcases h with ⟨rfl, _⟩ | ⟨g, c', hv, h1, h2, h3, h4⟩
  · rw [hn rfl]; exact wholeText_none _ _ _
  · cases hv; rw [wtL_some h1]; exact wholeText_some neg xs g c w hl h1 hd h3 h4 ht
theorem good_parts {neg : Bool} {xs : List Int} (h : goodB neg xs = true) : xs.length ≤ 400 ∧ Dig xs ∧ (xs = [] → neg = false) := by
  obtain ⟨h1, h2, h3, h4⟩ := goodB_iff.1 h
  refine ⟨h1, h3, fun e => ?_⟩
  subst e
  rcases h2 with h2 | h2
  · simp at h2
  · simpa using h2
end Go.Proofs.YtklhmaegpejdbaaDoor
