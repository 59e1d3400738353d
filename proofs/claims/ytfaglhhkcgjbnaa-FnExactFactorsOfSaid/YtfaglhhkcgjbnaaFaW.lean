/- impl.FactorsOf and spec.FactorsOf; the walk of FnExactFactorsOf. -/
import Derived.Test.YtfaglhhkcgjbnaaFacts
import Derived.Test.YtfaglhhkcgjbnaaInside
namespace Go.Proofs.Ytfaglhhkcgjbnaa.Fa
open Go.RowKit
set_option linter.unusedVariables false
set_option linter.unusedSimpArgs false
def factI (n : Int) : List (Int × Int) := if inB n 1 10000000000 = true then pairsI (facs n.toNat) else []
theorem factI_yes (N : Nat) (h : inB (N : Int) 1 10000000000 = true) : factI (N : Int) = pairsI (facs N) := by unfold factI; rw [if_pos h]; rfl
theorem factI_no {n : Int} (h : inB n 1 10000000000 = false) : factI n = [] := by unfold factI; rw [h]; rfl
theorem factI_short (n : Int) : (factI n).length ≤ 20000000000 := by
  unfold factI
  by_cases h : inB n 1 10000000000 = true
  · rw [if_pos h]
    obtain ⟨h0, h1⟩ := inB_iff.1 h
    have h2 := facs_length n.toNat
    unfold pairsI
    rw [List.length_map]
    omega
  · rw [if_neg h]; simp
theorem val_nat (n q k : Nat) (hk : valN q n = k) (h0 : 1 ≤ n) (h1 : n ≤ 10000000000) (h2 : 2 ≤ q) (h3 : q ≤ 10000000000) (w : World) :
    Calls Try.prog 66 #[.int .i64 (n : Int), .int .i64 (q : Int)] w fun e w' => e = .returned (.int .i64 (k : Int)) ∧ w = w' := by
  have h := valuation_any (n : Int) (q : Int) (by omega) (by omega) (by omega) ⟨by omega, by omega⟩ w
  rw [show valI (n : Int) (q : Int) = (k : Int) by simp [valI, hk]] at h
  exact h
theorem pairs_take {l : List (Nat × Nat)} {k : Nat} {e : Nat × Nat} (h : l[k]? = some e) : pairsI (l.take (k + 1)) = pairsI (l.take k) ++ [((e.1 : Int), (e.2 : Int))] := by
  unfold pairsI; rw [List.take_add_one, h]; simp
set_option maxHeartbeats 2000000 in
theorem spec_any (n : Int) (w : World) :
    Calls Try.prog 26 #[.int .i64 n] w fun e w' => ∃ v, e = .returned (.tuple #[v, .bool (inB n 1 10000000000)]) ∧ (∃ gs, Pairs w' w.heap.size v gs (factI n)) ∧ Below w.heap.size w w' := by
  rcases Bool.eq_false_or_eq_true (inB n 1 10000000000) with hc | hc
  · obtain ⟨h0, h1⟩ := inB_iff.1 hc
    obtain ⟨N, rfl⟩ := Int.eq_ofNat_of_zero_le (show 0 ≤ n by omega)
    have HP := Lib.hid (factI_yes N hc)
    have HC := Lib.hid hc
    go_enter Try.func26, Try.ntmps26
    go_wp2_with (go_at_call 52; refine (l1In_any _ _ _ _).mono ?_; rintro e w' ⟨rfl, rfl⟩)
    (go_at_call 64; refine (mdFactors_any N (by omega) (by omega) _).mono ?_; rintro e w2 ⟨v2, rfl, n2, hb2⟩)
    have N2 := Lib.hid n2
    have B2 := Lib.hid hb2
    clear n2 hb2
    go_wp2
    go_ret2
    exact ⟨_, ret_v_bool HC.out.symm, by rw [HP.out]; exact N2.out, B2.out⟩
  · have HP := Lib.hid (factI_no hc)
    have HC := Lib.hid hc
    go_enter Try.func26, Try.ntmps26
    go_wp2_with (go_at_call 52; refine (l1In_any _ _ _ _).mono ?_; rintro e w' ⟨rfl, rfl⟩)
    go_ret2
    exact ⟨_, ret_v_bool HC.out.symm, ⟨[], by rw [HP.out]; exact Pairs.nil _ _⟩, Below.refl _ _⟩
theorem Pairs.mono {w : World} {B C : Nat} {v : Value} {gs : List Nat} {ps : List (Int × Int)} (h : Pairs w B v gs ps) (hC : C ≤ B) : Pairs w C v gs ps := by
  refine ⟨h.1, ⟨h.2.1.1, ?_⟩, fun i g p hi hp => ?_, h.2.2.2⟩
  · rcases h.2.1.2 with h2 | ⟨g, cap, cur, h1, h3, h4⟩
    · exact .inl h2
    · exact .inr ⟨g, cap, cur, h1, Nat.le_trans hC h3, h4⟩
  · obtain ⟨h1, h2⟩ := h.2.2.1 i g p hi hp
    exact ⟨h1, Nums.mono (xs := [p.1, p.2]) h2 hC⟩
set_option maxHeartbeats 8000000 in
theorem impl_any (n : Int) (w : World) :
    Calls Try.prog 27 #[.int .i64 n] w fun e w' => ∃ v, e = .returned (.tuple #[v, .bool (inB n 1 10000000000)]) ∧ (∃ gs, Pairs w' w.heap.size v gs (factI n)) ∧ Below w.heap.size w w' := by
  rcases Bool.eq_false_or_eq_true (inB n 1 10000000000) with hc | hc
  · obtain ⟨h0, h1⟩ := inB_iff.1 hc
    obtain ⟨N, rfl⟩ := Int.eq_ofNat_of_zero_le (show 0 ≤ n by omega)
    have HP := Lib.hid (factI_yes N hc)
    have HC := Lib.hid hc
    have h0' : 1 ≤ N := by omega
    have h1' : N ≤ 10000000000 := by omega
    obtain ⟨j0, hj, hy0, hy1, hy2⟩ := info_parts infoRows
    have hfl : (primesI (facs N)).length ≤ 2 * N := by unfold primesI; rw [List.length_map]; exact facs_length N
    have hfe : (primesI (facs N)).length = (facs N).length := by unfold primesI; rw [List.length_map]
    go_enter Try.func27, Try.ntmps27
    go_wp2_with (go_at_call 54; refine (inside_any _ _ _ _).mono ?_; rintro e w' ⟨rfl, rfl⟩)
    (go_at_call 65; refine (primesOf_any N h0' h1' _).mono ?_; rintro e w2 ⟨A2, d2, rfl, n2, hb2⟩)
    have N2 := Lib.hid n2
    have B2 := Lib.hid hb2
    have hz2 := hb2.size
    clear n2 hb2
    go_wp2
    go_loopw [4, 13] (fun v b wr => ∃ (k : Nat) (gs : List Nat), k ≤ (primesI (facs N)).length ∧ b = .int .i64 k ∧ Hid (Pairs wr w2.heap.size v gs (pairsI ((facs N).take k))) ∧ Hid (Below w2.heap.size w2 wr)) (fun _ b _ => (primesI (facs N)).length - (intOf b).toNat)
    case atStart => exact ⟨0, [], by omega, rfl, Pairs.nil _ _, Below.refl _ _⟩
    case round =>
      obtain ⟨k, gs, hk, rfl, HN, HB⟩ := hrel
      have hsz := HB.out.size
      have hlen : (pairsI ((facs N).take k)).length = k := by unfold pairsI; rw [List.length_map, List.length_take]; omega
      by_cases hlt : k < (primesI (facs N)).length
      · obtain ⟨e, he⟩ : ∃ e, (facs N)[k]? = some e := ⟨_, List.getElem?_eq_getElem (by omega)⟩
        obtain ⟨e0, e1, e2⟩ := facs_val h0' e (List.mem_of_getElem? he)
        obtain ⟨q, j⟩ := e
        have e0 : 2 ≤ q := e0
        have e1 : q ≤ N := e1
        have E2 := Lib.hid (show valN q N = j from e2)
        have hp : (primesI (facs N))[k]? = some (q : Int) := by unfold primesI; rw [List.getElem?_map, he]; rfl
        obtain ⟨g, cap, hv, _, hg, hcs, _⟩ : ∃ g cap, _ ∧ _ := by
          rcases N2.out.shape with ⟨_, h3⟩ | h3
          · rw [h3] at hlt; simp at hlt
          · exact h3
        cases hv
        have hc2 := (HB.out.cell (p := ⟨g, k, none⟩) hg).trans (hcs k _ hp)
        have HT := Lib.hid (pairs_take he)
        have b0 : (0 : Int) ≤ (k : Int) := by omega
        have b1 : (k : Int) < ((primesI (facs N)).length : Int) := by omega
        have HO := Lib.hid (show wr.ownsRow w2.heap.size 22 1 _ (pairsI ((facs N).take k)).length (gs.map rowV) from HN.out.2.1)
        clear he hp hcs e2
        go_wp2_with (first | (go_at_call 66; refine (val_nat N q j E2.out h0' h1' e0 (by omega) _).mono ?_; rintro e w' ⟨rfl, rfl⟩) | (at_builtin; refine wpList_append_own _ rfl _ _ 40 rfl w2.heap.size 22 j0 (.slice none 0 0) 1 24 underRows hj hy0 hy1 hy2 rfl (by decide) _ _ _ rfl (World.ownsRow.alloc (World.ownsRow.alloc HO.out _) _) ⟨wr.heap.size + 1, 0, none⟩ 1 1 [rowV wr.heap.size] rfl rfl (pair_at _ _ _) (row_one_cell _) (by unfold maxLen; omega) (by omega) (by simp; omega) ?_; intro v' w1 hown' hgrow _))
        have R1 := Lib.hid (pairs_step HN.out hsz hown' hgrow)
        have R2 := Lib.hid (show Below w2.heap.size w2 w1 from ((HB.out.alloc (by omega) _).alloc (by simp; omega) _).grown hgrow (by simp; omega) fun j hj => (World.ownsRow.lt HN.out.2.1 j hj).1)
        clear hown' hgrow
        go_wp2
        go_roundw
        case rel => exact ⟨k + 1, _, by omega, by go_num, Lib.hid (by rw [HT.out]; exact R1.out), R2⟩
        case measure => simp [intOf]; omega
      · have HX := Lib.hid (show (facs N).take k = facs N by rw [List.take_of_length_le (by omega)])
        go_wp2
        go_ret2
        exact ⟨_, ret_v_bool HC.out.symm, ⟨gs, by rw [HP.out]; have := HN.out; rw [HX.out] at this; exact Pairs.mono this hz2⟩, B2.out.trans (HB.out.mono hz2)⟩
  · have HP := Lib.hid (factI_no hc)
    have HC := Lib.hid hc
    go_enter Try.func27, Try.ntmps27
    go_wp2_with (go_at_call 54; refine (inside_any _ _ _ _).mono ?_; rintro e w' ⟨rfl, rfl⟩)
    go_ret2
    exact ⟨_, ret_v_bool HC.out.symm, ⟨[], by rw [HP.out]; exact Pairs.nil _ _⟩, Below.refl _ _⟩
set_option maxHeartbeats 4000000 in
theorem walk (n : Int) (_ : (Lit.int .i64 n).wf = true) (w : World) : Calls Try.prog 6 #[.int .i64 n] w fun e w' => e = .returned (.bool true) ∧ Below w.heap.size w w' := by
  have hs := factI_short n
  go_enter Try.func6, Try.ntmps6
  go_wp2_with fail
  (go_at_call 26; refine (spec_any _ _).mono ?_; rintro e w2 ⟨v2, rfl, ⟨gs2, n2⟩, hb2⟩; obtain ⟨hc2, hf2⟩ := bcellB hb2; have hB2 : Below w.heap.size w w2 := Below.trans (by repeat' (first | (with_reducible exact Below.refl _ _) | (with_reducible assumption) | (with_reducible refine Below.alloc ?_ ?_ _) | (with_reducible refine Below.drew ?_) | (with_reducible refine below_drewN ?_ _) | (with_reducible refine Below.setCell ?_ ?_ _) | go_size)) (hb2.mono (by go_size)); (have hs2 := hb2.size); (try simp at hs2); (first | (have hz2 : w.heap.size < w2.heap.size := by omega) | (have hz2 : w.heap.size ≤ w2.heap.size := by omega)))
  have q2 := hb2.size
  go_wp2_with fail
  (go_at_call 27; refine (impl_any _ _).mono ?_; rintro e w4 ⟨v4, rfl, ⟨gs4, n4⟩, hb4⟩; obtain ⟨hc4, hf4⟩ := bcellB hb4; have hB4 : Below w.heap.size w w4 := Below.trans (by repeat' (first | (with_reducible exact Below.refl _ _) | (with_reducible assumption) | (with_reducible refine Below.alloc ?_ ?_ _) | (with_reducible refine Below.drew ?_) | (with_reducible refine below_drewN ?_ _) | (with_reducible refine Below.setCell ?_ ?_ _) | go_size)) (hb4.mono (by go_size)); (have hs4 := hb4.size); (try simp at hs4); (first | (have hz4 : w.heap.size < w4.heap.size := by omega) | (have hz4 : w.heap.size ≤ w4.heap.size := by omega)))
  have q4 := hb4.size
  have N2 := Lib.hid n2
  have N4 := Lib.hid n4
  have T4 := Lib.hid hb4
  clear n2 n4
  go_wp2_with fail
  (go_at_call 28; refine (eqIntSS_same N4.out (N2.out.below T4.out) (by omega)).mono ?_; rintro e w5 ⟨rfl, hb5⟩; obtain ⟨hc5, hf5⟩ := bcellB hb5; have hB5 : Below w.heap.size w w5 := Below.trans (by repeat' (first | (with_reducible exact Below.refl _ _) | (with_reducible assumption) | (with_reducible refine Below.alloc ?_ ?_ _) | (with_reducible refine Below.drew ?_) | (with_reducible refine below_drewN ?_ _) | (with_reducible refine Below.setCell ?_ ?_ _) | go_size)) (hb5.mono (by go_size)); (have hs5 := hb5.size); (try simp at hs5); (first | (have hz5 : w.heap.size < w5.heap.size := by omega) | (have hz5 : w.heap.size ≤ w5.heap.size := by omega)))
  have q5 := hb5.size
  have T5 := Lib.hid (T4.out.trans (hb5.mono (by omega)))
  have N45 := Lib.hid (N4.out.below hb5)
  go_wp2_with fail
  (go_at_call 29; refine (markIntSS_any 1 N45.out (by omega) (by omega) (by omega) (by omega)).mono ?_; rintro e w6 ⟨rfl, n6, hb6⟩; obtain ⟨hc6, hf6⟩ := bcellB hb6; have hB6 : Below w.heap.size w w6 := Below.trans (by repeat' (first | (with_reducible exact Below.refl _ _) | (with_reducible assumption) | (with_reducible refine Below.alloc ?_ ?_ _) | (with_reducible refine Below.drew ?_) | (with_reducible refine below_drewN ?_ _) | (with_reducible refine Below.setCell ?_ ?_ _) | go_size)) (hb6.mono (by go_size)); (have hs6 := hb6.size); (try simp at hs6); (first | (have hz6 : w.heap.size < w6.heap.size := by omega) | (have hz6 : w.heap.size ≤ w6.heap.size := by omega)))
  have q6 := hb6.size
  have T6 := Lib.hid (T5.out.trans hb6)
  have N6 := Lib.hid n6
  clear n6
  go_wp2_with fail
  (go_at_call 30; refine (heldIntSS_any 1 N6.out (by omega) (by omega) (by omega)).mono ?_; rintro e w' ⟨rfl, rfl⟩)
  go_wp2_with fail
  (go_at_call 27; refine (impl_any _ _).mono ?_; rintro e w8 ⟨v8, rfl, ⟨gs8, n8⟩, hb8⟩; obtain ⟨hc8, hf8⟩ := bcellB hb8; have hB8 : Below w.heap.size w w8 := Below.trans (by repeat' (first | (with_reducible exact Below.refl _ _) | (with_reducible assumption) | (with_reducible refine Below.alloc ?_ ?_ _) | (with_reducible refine Below.drew ?_) | (with_reducible refine below_drewN ?_ _) | (with_reducible refine Below.setCell ?_ ?_ _) | go_size)) (hb8.mono (by go_size)); (have hs8 := hb8.size); (try simp at hs8); (first | (have hz8 : w.heap.size < w8.heap.size := by omega) | (have hz8 : w.heap.size ≤ w8.heap.size := by omega)))
  have q8 := hb8.size
  have T8 := Lib.hid (T6.out.trans (hb8.mono (by omega)))
  have N8 := Lib.hid n8
  have N68 := Lib.hid (N6.out.below hb8)
  clear n8
  go_wp2_with fail
  (go_at_call 28; refine (eqIntSS_same N8.out (N2.out.below T8.out) (by omega)).mono ?_; rintro e w9 ⟨rfl, hb9⟩; obtain ⟨hc9, hf9⟩ := bcellB hb9; have hB9 : Below w.heap.size w w9 := Below.trans (by repeat' (first | (with_reducible exact Below.refl _ _) | (with_reducible assumption) | (with_reducible refine Below.alloc ?_ ?_ _) | (with_reducible refine Below.drew ?_) | (with_reducible refine below_drewN ?_ _) | (with_reducible refine Below.setCell ?_ ?_ _) | go_size)) (hb9.mono (by go_size)); (have hs9 := hb9.size); (try simp at hs9); (first | (have hz9 : w.heap.size < w9.heap.size := by omega) | (have hz9 : w.heap.size ≤ w9.heap.size := by omega)))
  go_wp2_with fail
  (go_at_call 30; refine (heldIntSS_any 1 (N68.out.below hb9) (by omega) (by omega) (by omega)).mono ?_; rintro e w' ⟨rfl, rfl⟩)
  go_wp2
  go_ret
  exact ⟨rfl, by repeat' (first | (with_reducible exact Below.refl _ _) | (with_reducible assumption) | (with_reducible refine Below.alloc ?_ ?_ _) | (with_reducible refine Below.drew ?_) | (with_reducible refine below_drewN ?_ _) | (with_reducible refine Below.setCell ?_ ?_ _) | go_size)⟩
end Go.Proofs.Ytfaglhhkcgjbnaa.Fa
