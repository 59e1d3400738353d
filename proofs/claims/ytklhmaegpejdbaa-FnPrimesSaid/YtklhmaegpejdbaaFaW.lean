/- impl.FactorsOf and spec.FactorsOf; the walk of FnExactFactorsOf. -/
import Derived.Test.YtklhmaegpejdbaaFacts
import Derived.Test.YtklhmaegpejdbaaInside
namespace Go.Proofs.Ytklhmaegpejdbaa.Fa
open Go.RowKit
set_option linter.unusedVariables false
set_option linter.unusedSimpArgs false
def factI (n : Int) : List (Int × Int) := if inB n 1 10000000000 = true then pairsI (facs n.toNat) else []
theorem factI_yes (N : Nat) (h : inB (N : Int) 1 10000000000 = true) : factI (N : Int) = pairsI (facs N) := by unfold factI; rw [if_pos h]; rfl
theorem factI_no {n : Int} (h : inB n 1 10000000000 = false) : factI n = [] := by unfold factI; rw [h]; rfl
theorem factI_short (n : Int) : (factI n).length ≤ 20000000000 := by
  unfold factI
  by_cases h : inB n 1 10000000000 = true
  · rw [if_pos h]
    obtain ⟨h0, h1⟩ := inB_iff.1 h
    have h2 := facs_length n.toNat
    unfold pairsI
    rw [List.length_map]
    omega
  · rw [if_neg h]; simp
theorem val_nat (n q k : Nat) (hk : valN q n = k) (h0 : 1 ≤ n) (h1 : n ≤ 10000000000) (h2 : 2 ≤ q) (h3 : q ≤ 10000000000) (w : World) :
    Calls Try.prog 104 #[.int .i64 (n : Int), .int .i64 (q : Int)] w fun e w' => e = .returned (.int .i64 (k : Int)) ∧ w = w' := by
  have h := valuation_any (n : Int) (q : Int) (by omega) (by omega) (by omega) ⟨by omega, by omega⟩ w
  rw [show valI (n : Int) (q : Int) = (k : Int) by simp [valI, hk]] at h
  exact h
theorem pairs_take {l : List (Nat × Nat)} {k : Nat} {e : Nat × Nat} (h : l[k]? = some e) : pairsI (l.take (k + 1)) = pairsI (l.take k) ++ [((e.1 : Int), (e.2 : Int))] := by
  unfold pairsI; rw [List.take_add_one, h]; simp
set_option maxHeartbeats 2000000 in
theorem spec_any (n : Int) (w : World) :
    Calls Try.prog 48 #[.int .i64 n] w fun e w' => ∃ v, e = .returned (.tuple #[v, .bool (inB n 1 10000000000)]) ∧ (∃ gs, Pairs w' w.heap.size v gs (factI n)) ∧ Below w.heap.size w w' := by
  rcases Bool.eq_false_or_eq_true (inB n 1 10000000000) with hc | hc
  · obtain ⟨h0, h1⟩ := inB_iff.1 hc
    obtain ⟨N, rfl⟩ := Int.eq_ofNat_of_zero_le (show 0 ≤ n by omega)
    have HP := Lib.hid (factI_yes N hc)
    have HC := Lib.hid hc
    go_enter Try.func48, Try.ntmps48
    go_wp2_with (go_at_call 95; refine (l1In_any _ _ _ _).mono ?_; rintro e w' ⟨rfl, rfl⟩)
    (go_at_call 105; refine (mdFactors_any N (by omega) (by omega) _).mono ?_; rintro e w2 ⟨v2, rfl, n2, hb2⟩)
    have N2 := Lib.hid n2
    have B2 := Lib.hid hb2
    clear n2 hb2
    go_wp2
    go_ret2
    exact ⟨_, ret_v_bool HC.out.symm, by rw [HP.out]; exact N2.out, B2.out⟩
  · have HP := Lib.hid (factI_no hc)
    have HC := Lib.hid hc
    go_enter Try.func48, Try.ntmps48
    go_wp2_with (go_at_call 95; refine (l1In_any _ _ _ _).mono ?_; rintro e w' ⟨rfl, rfl⟩)
    go_ret2
    exact ⟨_, ret_v_bool HC.out.symm, ⟨[], by rw [HP.out]; exact Pairs.nil _ _⟩, Below.refl _ _⟩
theorem Pairs.mono {w : World} {B C : Nat} {v : Value} {gs : List Nat} {ps : List (Int × Int)} (h : Pairs w B v gs ps) (hC : C ≤ B) : Pairs w C v gs ps := by
  refine ⟨h.1, ⟨h.2.1.1, ?_⟩, fun i g p hi hp => ?_, h.2.2.2⟩
  · rcases h.2.1.2 with h2 | ⟨g, cap, cur, h1, h3, h4⟩
    · exact .inl h2
    · exact .inr ⟨g, cap, cur, h1, Nat.le_trans hC h3, h4⟩
  · obtain ⟨h1, h2⟩ := h.2.2.1 i g p hi hp
    exact ⟨h1, Nums.mono (xs := [p.1, p.2]) h2 hC⟩
set_option maxHeartbeats 8000000 in
theorem impl_any (n : Int) (w : World) :
    Calls Try.prog 47 #[.int .i64 n] w fun e w' => ∃ v, e = .returned (.tuple #[v, .bool (inB n 1 10000000000)]) ∧ (∃ gs, Pairs w' w.heap.size v gs (factI n)) ∧ Below w.heap.size w w' := by
  rcases Bool.eq_false_or_eq_true (inB n 1 10000000000) with hc | hc
  · obtain ⟨h0, h1⟩ := inB_iff.1 hc
    obtain ⟨N, rfl⟩ := Int.eq_ofNat_of_zero_le (show 0 ≤ n by omega)
    have HP := Lib.hid (factI_yes N hc)
    have HC := Lib.hid hc
    have h0' : 1 ≤ N := by omega
    have h1' : N ≤ 10000000000 := by omega
    obtain ⟨j0, hj, hy0, hy1, hy2⟩ := info_parts infoRows
    have hfl : (primesI (facs N)).length ≤ 2 * N := by unfold primesI; rw [List.length_map]; exact facs_length N
    have hfe : (primesI (facs N)).length = (facs N).length := by unfold primesI; rw [List.length_map]
    go_enter Try.func47, Try.ntmps47
    go_wp2_with (go_at_call 89; refine (inside_any _ _ _ _).mono ?_; rintro e w' ⟨rfl, rfl⟩)
    (go_at_call 103; refine (primesOf_any N h0' h1' _).mono ?_; rintro e w2 ⟨A2, d2, rfl, n2, hb2⟩)
    have N2 := Lib.hid n2
    have B2 := Lib.hid hb2
    have hz2 := hb2.size
    clear n2 hb2
    go_wp2
    go_loopw [4, 13] (fun v b wr => ∃ (k : Nat) (gs : List Nat), k ≤ (primesI (facs N)).length ∧ b = .int .i64 k ∧ Hid (Pairs wr w2.heap.size v gs (pairsI ((facs N).take k))) ∧ Hid (Below w2.heap.size w2 wr)) (fun _ b _ => (primesI (facs N)).length - (intOf b).toNat)
    case atStart => exact ⟨0, [], by omega, rfl, Pairs.nil _ _, Below.refl _ _⟩
    case round =>
      obtain ⟨k, gs, hk, rfl, HN, HB⟩ := hrel
      have hsz := HB.out.size
      have hlen : (pairsI ((facs N).take k)).length = k := by unfold pairsI; rw [List.length_map, List.length_take]; omega
      by_cases hlt : k < (primesI (facs N)).length
      · obtain ⟨e, he⟩ : ∃ e, (facs N)[k]? = some e := ⟨_, List.getElem?_eq_getElem (by omega)⟩
        obtain ⟨e0, e1, e2⟩ := facs_val h0' e (List.mem_of_getElem? he)
        obtain ⟨q, j⟩ := e
        have e0 : 2 ≤ q := e0
        have e1 : q ≤ N := e1
        have E2 := Lib.hid (show valN q N = j from e2)
        have hp : (primesI (facs N))[k]? = some (q : Int) := by unfold primesI; rw [List.getElem?_map, he]; rfl
        obtain ⟨g, cap, hv, _, hg, hcs, _⟩ : ∃ g cap, _ ∧ _ := by
          rcases N2.out.shape with ⟨_, h3⟩ | h3
          · rw [h3] at hlt; simp at hlt
          · exact h3
        cases hv
        have hc2 := (HB.out.cell (p := ⟨g, k, none⟩) hg).trans (hcs k _ hp)
        have HT := Lib.hid (pairs_take he)
        have b0 : (0 : Int) ≤ (k : Int) := by omega
        have b1 : (k : Int) < ((primesI (facs N)).length : Int) := by omega
        have HO := Lib.hid (show wr.ownsRow w2.heap.size 54 1 _ (pairsI ((facs N).take k)).length (gs.map rowV) from HN.out.2.1)
        clear he hp hcs e2
        go_wp2_with (first | (go_at_call 104; refine (val_nat N q j E2.out h0' h1' e0 (by omega) _).mono ?_; rintro e w' ⟨rfl, rfl⟩) | (at_builtin; refine wpList_append_own _ rfl _ _ 50 rfl w2.heap.size 54 j0 (.slice none 0 0) 1 24 underRows hj hy0 hy1 hy2 rfl (by decide) _ _ _ rfl (World.ownsRow.alloc (World.ownsRow.alloc HO.out _) _) ⟨wr.heap.size + 1, 0, none⟩ 1 1 [rowV wr.heap.size] rfl rfl (pair_at _ _ _) (row_one_cell _) (by unfold maxLen; omega) (by omega) (by simp; omega) ?_; intro v' w1 hown' hgrow _))
        have R1 := Lib.hid (pairs_step HN.out hsz hown' hgrow)
        have R2 := Lib.hid (show Below w2.heap.size w2 w1 from ((HB.out.alloc (by omega) _).alloc (by simp; omega) _).grown hgrow (by simp; omega) fun j hj => (World.ownsRow.lt HN.out.2.1 j hj).1)
        clear hown' hgrow
        go_wp2
        go_roundw
        case rel => exact ⟨k + 1, _, by omega, by go_num, Lib.hid (by rw [HT.out]; exact R1.out), R2⟩
        case measure => simp [intOf]; omega
      · have HX := Lib.hid (show (facs N).take k = facs N by rw [List.take_of_length_le (by omega)])
        go_wp2
        go_ret2
        exact ⟨_, ret_v_bool HC.out.symm, ⟨gs, by rw [HP.out]; have := HN.out; rw [HX.out] at this; exact Pairs.mono this hz2⟩, B2.out.trans (HB.out.mono hz2)⟩
  · have HP := Lib.hid (factI_no hc)
    have HC := Lib.hid hc
    go_enter Try.func47, Try.ntmps47
    go_wp2_with (go_at_call 89; refine (inside_any _ _ _ _).mono ?_; rintro e w' ⟨rfl, rfl⟩)
    go_ret2
    exact ⟨_, ret_v_bool HC.out.symm, ⟨[], by rw [HP.out]; exact Pairs.nil _ _⟩, Below.refl _ _⟩
end Go.Proofs.Ytklhmaegpejdbaa.Fa
