/- Contracts of impl.addLimbs and spec.bgCombine: sums and differences of digits. -/
import Derived.Test.YtcplelcblfjpoaaWhCmp
namespace Go.Proofs.Ytcplelcblfjpoaa
open Go.RowKit
set_option linter.unusedVariables false
set_option linter.unusedSimpArgs false
/-- i digits ds are reckoned; c is carried. -/
def AddInv (sg : Int) (xs ys ds : List Int) (i : Nat) (c : Int) : Prop :=
  ds.length = i ∧ Dig ds ∧ dv ds + 10000 ^ i * (c + dv (xs.drop i) + sg * dv (ys.drop i)) = dv xs + sg * dv ys ∧ -1 ≤ c ∧ c ≤ 1
theorem AddInv.start (sg : Int) (xs ys : List Int) : AddInv sg xs ys [] 0 0 := ⟨rfl, Dig.nil, by simp [dv], by omega, by omega⟩
theorem AddInv.next {sg : Int} {xs ys ds : List Int} {i : Nat} {c d c' : Int} (h : AddInv sg xs ys ds i c) (hx : c + dig xs i + sg * dig ys i = d + 10000 * c') (hd : 0 ≤ d ∧ d ≤ 9999) (h1 : -1 ≤ c') (h2 : c' ≤ 1) :
    AddInv sg xs ys (ds ++ [d]) (i + 1) c' := by
  obtain ⟨a1, a2, a3, _, _⟩ := h
  refine ⟨by rw [List.length_append, a1]; rfl, a2.append (Dig.cons hd Dig.nil), ?_, h1, h2⟩
  rw [← a3, dv_append, a1, dv_dropd (xs := xs) i, dv_dropd (xs := ys) i]
  have e1 : c + (dig xs i + 10000 * dv (xs.drop (i + 1))) + sg * (dig ys i + 10000 * dv (ys.drop (i + 1))) = d + 10000 * (c' + dv (xs.drop (i + 1)) + sg * dv (ys.drop (i + 1))) := by
    rw [Int.mul_add sg, Int.mul_left_comm sg 10000]; omega
  rw [e1, dv, dv, Int.mul_zero, Int.add_zero]
  generalize c' + dv (xs.drop (i + 1)) + sg * dv (ys.drop (i + 1)) = E
  rw [Int.mul_add ((10000 : Int) ^ i) d, Int.pow_succ, Int.mul_assoc, Int.add_assoc]
theorem AddInv.zero {sg : Int} {xs ys ds : List Int} {i : Nat} {c : Int} (h : AddInv sg xs ys ds i c) (hx : xs.length ≤ i) (hy : ys.length ≤ i) (h0 : 0 ≤ dv xs + sg * dv ys) (h1 : dv xs + sg * dv ys < 10000 ^ i) : c = 0 := by
  obtain ⟨a1, a2, a3, a4, a5⟩ := h
  rw [List.drop_eq_nil_of_le hx, List.drop_eq_nil_of_le hy] at a3
  simp only [dv, Int.mul_zero, Int.add_zero] at a3
  have b1 := dv_nonneg a2
  have b2 := dv_lt a2
  rw [a1] at b2
  have hp := pow_pos' i
  by_cases e : c = 1
  · rw [e, Int.mul_one] at a3; omega
  · by_cases e2 : c = -1
    · rw [e2] at a3; omega
    · omega
theorem AddInv.done {sg : Int} {xs ys ds : List Int} {i : Nat} (h : AddInv sg xs ys ds i 0) (hx : xs.length ≤ i) (hy : ys.length ≤ i) : Dig ds ∧ ds.length = i ∧ dv ds = dv xs + sg * dv ys := by
  obtain ⟨a1, a2, a3, _, _⟩ := h
  rw [List.drop_eq_nil_of_le hx, List.drop_eq_nil_of_le hy] at a3
  simp only [dv, Int.mul_zero, Int.add_zero] at a3
  exact ⟨a2, a1, a3⟩
theorem sum_lt {xs ys : List Int} (hx : Dig xs) (hy : Dig ys) {i : Nat} (h1 : xs.length < i) (h2 : ys.length < i) : dv xs + 1 * dv ys < 10000 ^ i := by
  have a := dv_lt hx
  have b := dv_lt hy
  obtain ⟨j, rfl⟩ : ∃ j, i = j + 1 := ⟨i - 1, by omega⟩
  have c := pow_le_pow' (show xs.length ≤ j by omega)
  have d := pow_le_pow' (show ys.length ≤ j by omega)
  have e := pow_pos' j
  rw [Int.pow_succ]
  omega
theorem dif_lt {xs ys : List Int} (hx : Dig xs) (hy : Dig ys) {i : Nat} (h1 : xs.length < i) : dv xs + -1 * dv ys < 10000 ^ i := by
  have a := dv_lt hx
  have b := dv_nonneg hy
  have c := pow_le_pow' (show xs.length ≤ i by omega)
  omega
theorem set_app {ds : List Int} {m n i : Nat} {d : Int} (h : ds.length = i) (hm : n - i = m + 1) : (ds ++ List.replicate (n - i) 0).set i d = ds ++ [d] ++ List.replicate (n - (i + 1)) 0 := by
  rw [hm, List.replicate_succ, show n - (i + 1) = m by omega, List.set_append_right _ _ (by omega), h, Nat.sub_self, List.set_cons_zero, List.append_assoc]
  rfl
theorem at_app {ds : List Int} {n i : Nat} (h : ds.length = i) (hi : i < n) : (ds ++ List.replicate (n - i) 0)[i]? = some 0 := by
  rw [List.getElem?_append_right (by omega), h, Nat.sub_self, List.getElem?_replicate, if_pos (by omega)]
/-- What a slice of digits reads as, digit by digit. -/
def Cells (w : World) (A : Option Addr) (xs : List Int) : Prop := ∀ k, k < xs.length → ∃ g, A = some ⟨g, 0, none⟩ ∧ g < w.heap.size ∧ w.cell? ⟨g, k, none⟩ = some (.int .i64 (dig xs k))
theorem Holds.cells {w : World} {A : Option Addr} {c : Nat} {xs : List Int} (h : Holds w (.slice A xs.length c) xs) : Cells w A xs := fun _ hk => cell_dig h hk
/-- The address of a slice that is not empty. -/
theorem addr_of {w : World} {A : Option Addr} {c : Nat} {xs : List Int} (h : Holds w (.slice A xs.length c) xs) : (xs.length = 0) ∨ ∃ g, A = some ⟨g, 0, none⟩ ∧ g < w.heap.size ∧ ∀ k, k < xs.length → w.cell? ⟨g, k, none⟩ = some (.int .i64 (dig xs k)) := by
  by_cases h0 : xs.length = 0
  · exact .inl h0
  · obtain ⟨g, h1, h2, _, h3⟩ := cells_at h (by omega)
    exact .inr ⟨g, h1, h2, h3⟩
/-- The place of a slice's cells: block g; where the slice is empty, nothing is asked. -/
def At (w : World) (A : Option Addr) (g : Nat) (xs : List Int) : Prop := (0 < xs.length → A = some ⟨g, 0, none⟩ ∧ g < w.heap.size) ∧ ∀ k, k < xs.length → w.cell? ⟨g, k, none⟩ = some (.int .i64 (dig xs k))
set_option maxHeartbeats 8000000 in
theorem addLimbs_p (xs ys : List Int) (A A' : Option Addr) (cx cy : Nat) (w : World) (hA : Hid (Cells w A xs)) (hA' : Hid (Cells w A' ys)) (hlx : xs.length ≤ 100000) (hly : ys.length ≤ 100000) (hdx : Dig xs) (hdy : Dig ys) (h0 : 0 ≤ dv xs + 1 * dv ys) :
    Calls Try.prog 59 #[.slice A xs.length cx, .slice A' ys.length cy, .int .i64 (1)] w fun e w' => ∃ (ds : List Int) (A : Option Addr) (c : Nat), (Dig ds ∧ ds.length ≤ 100001 ∧ dv ds = dv xs + 1 * dv ys) ∧ e = .returned (.slice A ds.length c) ∧ Nums w' w.heap.size (.slice A ds.length c) ds ∧ Below w.heap.size w w' := by
  obtain ⟨i0, hi, hz0, hz1, hz2⟩ := info_parts infoInt
  have HD := Lib.hid hdx
  have HD' := Lib.hid hdy
  have HH := Lib.hid h0
  clear hdx hdy h0
  by_cases hxy : xs.length < ys.length
  · obtain ⟨n, hn, n1, n2, n3⟩ : ∃ n : Nat, ((n : Nat) : Int) = (ys.length : Int) + 1 ∧ xs.length < n ∧ ys.length < n ∧ n ≤ 100001 := ⟨ys.length + 1, by omega, by omega, by omega, by omega⟩
    have HN := Lib.hid hn
    clear hn
    go_enter Try.func59, Try.ntmps59
    go_wp2_with (at_make; refine wpList_make_full _ rfl _ _ 22 rfl w.heap.size 3 i0 (.int .i64 0) 1 underInts hi hz0 hz1 .i64 .i64 _ _ n rfl rfl (by have := HN.out; omega) (by have := HN.out; omega) (by rw [hz2]; omega) (by unfold maxLen; omega) (Nat.le_refl _) ?_; intro w1 hown hgrow)
    have n1' := Lib.hid (row_made hown)
    have b1' := Lib.hid ((Below.refl w.heap.size w).grown hgrow (Nat.le_refl _) (fun k h => by cases h))
    clear hown hgrow
    go_wp2
    go_loopw [8, 20] (fun cy t wr => ∃ (i : Nat) (ds : List Int) (c : Int), i ≤ n ∧ t = .int .i64 i ∧ cy = .int .i64 c ∧ Hid (AddInv (1) xs ys ds i c) ∧ Hid (Row wr w.heap.size w.heap.size n n (ds ++ List.replicate (n - i) 0)) ∧ Hid (Below w.heap.size w wr)) (fun _ t _ => n - (intOf t).toNat)
    case atStart => exact ⟨0, [], 0, by omega, rfl, rfl, AddInv.start _ _ _, n1', b1'⟩
    case round =>
      obtain ⟨i, ds, c, hin, rfl, rfl, HI, HR, HB⟩ := hrel
      by_cases hlt : i < n
      · obtain ⟨m, hm⟩ : ∃ m, n - i = m + 1 := ⟨n - i - 1, by omega⟩
        have HMm := Lib.hid hm
        clear hm
        have hc2 := HR.out.cell (at_app HI.out.1 hlt)
        have hf := HR.out.free i
        have hgs := HR.out.lt.2
        have c0 := HI.out.2.2.2.1
        have c1 := HI.out.2.2.2.2
        have b0 : (0 : Int) ≤ (i : Int) := by omega
        have b2 : (i : Int) < (n : Int) := by omega
        by_cases hx : i < xs.length
        · obtain ⟨gx, hxA, hxg, hxc⟩ := hA.out i hx
          have hcx : wr.cell? ⟨gx, i, none⟩ = some (.int .i64 (dig xs i)) := (HB.out.cell hxg).trans hxc
          have HXA := Lib.hid hxA
          clear hxA hxg hxc
          rw [HXA.out]
          have ux := HD.out.dig i
          by_cases hy : i < ys.length
          · obtain ⟨gy, hyA, hyg, hyc⟩ := hA'.out i hy
            have hcy : wr.cell? ⟨gy, i, none⟩ = some (.int .i64 (dig ys i)) := (HB.out.cell hyg).trans hyc
            have HYA := Lib.hid hyA
            clear hyA hyg hyc
            rw [HYA.out]
            have uy := HD'.out.dig i
            by_cases ht0 : c + dig xs i + dig ys i < 0
            · skip
              have HS := Lib.hid (HI.out.next (d := c + dig xs i + dig ys i + 10000) (c' := -1) (by omega) ⟨by omega, by omega⟩ (by omega) (by omega))
              have S1 := Lib.hid (HR.out.set i (c + dig xs i + dig ys i + 10000))
              rw [set_app HI.out.1 HMm.out] at S1
              have S2 := Lib.hid (HB.out.setCell (p := ⟨w.heap.size, i, none⟩) (Nat.le_refl _) (.int .i64 (c + dig xs i + dig ys i + 10000)))
              go_wp2
              go_roundw
              case rel => exact ⟨i + 1, _, _, by omega, by go_num, rfl, HS, S1, S2⟩
              case measure => simp [intOf]; omega
            · skip
              by_cases ht1 : 10000 ≤ c + dig xs i + dig ys i
              · skip
                have HS := Lib.hid (HI.out.next (d := c + dig xs i + dig ys i - 10000) (c' := 1) (by omega) ⟨by omega, by omega⟩ (by omega) (by omega))
                have S1 := Lib.hid (HR.out.set i (c + dig xs i + dig ys i - 10000))
                rw [set_app HI.out.1 HMm.out] at S1
                have S2 := Lib.hid (HB.out.setCell (p := ⟨w.heap.size, i, none⟩) (Nat.le_refl _) (.int .i64 (c + dig xs i + dig ys i - 10000)))
                go_wp2
                go_roundw
                case rel => exact ⟨i + 1, _, _, by omega, by go_num, rfl, HS, S1, S2⟩
                case measure => simp [intOf]; omega
              · skip
                have HS := Lib.hid (HI.out.next (d := c + dig xs i + dig ys i) (c' := 0) (by omega) ⟨by omega, by omega⟩ (by omega) (by omega))
                have S1 := Lib.hid (HR.out.set i (c + dig xs i + dig ys i))
                rw [set_app HI.out.1 HMm.out] at S1
                have S2 := Lib.hid (HB.out.setCell (p := ⟨w.heap.size, i, none⟩) (Nat.le_refl _) (.int .i64 (c + dig xs i + dig ys i)))
                go_wp2
                go_roundw
                case rel => exact ⟨i + 1, _, _, by omega, by go_num, rfl, HS, S1, S2⟩
                case measure => simp [intOf]; omega
          · have hdy0 := Lib.hid (dig_none (xs := ys) (k := i) (by omega))
            exfalso; omega
        · have hdx0 := Lib.hid (dig_none (xs := xs) (k := i) (by omega))
          have ux := HD.out.dig i
          by_cases hy : i < ys.length
          · obtain ⟨gy, hyA, hyg, hyc⟩ := hA'.out i hy
            have hcy : wr.cell? ⟨gy, i, none⟩ = some (.int .i64 (dig ys i)) := (HB.out.cell hyg).trans hyc
            have HYA := Lib.hid hyA
            clear hyA hyg hyc
            rw [HYA.out]
            have uy := HD'.out.dig i
            by_cases ht0 : c + dig ys i < 0
            · skip
              have HS := Lib.hid (HI.out.next (d := c + dig ys i + 10000) (c' := -1) (by have e1 := hdx0.out; omega) ⟨by omega, by omega⟩ (by omega) (by omega))
              have S1 := Lib.hid (HR.out.set i (c + dig ys i + 10000))
              rw [set_app HI.out.1 HMm.out] at S1
              have S2 := Lib.hid (HB.out.setCell (p := ⟨w.heap.size, i, none⟩) (Nat.le_refl _) (.int .i64 (c + dig ys i + 10000)))
              go_wp2
              go_roundw
              case rel => exact ⟨i + 1, _, _, by omega, by go_num, rfl, HS, S1, S2⟩
              case measure => simp [intOf]; omega
            · skip
              by_cases ht1 : 10000 ≤ c + dig ys i
              · skip
                have HS := Lib.hid (HI.out.next (d := c + dig ys i - 10000) (c' := 1) (by have e1 := hdx0.out; omega) ⟨by omega, by omega⟩ (by omega) (by omega))
                have S1 := Lib.hid (HR.out.set i (c + dig ys i - 10000))
                rw [set_app HI.out.1 HMm.out] at S1
                have S2 := Lib.hid (HB.out.setCell (p := ⟨w.heap.size, i, none⟩) (Nat.le_refl _) (.int .i64 (c + dig ys i - 10000)))
                go_wp2
                go_roundw
                case rel => exact ⟨i + 1, _, _, by omega, by go_num, rfl, HS, S1, S2⟩
                case measure => simp [intOf]; omega
              · skip
                have HS := Lib.hid (HI.out.next (d := c + dig ys i) (c' := 0) (by have e1 := hdx0.out; omega) ⟨by omega, by omega⟩ (by omega) (by omega))
                have S1 := Lib.hid (HR.out.set i (c + dig ys i))
                rw [set_app HI.out.1 HMm.out] at S1
                have S2 := Lib.hid (HB.out.setCell (p := ⟨w.heap.size, i, none⟩) (Nat.le_refl _) (.int .i64 (c + dig ys i)))
                go_wp2
                go_roundw
                case rel => exact ⟨i + 1, _, _, by omega, by go_num, rfl, HS, S1, S2⟩
                case measure => simp [intOf]; omega
          · have hdy0 := Lib.hid (dig_none (xs := ys) (k := i) (by omega))
            have uy := HD'.out.dig i
            by_cases ht0 : c < 0
            · skip
              have HS := Lib.hid (HI.out.next (d := c + 10000) (c' := -1) (by have e1 := hdx0.out; have e2 := hdy0.out; omega) ⟨by omega, by omega⟩ (by omega) (by omega))
              have S1 := Lib.hid (HR.out.set i (c + 10000))
              rw [set_app HI.out.1 HMm.out] at S1
              have S2 := Lib.hid (HB.out.setCell (p := ⟨w.heap.size, i, none⟩) (Nat.le_refl _) (.int .i64 (c + 10000)))
              go_wp2
              go_roundw
              case rel => exact ⟨i + 1, _, _, by omega, by go_num, rfl, HS, S1, S2⟩
              case measure => simp [intOf]; omega
            · skip
              by_cases ht1 : 10000 ≤ c
              · skip
                exfalso; omega
              · skip
                have HS := Lib.hid (HI.out.next (d := c) (c' := 0) (by have e1 := hdx0.out; have e2 := hdy0.out; omega) ⟨by omega, by omega⟩ (by omega) (by omega))
                have S1 := Lib.hid (HR.out.set i (c))
                rw [set_app HI.out.1 HMm.out] at S1
                have S2 := Lib.hid (HB.out.setCell (p := ⟨w.heap.size, i, none⟩) (Nat.le_refl _) (.int .i64 (c)))
                go_wp2
                go_roundw
                case rel => exact ⟨i + 1, _, _, by omega, by go_num, rfl, HS, S1, S2⟩
                case measure => simp [intOf]; omega
      · obtain rfl : i = n := by omega
        have hc0 := HI.out.zero (by omega) (by omega) HH.out (sum_lt HD.out HD'.out (by omega) (by omega))
        have HE := Lib.hid ((hc0 ▸ HI.out : AddInv (1) xs ys ds i 0).done (by omega) (by omega))
        have HR2 := Lib.hid HR.out.nums
        rw [Nat.sub_self, List.replicate_zero, List.append_nil] at HR2
        clear hc0
        go_wp2
        go_ret
        have hl := HE.out.2.1
        exact ⟨ds, _, _, ⟨HE.out.1, by omega, HE.out.2.2⟩, by rw [hl]; rfl, by rw [hl]; exact HR2.out, HB.out⟩
  · obtain ⟨n, hn, n1, n2, n3⟩ : ∃ n : Nat, ((n : Nat) : Int) = (xs.length : Int) + 1 ∧ xs.length < n ∧ ys.length < n ∧ n ≤ 100001 := ⟨xs.length + 1, by omega, by omega, by omega, by omega⟩
    have HN := Lib.hid hn
    clear hn
    go_enter Try.func59, Try.ntmps59
    go_wp2_with (at_make; refine wpList_make_full _ rfl _ _ 22 rfl w.heap.size 3 i0 (.int .i64 0) 1 underInts hi hz0 hz1 .i64 .i64 _ _ n rfl rfl (by have := HN.out; omega) (by have := HN.out; omega) (by rw [hz2]; omega) (by unfold maxLen; omega) (Nat.le_refl _) ?_; intro w1 hown hgrow)
    have n1' := Lib.hid (row_made hown)
    have b1' := Lib.hid ((Below.refl w.heap.size w).grown hgrow (Nat.le_refl _) (fun k h => by cases h))
    clear hown hgrow
    go_wp2
    go_loopw [8, 20] (fun cy t wr => ∃ (i : Nat) (ds : List Int) (c : Int), i ≤ n ∧ t = .int .i64 i ∧ cy = .int .i64 c ∧ Hid (AddInv (1) xs ys ds i c) ∧ Hid (Row wr w.heap.size w.heap.size n n (ds ++ List.replicate (n - i) 0)) ∧ Hid (Below w.heap.size w wr)) (fun _ t _ => n - (intOf t).toNat)
    case atStart => exact ⟨0, [], 0, by omega, rfl, rfl, AddInv.start _ _ _, n1', b1'⟩
    case round =>
      obtain ⟨i, ds, c, hin, rfl, rfl, HI, HR, HB⟩ := hrel
      by_cases hlt : i < n
      · obtain ⟨m, hm⟩ : ∃ m, n - i = m + 1 := ⟨n - i - 1, by omega⟩
        have HMm := Lib.hid hm
        clear hm
        have hc2 := HR.out.cell (at_app HI.out.1 hlt)
        have hf := HR.out.free i
        have hgs := HR.out.lt.2
        have c0 := HI.out.2.2.2.1
        have c1 := HI.out.2.2.2.2
        have b0 : (0 : Int) ≤ (i : Int) := by omega
        have b2 : (i : Int) < (n : Int) := by omega
        by_cases hx : i < xs.length
        · obtain ⟨gx, hxA, hxg, hxc⟩ := hA.out i hx
          have hcx : wr.cell? ⟨gx, i, none⟩ = some (.int .i64 (dig xs i)) := (HB.out.cell hxg).trans hxc
          have HXA := Lib.hid hxA
          clear hxA hxg hxc
          rw [HXA.out]
          have ux := HD.out.dig i
          by_cases hy : i < ys.length
          · obtain ⟨gy, hyA, hyg, hyc⟩ := hA'.out i hy
            have hcy : wr.cell? ⟨gy, i, none⟩ = some (.int .i64 (dig ys i)) := (HB.out.cell hyg).trans hyc
            have HYA := Lib.hid hyA
            clear hyA hyg hyc
            rw [HYA.out]
            have uy := HD'.out.dig i
            by_cases ht0 : c + dig xs i + dig ys i < 0
            · skip
              have HS := Lib.hid (HI.out.next (d := c + dig xs i + dig ys i + 10000) (c' := -1) (by omega) ⟨by omega, by omega⟩ (by omega) (by omega))
              have S1 := Lib.hid (HR.out.set i (c + dig xs i + dig ys i + 10000))
              rw [set_app HI.out.1 HMm.out] at S1
              have S2 := Lib.hid (HB.out.setCell (p := ⟨w.heap.size, i, none⟩) (Nat.le_refl _) (.int .i64 (c + dig xs i + dig ys i + 10000)))
              go_wp2
              go_roundw
              case rel => exact ⟨i + 1, _, _, by omega, by go_num, rfl, HS, S1, S2⟩
              case measure => simp [intOf]; omega
            · skip
              by_cases ht1 : 10000 ≤ c + dig xs i + dig ys i
              · skip
                have HS := Lib.hid (HI.out.next (d := c + dig xs i + dig ys i - 10000) (c' := 1) (by omega) ⟨by omega, by omega⟩ (by omega) (by omega))
                have S1 := Lib.hid (HR.out.set i (c + dig xs i + dig ys i - 10000))
                rw [set_app HI.out.1 HMm.out] at S1
                have S2 := Lib.hid (HB.out.setCell (p := ⟨w.heap.size, i, none⟩) (Nat.le_refl _) (.int .i64 (c + dig xs i + dig ys i - 10000)))
                go_wp2
                go_roundw
                case rel => exact ⟨i + 1, _, _, by omega, by go_num, rfl, HS, S1, S2⟩
                case measure => simp [intOf]; omega
              · skip
                have HS := Lib.hid (HI.out.next (d := c + dig xs i + dig ys i) (c' := 0) (by omega) ⟨by omega, by omega⟩ (by omega) (by omega))
                have S1 := Lib.hid (HR.out.set i (c + dig xs i + dig ys i))
                rw [set_app HI.out.1 HMm.out] at S1
                have S2 := Lib.hid (HB.out.setCell (p := ⟨w.heap.size, i, none⟩) (Nat.le_refl _) (.int .i64 (c + dig xs i + dig ys i)))
                go_wp2
                go_roundw
                case rel => exact ⟨i + 1, _, _, by omega, by go_num, rfl, HS, S1, S2⟩
                case measure => simp [intOf]; omega
          · have hdy0 := Lib.hid (dig_none (xs := ys) (k := i) (by omega))
            have uy := HD'.out.dig i
            by_cases ht0 : c + dig xs i < 0
            · skip
              have HS := Lib.hid (HI.out.next (d := c + dig xs i + 10000) (c' := -1) (by have e2 := hdy0.out; omega) ⟨by omega, by omega⟩ (by omega) (by omega))
              have S1 := Lib.hid (HR.out.set i (c + dig xs i + 10000))
              rw [set_app HI.out.1 HMm.out] at S1
              have S2 := Lib.hid (HB.out.setCell (p := ⟨w.heap.size, i, none⟩) (Nat.le_refl _) (.int .i64 (c + dig xs i + 10000)))
              go_wp2
              go_roundw
              case rel => exact ⟨i + 1, _, _, by omega, by go_num, rfl, HS, S1, S2⟩
              case measure => simp [intOf]; omega
            · skip
              by_cases ht1 : 10000 ≤ c + dig xs i
              · skip
                have HS := Lib.hid (HI.out.next (d := c + dig xs i - 10000) (c' := 1) (by have e2 := hdy0.out; omega) ⟨by omega, by omega⟩ (by omega) (by omega))
                have S1 := Lib.hid (HR.out.set i (c + dig xs i - 10000))
                rw [set_app HI.out.1 HMm.out] at S1
                have S2 := Lib.hid (HB.out.setCell (p := ⟨w.heap.size, i, none⟩) (Nat.le_refl _) (.int .i64 (c + dig xs i - 10000)))
                go_wp2
                go_roundw
                case rel => exact ⟨i + 1, _, _, by omega, by go_num, rfl, HS, S1, S2⟩
                case measure => simp [intOf]; omega
              · skip
                have HS := Lib.hid (HI.out.next (d := c + dig xs i) (c' := 0) (by have e2 := hdy0.out; omega) ⟨by omega, by omega⟩ (by omega) (by omega))
                have S1 := Lib.hid (HR.out.set i (c + dig xs i))
                rw [set_app HI.out.1 HMm.out] at S1
                have S2 := Lib.hid (HB.out.setCell (p := ⟨w.heap.size, i, none⟩) (Nat.le_refl _) (.int .i64 (c + dig xs i)))
                go_wp2
                go_roundw
                case rel => exact ⟨i + 1, _, _, by omega, by go_num, rfl, HS, S1, S2⟩
                case measure => simp [intOf]; omega
        · have hdx0 := Lib.hid (dig_none (xs := xs) (k := i) (by omega))
          have ux := HD.out.dig i
          by_cases hy : i < ys.length
          · obtain ⟨gy, hyA, hyg, hyc⟩ := hA'.out i hy
            have hcy : wr.cell? ⟨gy, i, none⟩ = some (.int .i64 (dig ys i)) := (HB.out.cell hyg).trans hyc
            have HYA := Lib.hid hyA
            clear hyA hyg hyc
            rw [HYA.out]
            exfalso; omega
          · have hdy0 := Lib.hid (dig_none (xs := ys) (k := i) (by omega))
            have uy := HD'.out.dig i
            by_cases ht0 : c < 0
            · skip
              have HS := Lib.hid (HI.out.next (d := c + 10000) (c' := -1) (by have e1 := hdx0.out; have e2 := hdy0.out; omega) ⟨by omega, by omega⟩ (by omega) (by omega))
              have S1 := Lib.hid (HR.out.set i (c + 10000))
              rw [set_app HI.out.1 HMm.out] at S1
              have S2 := Lib.hid (HB.out.setCell (p := ⟨w.heap.size, i, none⟩) (Nat.le_refl _) (.int .i64 (c + 10000)))
              go_wp2
              go_roundw
              case rel => exact ⟨i + 1, _, _, by omega, by go_num, rfl, HS, S1, S2⟩
              case measure => simp [intOf]; omega
            · skip
              by_cases ht1 : 10000 ≤ c
              · skip
                exfalso; omega
              · skip
                have HS := Lib.hid (HI.out.next (d := c) (c' := 0) (by have e1 := hdx0.out; have e2 := hdy0.out; omega) ⟨by omega, by omega⟩ (by omega) (by omega))
                have S1 := Lib.hid (HR.out.set i (c))
                rw [set_app HI.out.1 HMm.out] at S1
                have S2 := Lib.hid (HB.out.setCell (p := ⟨w.heap.size, i, none⟩) (Nat.le_refl _) (.int .i64 (c)))
                go_wp2
                go_roundw
                case rel => exact ⟨i + 1, _, _, by omega, by go_num, rfl, HS, S1, S2⟩
                case measure => simp [intOf]; omega
      · obtain rfl : i = n := by omega
        have hc0 := HI.out.zero (by omega) (by omega) HH.out (sum_lt HD.out HD'.out (by omega) (by omega))
        have HE := Lib.hid ((hc0 ▸ HI.out : AddInv (1) xs ys ds i 0).done (by omega) (by omega))
        have HR2 := Lib.hid HR.out.nums
        rw [Nat.sub_self, List.replicate_zero, List.append_nil] at HR2
        clear hc0
        go_wp2
        go_ret
        have hl := HE.out.2.1
        exact ⟨ds, _, _, ⟨HE.out.1, by omega, HE.out.2.2⟩, by rw [hl]; rfl, by rw [hl]; exact HR2.out, HB.out⟩
set_option maxHeartbeats 8000000 in
theorem addLimbs_m (xs ys : List Int) (A A' : Option Addr) (cx cy : Nat) (w : World) (hA : Hid (Cells w A xs)) (hA' : Hid (Cells w A' ys)) (hlx : xs.length ≤ 100000) (hly : ys.length ≤ 100000) (hdx : Dig xs) (hdy : Dig ys) (h0 : 0 ≤ dv xs + -1 * dv ys) :
    Calls Try.prog 59 #[.slice A xs.length cx, .slice A' ys.length cy, .int .i64 (-1)] w fun e w' => ∃ (ds : List Int) (A : Option Addr) (c : Nat), (Dig ds ∧ ds.length ≤ 100001 ∧ dv ds = dv xs + -1 * dv ys) ∧ e = .returned (.slice A ds.length c) ∧ Nums w' w.heap.size (.slice A ds.length c) ds ∧ Below w.heap.size w w' := by
  obtain ⟨i0, hi, hz0, hz1, hz2⟩ := info_parts infoInt
  have HD := Lib.hid hdx
  have HD' := Lib.hid hdy
  have HH := Lib.hid h0
  clear hdx hdy h0
  by_cases hxy : xs.length < ys.length
  · obtain ⟨n, hn, n1, n2, n3⟩ : ∃ n : Nat, ((n : Nat) : Int) = (ys.length : Int) + 1 ∧ xs.length < n ∧ ys.length < n ∧ n ≤ 100001 := ⟨ys.length + 1, by omega, by omega, by omega, by omega⟩
    have HN := Lib.hid hn
    clear hn
    go_enter Try.func59, Try.ntmps59
    go_wp2_with (at_make; refine wpList_make_full _ rfl _ _ 22 rfl w.heap.size 3 i0 (.int .i64 0) 1 underInts hi hz0 hz1 .i64 .i64 _ _ n rfl rfl (by have := HN.out; omega) (by have := HN.out; omega) (by rw [hz2]; omega) (by unfold maxLen; omega) (Nat.le_refl _) ?_; intro w1 hown hgrow)
    have n1' := Lib.hid (row_made hown)
    have b1' := Lib.hid ((Below.refl w.heap.size w).grown hgrow (Nat.le_refl _) (fun k h => by cases h))
    clear hown hgrow
    go_wp2
    go_loopw [8, 20] (fun cy t wr => ∃ (i : Nat) (ds : List Int) (c : Int), i ≤ n ∧ t = .int .i64 i ∧ cy = .int .i64 c ∧ Hid (AddInv (-1) xs ys ds i c) ∧ Hid (Row wr w.heap.size w.heap.size n n (ds ++ List.replicate (n - i) 0)) ∧ Hid (Below w.heap.size w wr)) (fun _ t _ => n - (intOf t).toNat)
    case atStart => exact ⟨0, [], 0, by omega, rfl, rfl, AddInv.start _ _ _, n1', b1'⟩
    case round =>
      obtain ⟨i, ds, c, hin, rfl, rfl, HI, HR, HB⟩ := hrel
      by_cases hlt : i < n
      · obtain ⟨m, hm⟩ : ∃ m, n - i = m + 1 := ⟨n - i - 1, by omega⟩
        have HMm := Lib.hid hm
        clear hm
        have hc2 := HR.out.cell (at_app HI.out.1 hlt)
        have hf := HR.out.free i
        have hgs := HR.out.lt.2
        have c0 := HI.out.2.2.2.1
        have c1 := HI.out.2.2.2.2
        have b0 : (0 : Int) ≤ (i : Int) := by omega
        have b2 : (i : Int) < (n : Int) := by omega
        by_cases hx : i < xs.length
        · obtain ⟨gx, hxA, hxg, hxc⟩ := hA.out i hx
          have hcx : wr.cell? ⟨gx, i, none⟩ = some (.int .i64 (dig xs i)) := (HB.out.cell hxg).trans hxc
          have HXA := Lib.hid hxA
          clear hxA hxg hxc
          rw [HXA.out]
          have ux := HD.out.dig i
          by_cases hy : i < ys.length
          · obtain ⟨gy, hyA, hyg, hyc⟩ := hA'.out i hy
            have hcy : wr.cell? ⟨gy, i, none⟩ = some (.int .i64 (dig ys i)) := (HB.out.cell hyg).trans hyc
            have HYA := Lib.hid hyA
            clear hyA hyg hyc
            rw [HYA.out]
            have uy := HD'.out.dig i
            by_cases ht0 : c + dig xs i + -dig ys i < 0
            · skip
              have HS := Lib.hid (HI.out.next (d := c + dig xs i + -dig ys i + 10000) (c' := -1) (by omega) ⟨by omega, by omega⟩ (by omega) (by omega))
              have S1 := Lib.hid (HR.out.set i (c + dig xs i + -dig ys i + 10000))
              rw [set_app HI.out.1 HMm.out] at S1
              have S2 := Lib.hid (HB.out.setCell (p := ⟨w.heap.size, i, none⟩) (Nat.le_refl _) (.int .i64 (c + dig xs i + -dig ys i + 10000)))
              go_wp2
              go_roundw
              case rel => exact ⟨i + 1, _, _, by omega, by go_num, rfl, HS, S1, S2⟩
              case measure => simp [intOf]; omega
            · skip
              by_cases ht1 : 10000 ≤ c + dig xs i + -dig ys i
              · skip
                have HS := Lib.hid (HI.out.next (d := c + dig xs i + -dig ys i - 10000) (c' := 1) (by omega) ⟨by omega, by omega⟩ (by omega) (by omega))
                have S1 := Lib.hid (HR.out.set i (c + dig xs i + -dig ys i - 10000))
                rw [set_app HI.out.1 HMm.out] at S1
                have S2 := Lib.hid (HB.out.setCell (p := ⟨w.heap.size, i, none⟩) (Nat.le_refl _) (.int .i64 (c + dig xs i + -dig ys i - 10000)))
                go_wp2
                go_roundw
                case rel => exact ⟨i + 1, _, _, by omega, by go_num, rfl, HS, S1, S2⟩
                case measure => simp [intOf]; omega
              · skip
                have HS := Lib.hid (HI.out.next (d := c + dig xs i + -dig ys i) (c' := 0) (by omega) ⟨by omega, by omega⟩ (by omega) (by omega))
                have S1 := Lib.hid (HR.out.set i (c + dig xs i + -dig ys i))
                rw [set_app HI.out.1 HMm.out] at S1
                have S2 := Lib.hid (HB.out.setCell (p := ⟨w.heap.size, i, none⟩) (Nat.le_refl _) (.int .i64 (c + dig xs i + -dig ys i)))
                go_wp2
                go_roundw
                case rel => exact ⟨i + 1, _, _, by omega, by go_num, rfl, HS, S1, S2⟩
                case measure => simp [intOf]; omega
          · have hdy0 := Lib.hid (dig_none (xs := ys) (k := i) (by omega))
            exfalso; omega
        · have hdx0 := Lib.hid (dig_none (xs := xs) (k := i) (by omega))
          have ux := HD.out.dig i
          by_cases hy : i < ys.length
          · obtain ⟨gy, hyA, hyg, hyc⟩ := hA'.out i hy
            have hcy : wr.cell? ⟨gy, i, none⟩ = some (.int .i64 (dig ys i)) := (HB.out.cell hyg).trans hyc
            have HYA := Lib.hid hyA
            clear hyA hyg hyc
            rw [HYA.out]
            have uy := HD'.out.dig i
            by_cases ht0 : c + -dig ys i < 0
            · skip
              have HS := Lib.hid (HI.out.next (d := c + -dig ys i + 10000) (c' := -1) (by have e1 := hdx0.out; omega) ⟨by omega, by omega⟩ (by omega) (by omega))
              have S1 := Lib.hid (HR.out.set i (c + -dig ys i + 10000))
              rw [set_app HI.out.1 HMm.out] at S1
              have S2 := Lib.hid (HB.out.setCell (p := ⟨w.heap.size, i, none⟩) (Nat.le_refl _) (.int .i64 (c + -dig ys i + 10000)))
              go_wp2
              go_roundw
              case rel => exact ⟨i + 1, _, _, by omega, by go_num, rfl, HS, S1, S2⟩
              case measure => simp [intOf]; omega
            · skip
              by_cases ht1 : 10000 ≤ c + -dig ys i
              · skip
                exfalso; omega
              · skip
                have HS := Lib.hid (HI.out.next (d := c + -dig ys i) (c' := 0) (by have e1 := hdx0.out; omega) ⟨by omega, by omega⟩ (by omega) (by omega))
                have S1 := Lib.hid (HR.out.set i (c + -dig ys i))
                rw [set_app HI.out.1 HMm.out] at S1
                have S2 := Lib.hid (HB.out.setCell (p := ⟨w.heap.size, i, none⟩) (Nat.le_refl _) (.int .i64 (c + -dig ys i)))
                go_wp2
                go_roundw
                case rel => exact ⟨i + 1, _, _, by omega, by go_num, rfl, HS, S1, S2⟩
                case measure => simp [intOf]; omega
          · have hdy0 := Lib.hid (dig_none (xs := ys) (k := i) (by omega))
            have uy := HD'.out.dig i
            by_cases ht0 : c < 0
            · skip
              have HS := Lib.hid (HI.out.next (d := c + 10000) (c' := -1) (by have e1 := hdx0.out; have e2 := hdy0.out; omega) ⟨by omega, by omega⟩ (by omega) (by omega))
              have S1 := Lib.hid (HR.out.set i (c + 10000))
              rw [set_app HI.out.1 HMm.out] at S1
              have S2 := Lib.hid (HB.out.setCell (p := ⟨w.heap.size, i, none⟩) (Nat.le_refl _) (.int .i64 (c + 10000)))
              go_wp2
              go_roundw
              case rel => exact ⟨i + 1, _, _, by omega, by go_num, rfl, HS, S1, S2⟩
              case measure => simp [intOf]; omega
            · skip
              by_cases ht1 : 10000 ≤ c
              · skip
                exfalso; omega
              · skip
                have HS := Lib.hid (HI.out.next (d := c) (c' := 0) (by have e1 := hdx0.out; have e2 := hdy0.out; omega) ⟨by omega, by omega⟩ (by omega) (by omega))
                have S1 := Lib.hid (HR.out.set i (c))
                rw [set_app HI.out.1 HMm.out] at S1
                have S2 := Lib.hid (HB.out.setCell (p := ⟨w.heap.size, i, none⟩) (Nat.le_refl _) (.int .i64 (c)))
                go_wp2
                go_roundw
                case rel => exact ⟨i + 1, _, _, by omega, by go_num, rfl, HS, S1, S2⟩
                case measure => simp [intOf]; omega
      · obtain rfl : i = n := by omega
        have hc0 := HI.out.zero (by omega) (by omega) HH.out (dif_lt HD.out HD'.out (by omega))
        have HE := Lib.hid ((hc0 ▸ HI.out : AddInv (-1) xs ys ds i 0).done (by omega) (by omega))
        have HR2 := Lib.hid HR.out.nums
        rw [Nat.sub_self, List.replicate_zero, List.append_nil] at HR2
        clear hc0
        go_wp2
        go_ret
        have hl := HE.out.2.1
        exact ⟨ds, _, _, ⟨HE.out.1, by omega, HE.out.2.2⟩, by rw [hl]; rfl, by rw [hl]; exact HR2.out, HB.out⟩
  · obtain ⟨n, hn, n1, n2, n3⟩ : ∃ n : Nat, ((n : Nat) : Int) = (xs.length : Int) + 1 ∧ xs.length < n ∧ ys.length < n ∧ n ≤ 100001 := ⟨xs.length + 1, by omega, by omega, by omega, by omega⟩
    have HN := Lib.hid hn
    clear hn
    go_enter Try.func59, Try.ntmps59
    go_wp2_with (at_make; refine wpList_make_full _ rfl _ _ 22 rfl w.heap.size 3 i0 (.int .i64 0) 1 underInts hi hz0 hz1 .i64 .i64 _ _ n rfl rfl (by have := HN.out; omega) (by have := HN.out; omega) (by rw [hz2]; omega) (by unfold maxLen; omega) (Nat.le_refl _) ?_; intro w1 hown hgrow)
    have n1' := Lib.hid (row_made hown)
    have b1' := Lib.hid ((Below.refl w.heap.size w).grown hgrow (Nat.le_refl _) (fun k h => by cases h))
    clear hown hgrow
    go_wp2
    go_loopw [8, 20] (fun cy t wr => ∃ (i : Nat) (ds : List Int) (c : Int), i ≤ n ∧ t = .int .i64 i ∧ cy = .int .i64 c ∧ Hid (AddInv (-1) xs ys ds i c) ∧ Hid (Row wr w.heap.size w.heap.size n n (ds ++ List.replicate (n - i) 0)) ∧ Hid (Below w.heap.size w wr)) (fun _ t _ => n - (intOf t).toNat)
    case atStart => exact ⟨0, [], 0, by omega, rfl, rfl, AddInv.start _ _ _, n1', b1'⟩
    case round =>
      obtain ⟨i, ds, c, hin, rfl, rfl, HI, HR, HB⟩ := hrel
      by_cases hlt : i < n
      · obtain ⟨m, hm⟩ : ∃ m, n - i = m + 1 := ⟨n - i - 1, by omega⟩
        have HMm := Lib.hid hm
        clear hm
        have hc2 := HR.out.cell (at_app HI.out.1 hlt)
        have hf := HR.out.free i
        have hgs := HR.out.lt.2
        have c0 := HI.out.2.2.2.1
        have c1 := HI.out.2.2.2.2
        have b0 : (0 : Int) ≤ (i : Int) := by omega
        have b2 : (i : Int) < (n : Int) := by omega
        by_cases hx : i < xs.length
        · obtain ⟨gx, hxA, hxg, hxc⟩ := hA.out i hx
          have hcx : wr.cell? ⟨gx, i, none⟩ = some (.int .i64 (dig xs i)) := (HB.out.cell hxg).trans hxc
          have HXA := Lib.hid hxA
          clear hxA hxg hxc
          rw [HXA.out]
          have ux := HD.out.dig i
          by_cases hy : i < ys.length
          · obtain ⟨gy, hyA, hyg, hyc⟩ := hA'.out i hy
            have hcy : wr.cell? ⟨gy, i, none⟩ = some (.int .i64 (dig ys i)) := (HB.out.cell hyg).trans hyc
            have HYA := Lib.hid hyA
            clear hyA hyg hyc
            rw [HYA.out]
            have uy := HD'.out.dig i
            by_cases ht0 : c + dig xs i + -dig ys i < 0
            · skip
              have HS := Lib.hid (HI.out.next (d := c + dig xs i + -dig ys i + 10000) (c' := -1) (by omega) ⟨by omega, by omega⟩ (by omega) (by omega))
              have S1 := Lib.hid (HR.out.set i (c + dig xs i + -dig ys i + 10000))
              rw [set_app HI.out.1 HMm.out] at S1
              have S2 := Lib.hid (HB.out.setCell (p := ⟨w.heap.size, i, none⟩) (Nat.le_refl _) (.int .i64 (c + dig xs i + -dig ys i + 10000)))
              go_wp2
              go_roundw
              case rel => exact ⟨i + 1, _, _, by omega, by go_num, rfl, HS, S1, S2⟩
              case measure => simp [intOf]; omega
            · skip
              by_cases ht1 : 10000 ≤ c + dig xs i + -dig ys i
              · skip
                have HS := Lib.hid (HI.out.next (d := c + dig xs i + -dig ys i - 10000) (c' := 1) (by omega) ⟨by omega, by omega⟩ (by omega) (by omega))
                have S1 := Lib.hid (HR.out.set i (c + dig xs i + -dig ys i - 10000))
                rw [set_app HI.out.1 HMm.out] at S1
                have S2 := Lib.hid (HB.out.setCell (p := ⟨w.heap.size, i, none⟩) (Nat.le_refl _) (.int .i64 (c + dig xs i + -dig ys i - 10000)))
                go_wp2
                go_roundw
                case rel => exact ⟨i + 1, _, _, by omega, by go_num, rfl, HS, S1, S2⟩
                case measure => simp [intOf]; omega
              · skip
                have HS := Lib.hid (HI.out.next (d := c + dig xs i + -dig ys i) (c' := 0) (by omega) ⟨by omega, by omega⟩ (by omega) (by omega))
                have S1 := Lib.hid (HR.out.set i (c + dig xs i + -dig ys i))
                rw [set_app HI.out.1 HMm.out] at S1
                have S2 := Lib.hid (HB.out.setCell (p := ⟨w.heap.size, i, none⟩) (Nat.le_refl _) (.int .i64 (c + dig xs i + -dig ys i)))
                go_wp2
                go_roundw
                case rel => exact ⟨i + 1, _, _, by omega, by go_num, rfl, HS, S1, S2⟩
                case measure => simp [intOf]; omega
          · have hdy0 := Lib.hid (dig_none (xs := ys) (k := i) (by omega))
            have uy := HD'.out.dig i
            by_cases ht0 : c + dig xs i < 0
            · skip
              have HS := Lib.hid (HI.out.next (d := c + dig xs i + 10000) (c' := -1) (by have e2 := hdy0.out; omega) ⟨by omega, by omega⟩ (by omega) (by omega))
              have S1 := Lib.hid (HR.out.set i (c + dig xs i + 10000))
              rw [set_app HI.out.1 HMm.out] at S1
              have S2 := Lib.hid (HB.out.setCell (p := ⟨w.heap.size, i, none⟩) (Nat.le_refl _) (.int .i64 (c + dig xs i + 10000)))
              go_wp2
              go_roundw
              case rel => exact ⟨i + 1, _, _, by omega, by go_num, rfl, HS, S1, S2⟩
              case measure => simp [intOf]; omega
            · skip
              by_cases ht1 : 10000 ≤ c + dig xs i
              · skip
                have HS := Lib.hid (HI.out.next (d := c + dig xs i - 10000) (c' := 1) (by have e2 := hdy0.out; omega) ⟨by omega, by omega⟩ (by omega) (by omega))
                have S1 := Lib.hid (HR.out.set i (c + dig xs i - 10000))
                rw [set_app HI.out.1 HMm.out] at S1
                have S2 := Lib.hid (HB.out.setCell (p := ⟨w.heap.size, i, none⟩) (Nat.le_refl _) (.int .i64 (c + dig xs i - 10000)))
                go_wp2
                go_roundw
                case rel => exact ⟨i + 1, _, _, by omega, by go_num, rfl, HS, S1, S2⟩
                case measure => simp [intOf]; omega
              · skip
                have HS := Lib.hid (HI.out.next (d := c + dig xs i) (c' := 0) (by have e2 := hdy0.out; omega) ⟨by omega, by omega⟩ (by omega) (by omega))
                have S1 := Lib.hid (HR.out.set i (c + dig xs i))
                rw [set_app HI.out.1 HMm.out] at S1
                have S2 := Lib.hid (HB.out.setCell (p := ⟨w.heap.size, i, none⟩) (Nat.le_refl _) (.int .i64 (c + dig xs i)))
                go_wp2
                go_roundw
                case rel => exact ⟨i + 1, _, _, by omega, by go_num, rfl, HS, S1, S2⟩
                case measure => simp [intOf]; omega
        · have hdx0 := Lib.hid (dig_none (xs := xs) (k := i) (by omega))
          have ux := HD.out.dig i
          by_cases hy : i < ys.length
          · obtain ⟨gy, hyA, hyg, hyc⟩ := hA'.out i hy
            have hcy : wr.cell? ⟨gy, i, none⟩ = some (.int .i64 (dig ys i)) := (HB.out.cell hyg).trans hyc
            have HYA := Lib.hid hyA
            clear hyA hyg hyc
            rw [HYA.out]
            exfalso; omega
          · have hdy0 := Lib.hid (dig_none (xs := ys) (k := i) (by omega))
            have uy := HD'.out.dig i
            by_cases ht0 : c < 0
            · skip
              have HS := Lib.hid (HI.out.next (d := c + 10000) (c' := -1) (by have e1 := hdx0.out; have e2 := hdy0.out; omega) ⟨by omega, by omega⟩ (by omega) (by omega))
              have S1 := Lib.hid (HR.out.set i (c + 10000))
              rw [set_app HI.out.1 HMm.out] at S1
              have S2 := Lib.hid (HB.out.setCell (p := ⟨w.heap.size, i, none⟩) (Nat.le_refl _) (.int .i64 (c + 10000)))
              go_wp2
              go_roundw
              case rel => exact ⟨i + 1, _, _, by omega, by go_num, rfl, HS, S1, S2⟩
              case measure => simp [intOf]; omega
            · skip
              by_cases ht1 : 10000 ≤ c
              · skip
                exfalso; omega
              · skip
                have HS := Lib.hid (HI.out.next (d := c) (c' := 0) (by have e1 := hdx0.out; have e2 := hdy0.out; omega) ⟨by omega, by omega⟩ (by omega) (by omega))
                have S1 := Lib.hid (HR.out.set i (c))
                rw [set_app HI.out.1 HMm.out] at S1
                have S2 := Lib.hid (HB.out.setCell (p := ⟨w.heap.size, i, none⟩) (Nat.le_refl _) (.int .i64 (c)))
                go_wp2
                go_roundw
                case rel => exact ⟨i + 1, _, _, by omega, by go_num, rfl, HS, S1, S2⟩
                case measure => simp [intOf]; omega
      · obtain rfl : i = n := by omega
        have hc0 := HI.out.zero (by omega) (by omega) HH.out (dif_lt HD.out HD'.out (by omega))
        have HE := Lib.hid ((hc0 ▸ HI.out : AddInv (-1) xs ys ds i 0).done (by omega) (by omega))
        have HR2 := Lib.hid HR.out.nums
        rw [Nat.sub_self, List.replicate_zero, List.append_nil] at HR2
        clear hc0
        go_wp2
        go_ret
        have hl := HE.out.2.1
        exact ⟨ds, _, _, ⟨HE.out.1, by omega, HE.out.2.2⟩, by rw [hl]; rfl, by rw [hl]; exact HR2.out, HB.out⟩
end Go.Proofs.Ytcplelcblfjpoaa
