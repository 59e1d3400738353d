/- Contract of spec.bgCombine. -/
import Derived.Test.YtcplelcblfjpoaaWhAdd
namespace Go.Proofs.Ytcplelcblfjpoaa
open Go.RowKit
set_option linter.unusedVariables false
set_option linter.unusedSimpArgs false
set_option maxHeartbeats 8000000 in
theorem bgCombine_p (xs ys : List Int) {A A' : Option Addr} {cx cy : Nat} {w : World} (h : Holds w (.slice A xs.length cx) xs) (h' : Holds w (.slice A' ys.length cy) ys) (hlx : xs.length ≤ 100000) (hly : ys.length ≤ 100000) (hdx : Dig xs) (hdy : Dig ys) (h0 : 0 ≤ dv xs + 1 * dv ys) :
    Calls Try.prog 56 #[.slice A xs.length cx, .slice A' ys.length cy, .int .i64 (1)] w fun e w' => ∃ (ds : List Int) (A : Option Addr) (c : Nat), (Dig ds ∧ ds.length ≤ 100001 ∧ dv ds = dv xs + 1 * dv ys) ∧ e = .returned (.slice A ds.length c) ∧ Nums w' w.heap.size (.slice A ds.length c) ds ∧ Below w.heap.size w w' := by
  obtain ⟨i0, hi, hz0, hz1, hz2⟩ := info_parts infoInt
  have HD := Lib.hid hdx
  have HD' := Lib.hid hdy
  have HH := Lib.hid h0
  have H := Lib.hid h
  have H' := Lib.hid h'
  clear hdx hdy h0 h h'
  obtain ⟨n, n1, n2, n3⟩ : ∃ n : Nat, xs.length < n ∧ ys.length < n ∧ n ≤ 100001 := ⟨max xs.length ys.length + 1, by omega, by omega, by omega⟩
  go_enter Try.func56, Try.ntmps56
  go_wp2
  go_loopw [7, 8, 9] (fun v cy t wr => ∃ (i : Nat) (ds : List Int) (c : Int), i ≤ n ∧ t = .int .i64 i ∧ cy = .int .i64 c ∧ Hid (AddInv (1) xs ys ds i c) ∧ Hid (Nums wr w.heap.size v ds) ∧ Hid (Below w.heap.size w wr)) (fun _ _ t _ => n - (intOf t).toNat)
  case atStart => exact ⟨0, [], 0, by omega, rfl, rfl, AddInv.start _ _ _, Nums.nil _ _, Below.refl _ _⟩
  case round =>
    obtain ⟨i, ds, c, hin, rfl, rfl, HI, HN, HB⟩ := hrel
    have hsz := HB.out.size
    have hlen := HI.out.1
    have HLn := Lib.hid hlen
    clear hlen
    have hlen : ds.length ≤ 100001 := by have := HLn.out; omega
    have HO := Lib.hid (show wr.ownsRow w.heap.size 3 1 _ ds.length (ds.map (Value.int .i64)) from HN.out)
    have c0 := HI.out.2.2.2.1
    have c1 := HI.out.2.2.2.2
    have b0 : (0 : Int) ≤ (i : Int) := by omega
    have ux := HD.out.dig i
    have uy := HD'.out.dig i
    by_cases hx : i < xs.length
    · have hi2 : i < n := by omega
      by_cases ht0 : dig xs i + dig ys i + c < 0
      · skip
        have HS := Lib.hid (HI.out.next (d := dig xs i + dig ys i + c + 10000) (c' := -1) (by omega) ⟨by omega, by omega⟩ (by omega) (by omega))
        go_wp2_with (first | (go_at_call 42; (with_reducible refine (bgLimb_any (H.out.below HB.out) (by omega) (by omega)).mono ?_); rintro e w' ⟨rfl, rfl⟩) | (go_at_call 42; (with_reducible refine (bgLimb_any (H'.out.below HB.out) (by omega) (by omega)).mono ?_); rintro e w' ⟨rfl, rfl⟩) | (at_builtin; refine wpList_append_own _ rfl _ _ 22 rfl w.heap.size 3 i0 (.int .i64 0) 1 8 underInts hi hz0 hz1 hz2 rfl (by decide) _ _ _ rfl (World.ownsRow.alloc HO.out _) ⟨wr.heap.size, 0, none⟩ 1 1 [.int .i64 (dig xs i + dig ys i + c + 10000)] rfl rfl (one_at _ _ rfl) (one_cell _) (by unfold maxLen; omega) (by omega) (by simp; omega) ?_; intro v' w1 hown' hgrow _))
        have R := nums_step HN.out HB.out (Nat.le_refl _) (by omega) hown' hgrow
        have R1 := Lib.hid R.1
        have R2 := Lib.hid R.2
        clear R hown' hgrow
        go_wp2
        go_roundw
        case rel => exact ⟨i + 1, _, _, by omega, by go_num, rfl, HS, R1, R2⟩
        case measure => simp [intOf]; omega
      · skip
        by_cases ht1 : 10000 ≤ dig xs i + dig ys i + c
        · skip
          have HS := Lib.hid (HI.out.next (d := dig xs i + dig ys i + c - 10000) (c' := 1) (by omega) ⟨by omega, by omega⟩ (by omega) (by omega))
          go_wp2_with (first | (go_at_call 42; (with_reducible refine (bgLimb_any (H.out.below HB.out) (by omega) (by omega)).mono ?_); rintro e w' ⟨rfl, rfl⟩) | (go_at_call 42; (with_reducible refine (bgLimb_any (H'.out.below HB.out) (by omega) (by omega)).mono ?_); rintro e w' ⟨rfl, rfl⟩) | (at_builtin; refine wpList_append_own _ rfl _ _ 22 rfl w.heap.size 3 i0 (.int .i64 0) 1 8 underInts hi hz0 hz1 hz2 rfl (by decide) _ _ _ rfl (World.ownsRow.alloc HO.out _) ⟨wr.heap.size, 0, none⟩ 1 1 [.int .i64 (dig xs i + dig ys i + c - 10000)] rfl rfl (one_at _ _ rfl) (one_cell _) (by unfold maxLen; omega) (by omega) (by simp; omega) ?_; intro v' w1 hown' hgrow _))
          have R := nums_step HN.out HB.out (Nat.le_refl _) (by omega) hown' hgrow
          have R1 := Lib.hid R.1
          have R2 := Lib.hid R.2
          clear R hown' hgrow
          go_wp2
          go_roundw
          case rel => exact ⟨i + 1, _, _, by omega, by go_num, rfl, HS, R1, R2⟩
          case measure => simp [intOf]; omega
        · skip
          have HS := Lib.hid (HI.out.next (d := dig xs i + dig ys i + c) (c' := 0) (by omega) ⟨by omega, by omega⟩ (by omega) (by omega))
          go_wp2_with (first | (go_at_call 42; (with_reducible refine (bgLimb_any (H.out.below HB.out) (by omega) (by omega)).mono ?_); rintro e w' ⟨rfl, rfl⟩) | (go_at_call 42; (with_reducible refine (bgLimb_any (H'.out.below HB.out) (by omega) (by omega)).mono ?_); rintro e w' ⟨rfl, rfl⟩) | (at_builtin; refine wpList_append_own _ rfl _ _ 22 rfl w.heap.size 3 i0 (.int .i64 0) 1 8 underInts hi hz0 hz1 hz2 rfl (by decide) _ _ _ rfl (World.ownsRow.alloc HO.out _) ⟨wr.heap.size, 0, none⟩ 1 1 [.int .i64 (dig xs i + dig ys i + c)] rfl rfl (one_at _ _ rfl) (one_cell _) (by unfold maxLen; omega) (by omega) (by simp; omega) ?_; intro v' w1 hown' hgrow _))
          have R := nums_step HN.out HB.out (Nat.le_refl _) (by omega) hown' hgrow
          have R1 := Lib.hid R.1
          have R2 := Lib.hid R.2
          clear R hown' hgrow
          go_wp2
          go_roundw
          case rel => exact ⟨i + 1, _, _, by omega, by go_num, rfl, HS, R1, R2⟩
          case measure => simp [intOf]; omega
    · by_cases hy : i < ys.length
      · have hi2 : i < n := by omega
        by_cases ht0 : dig xs i + dig ys i + c < 0
        · skip
          have HS := Lib.hid (HI.out.next (d := dig xs i + dig ys i + c + 10000) (c' := -1) (by omega) ⟨by omega, by omega⟩ (by omega) (by omega))
          go_wp2_with (first | (go_at_call 42; (with_reducible refine (bgLimb_any (H.out.below HB.out) (by omega) (by omega)).mono ?_); rintro e w' ⟨rfl, rfl⟩) | (go_at_call 42; (with_reducible refine (bgLimb_any (H'.out.below HB.out) (by omega) (by omega)).mono ?_); rintro e w' ⟨rfl, rfl⟩) | (at_builtin; refine wpList_append_own _ rfl _ _ 22 rfl w.heap.size 3 i0 (.int .i64 0) 1 8 underInts hi hz0 hz1 hz2 rfl (by decide) _ _ _ rfl (World.ownsRow.alloc HO.out _) ⟨wr.heap.size, 0, none⟩ 1 1 [.int .i64 (dig xs i + dig ys i + c + 10000)] rfl rfl (one_at _ _ rfl) (one_cell _) (by unfold maxLen; omega) (by omega) (by simp; omega) ?_; intro v' w1 hown' hgrow _))
          have R := nums_step HN.out HB.out (Nat.le_refl _) (by omega) hown' hgrow
          have R1 := Lib.hid R.1
          have R2 := Lib.hid R.2
          clear R hown' hgrow
          go_wp2
          go_roundw
          case rel => exact ⟨i + 1, _, _, by omega, by go_num, rfl, HS, R1, R2⟩
          case measure => simp [intOf]; omega
        · skip
          by_cases ht1 : 10000 ≤ dig xs i + dig ys i + c
          · skip
            have HS := Lib.hid (HI.out.next (d := dig xs i + dig ys i + c - 10000) (c' := 1) (by omega) ⟨by omega, by omega⟩ (by omega) (by omega))
            go_wp2_with (first | (go_at_call 42; (with_reducible refine (bgLimb_any (H.out.below HB.out) (by omega) (by omega)).mono ?_); rintro e w' ⟨rfl, rfl⟩) | (go_at_call 42; (with_reducible refine (bgLimb_any (H'.out.below HB.out) (by omega) (by omega)).mono ?_); rintro e w' ⟨rfl, rfl⟩) | (at_builtin; refine wpList_append_own _ rfl _ _ 22 rfl w.heap.size 3 i0 (.int .i64 0) 1 8 underInts hi hz0 hz1 hz2 rfl (by decide) _ _ _ rfl (World.ownsRow.alloc HO.out _) ⟨wr.heap.size, 0, none⟩ 1 1 [.int .i64 (dig xs i + dig ys i + c - 10000)] rfl rfl (one_at _ _ rfl) (one_cell _) (by unfold maxLen; omega) (by omega) (by simp; omega) ?_; intro v' w1 hown' hgrow _))
            have R := nums_step HN.out HB.out (Nat.le_refl _) (by omega) hown' hgrow
            have R1 := Lib.hid R.1
            have R2 := Lib.hid R.2
            clear R hown' hgrow
            go_wp2
            go_roundw
            case rel => exact ⟨i + 1, _, _, by omega, by go_num, rfl, HS, R1, R2⟩
            case measure => simp [intOf]; omega
          · skip
            have HS := Lib.hid (HI.out.next (d := dig xs i + dig ys i + c) (c' := 0) (by omega) ⟨by omega, by omega⟩ (by omega) (by omega))
            go_wp2_with (first | (go_at_call 42; (with_reducible refine (bgLimb_any (H.out.below HB.out) (by omega) (by omega)).mono ?_); rintro e w' ⟨rfl, rfl⟩) | (go_at_call 42; (with_reducible refine (bgLimb_any (H'.out.below HB.out) (by omega) (by omega)).mono ?_); rintro e w' ⟨rfl, rfl⟩) | (at_builtin; refine wpList_append_own _ rfl _ _ 22 rfl w.heap.size 3 i0 (.int .i64 0) 1 8 underInts hi hz0 hz1 hz2 rfl (by decide) _ _ _ rfl (World.ownsRow.alloc HO.out _) ⟨wr.heap.size, 0, none⟩ 1 1 [.int .i64 (dig xs i + dig ys i + c)] rfl rfl (one_at _ _ rfl) (one_cell _) (by unfold maxLen; omega) (by omega) (by simp; omega) ?_; intro v' w1 hown' hgrow _))
            have R := nums_step HN.out HB.out (Nat.le_refl _) (by omega) hown' hgrow
            have R1 := Lib.hid R.1
            have R2 := Lib.hid R.2
            clear R hown' hgrow
            go_wp2
            go_roundw
            case rel => exact ⟨i + 1, _, _, by omega, by go_num, rfl, HS, R1, R2⟩
            case measure => simp [intOf]; omega
      · by_cases hc : c = 0
        · have HE := Lib.hid ((hc ▸ HI.out : AddInv (1) xs ys ds i 0).done (by omega) (by omega))
          have hcb : (c == 0) = true := by simpa using hc
          go_wp2
          go_ret
          obtain ⟨A, k, hv⟩ := HN.out.slice
          exact ⟨ds, A, k, ⟨HE.out.1, by rw [HE.out.2.1]; omega, HE.out.2.2⟩, by rw [hv]; rfl, by rw [← hv]; exact HN.out, HB.out⟩
        · have hcb : (c == 0) = false := by simpa using hc
          have hi2 : i < n := by
            refine Classical.byContradiction fun hge => hc ?_
            exact HI.out.zero (by omega) (by omega) HH.out (sum_lt HD.out HD'.out (by omega) (by omega))
          by_cases ht0 : dig xs i + dig ys i + c < 0
          · skip
            have HS := Lib.hid (HI.out.next (d := dig xs i + dig ys i + c + 10000) (c' := -1) (by omega) ⟨by omega, by omega⟩ (by omega) (by omega))
            go_wp2_with (first | (go_at_call 42; (with_reducible refine (bgLimb_any (H.out.below HB.out) (by omega) (by omega)).mono ?_); rintro e w' ⟨rfl, rfl⟩) | (go_at_call 42; (with_reducible refine (bgLimb_any (H'.out.below HB.out) (by omega) (by omega)).mono ?_); rintro e w' ⟨rfl, rfl⟩) | (at_builtin; refine wpList_append_own _ rfl _ _ 22 rfl w.heap.size 3 i0 (.int .i64 0) 1 8 underInts hi hz0 hz1 hz2 rfl (by decide) _ _ _ rfl (World.ownsRow.alloc HO.out _) ⟨wr.heap.size, 0, none⟩ 1 1 [.int .i64 (dig xs i + dig ys i + c + 10000)] rfl rfl (one_at _ _ rfl) (one_cell _) (by unfold maxLen; omega) (by omega) (by simp; omega) ?_; intro v' w1 hown' hgrow _))
            have R := nums_step HN.out HB.out (Nat.le_refl _) (by omega) hown' hgrow
            have R1 := Lib.hid R.1
            have R2 := Lib.hid R.2
            clear R hown' hgrow
            go_wp2
            go_roundw
            case rel => exact ⟨i + 1, _, _, by omega, by go_num, rfl, HS, R1, R2⟩
            case measure => simp [intOf]; omega
          · skip
            by_cases ht1 : 10000 ≤ dig xs i + dig ys i + c
            · skip
              have HS := Lib.hid (HI.out.next (d := dig xs i + dig ys i + c - 10000) (c' := 1) (by omega) ⟨by omega, by omega⟩ (by omega) (by omega))
              go_wp2_with (first | (go_at_call 42; (with_reducible refine (bgLimb_any (H.out.below HB.out) (by omega) (by omega)).mono ?_); rintro e w' ⟨rfl, rfl⟩) | (go_at_call 42; (with_reducible refine (bgLimb_any (H'.out.below HB.out) (by omega) (by omega)).mono ?_); rintro e w' ⟨rfl, rfl⟩) | (at_builtin; refine wpList_append_own _ rfl _ _ 22 rfl w.heap.size 3 i0 (.int .i64 0) 1 8 underInts hi hz0 hz1 hz2 rfl (by decide) _ _ _ rfl (World.ownsRow.alloc HO.out _) ⟨wr.heap.size, 0, none⟩ 1 1 [.int .i64 (dig xs i + dig ys i + c - 10000)] rfl rfl (one_at _ _ rfl) (one_cell _) (by unfold maxLen; omega) (by omega) (by simp; omega) ?_; intro v' w1 hown' hgrow _))
              have R := nums_step HN.out HB.out (Nat.le_refl _) (by omega) hown' hgrow
              have R1 := Lib.hid R.1
              have R2 := Lib.hid R.2
              clear R hown' hgrow
              go_wp2
              go_roundw
              case rel => exact ⟨i + 1, _, _, by omega, by go_num, rfl, HS, R1, R2⟩
              case measure => simp [intOf]; omega
            · skip
              have HS := Lib.hid (HI.out.next (d := dig xs i + dig ys i + c) (c' := 0) (by omega) ⟨by omega, by omega⟩ (by omega) (by omega))
              go_wp2_with (first | (go_at_call 42; (with_reducible refine (bgLimb_any (H.out.below HB.out) (by omega) (by omega)).mono ?_); rintro e w' ⟨rfl, rfl⟩) | (go_at_call 42; (with_reducible refine (bgLimb_any (H'.out.below HB.out) (by omega) (by omega)).mono ?_); rintro e w' ⟨rfl, rfl⟩) | (at_builtin; refine wpList_append_own _ rfl _ _ 22 rfl w.heap.size 3 i0 (.int .i64 0) 1 8 underInts hi hz0 hz1 hz2 rfl (by decide) _ _ _ rfl (World.ownsRow.alloc HO.out _) ⟨wr.heap.size, 0, none⟩ 1 1 [.int .i64 (dig xs i + dig ys i + c)] rfl rfl (one_at _ _ rfl) (one_cell _) (by unfold maxLen; omega) (by omega) (by simp; omega) ?_; intro v' w1 hown' hgrow _))
              have R := nums_step HN.out HB.out (Nat.le_refl _) (by omega) hown' hgrow
              have R1 := Lib.hid R.1
              have R2 := Lib.hid R.2
              clear R hown' hgrow
              go_wp2
              go_roundw
              case rel => exact ⟨i + 1, _, _, by omega, by go_num, rfl, HS, R1, R2⟩
              case measure => simp [intOf]; omega
set_option maxHeartbeats 8000000 in
theorem bgCombine_m (xs ys : List Int) {A A' : Option Addr} {cx cy : Nat} {w : World} (h : Holds w (.slice A xs.length cx) xs) (h' : Holds w (.slice A' ys.length cy) ys) (hlx : xs.length ≤ 100000) (hly : ys.length ≤ 100000) (hdx : Dig xs) (hdy : Dig ys) (h0 : 0 ≤ dv xs + -1 * dv ys) :
    Calls Try.prog 56 #[.slice A xs.length cx, .slice A' ys.length cy, .int .i64 (-1)] w fun e w' => ∃ (ds : List Int) (A : Option Addr) (c : Nat), (Dig ds ∧ ds.length ≤ 100001 ∧ dv ds = dv xs + -1 * dv ys) ∧ e = .returned (.slice A ds.length c) ∧ Nums w' w.heap.size (.slice A ds.length c) ds ∧ Below w.heap.size w w' := by
  obtain ⟨i0, hi, hz0, hz1, hz2⟩ := info_parts infoInt
  have HD := Lib.hid hdx
  have HD' := Lib.hid hdy
  have HH := Lib.hid h0
  have H := Lib.hid h
  have H' := Lib.hid h'
  clear hdx hdy h0 h h'
  obtain ⟨n, n1, n2, n3⟩ : ∃ n : Nat, xs.length < n ∧ ys.length < n ∧ n ≤ 100001 := ⟨max xs.length ys.length + 1, by omega, by omega, by omega⟩
  go_enter Try.func56, Try.ntmps56
  go_wp2
  go_loopw [7, 8, 9] (fun v cy t wr => ∃ (i : Nat) (ds : List Int) (c : Int), i ≤ n ∧ t = .int .i64 i ∧ cy = .int .i64 c ∧ Hid (AddInv (-1) xs ys ds i c) ∧ Hid (Nums wr w.heap.size v ds) ∧ Hid (Below w.heap.size w wr)) (fun _ _ t _ => n - (intOf t).toNat)
  case atStart => exact ⟨0, [], 0, by omega, rfl, rfl, AddInv.start _ _ _, Nums.nil _ _, Below.refl _ _⟩
  case round =>
    obtain ⟨i, ds, c, hin, rfl, rfl, HI, HN, HB⟩ := hrel
    have hsz := HB.out.size
    have hlen := HI.out.1
    have HLn := Lib.hid hlen
    clear hlen
    have hlen : ds.length ≤ 100001 := by have := HLn.out; omega
    have HO := Lib.hid (show wr.ownsRow w.heap.size 3 1 _ ds.length (ds.map (Value.int .i64)) from HN.out)
    have c0 := HI.out.2.2.2.1
    have c1 := HI.out.2.2.2.2
    have b0 : (0 : Int) ≤ (i : Int) := by omega
    have ux := HD.out.dig i
    have uy := HD'.out.dig i
    by_cases hx : i < xs.length
    · have hi2 : i < n := by omega
      by_cases ht0 : dig xs i + -dig ys i + c < 0
      · skip
        have HS := Lib.hid (HI.out.next (d := dig xs i + -dig ys i + c + 10000) (c' := -1) (by omega) ⟨by omega, by omega⟩ (by omega) (by omega))
        go_wp2_with (first | (go_at_call 42; (with_reducible refine (bgLimb_any (H.out.below HB.out) (by omega) (by omega)).mono ?_); rintro e w' ⟨rfl, rfl⟩) | (go_at_call 42; (with_reducible refine (bgLimb_any (H'.out.below HB.out) (by omega) (by omega)).mono ?_); rintro e w' ⟨rfl, rfl⟩) | (at_builtin; refine wpList_append_own _ rfl _ _ 22 rfl w.heap.size 3 i0 (.int .i64 0) 1 8 underInts hi hz0 hz1 hz2 rfl (by decide) _ _ _ rfl (World.ownsRow.alloc HO.out _) ⟨wr.heap.size, 0, none⟩ 1 1 [.int .i64 (dig xs i + -dig ys i + c + 10000)] rfl rfl (one_at _ _ rfl) (one_cell _) (by unfold maxLen; omega) (by omega) (by simp; omega) ?_; intro v' w1 hown' hgrow _))
        have R := nums_step HN.out HB.out (Nat.le_refl _) (by omega) hown' hgrow
        have R1 := Lib.hid R.1
        have R2 := Lib.hid R.2
        clear R hown' hgrow
        go_wp2
        go_roundw
        case rel => exact ⟨i + 1, _, _, by omega, by go_num, rfl, HS, R1, R2⟩
        case measure => simp [intOf]; omega
      · skip
        by_cases ht1 : 10000 ≤ dig xs i + -dig ys i + c
        · skip
          have HS := Lib.hid (HI.out.next (d := dig xs i + -dig ys i + c - 10000) (c' := 1) (by omega) ⟨by omega, by omega⟩ (by omega) (by omega))
          go_wp2_with (first | (go_at_call 42; (with_reducible refine (bgLimb_any (H.out.below HB.out) (by omega) (by omega)).mono ?_); rintro e w' ⟨rfl, rfl⟩) | (go_at_call 42; (with_reducible refine (bgLimb_any (H'.out.below HB.out) (by omega) (by omega)).mono ?_); rintro e w' ⟨rfl, rfl⟩) | (at_builtin; refine wpList_append_own _ rfl _ _ 22 rfl w.heap.size 3 i0 (.int .i64 0) 1 8 underInts hi hz0 hz1 hz2 rfl (by decide) _ _ _ rfl (World.ownsRow.alloc HO.out _) ⟨wr.heap.size, 0, none⟩ 1 1 [.int .i64 (dig xs i + -dig ys i + c - 10000)] rfl rfl (one_at _ _ rfl) (one_cell _) (by unfold maxLen; omega) (by omega) (by simp; omega) ?_; intro v' w1 hown' hgrow _))
          have R := nums_step HN.out HB.out (Nat.le_refl _) (by omega) hown' hgrow
          have R1 := Lib.hid R.1
          have R2 := Lib.hid R.2
          clear R hown' hgrow
          go_wp2
          go_roundw
          case rel => exact ⟨i + 1, _, _, by omega, by go_num, rfl, HS, R1, R2⟩
          case measure => simp [intOf]; omega
        · skip
          have HS := Lib.hid (HI.out.next (d := dig xs i + -dig ys i + c) (c' := 0) (by omega) ⟨by omega, by omega⟩ (by omega) (by omega))
          go_wp2_with (first | (go_at_call 42; (with_reducible refine (bgLimb_any (H.out.below HB.out) (by omega) (by omega)).mono ?_); rintro e w' ⟨rfl, rfl⟩) | (go_at_call 42; (with_reducible refine (bgLimb_any (H'.out.below HB.out) (by omega) (by omega)).mono ?_); rintro e w' ⟨rfl, rfl⟩) | (at_builtin; refine wpList_append_own _ rfl _ _ 22 rfl w.heap.size 3 i0 (.int .i64 0) 1 8 underInts hi hz0 hz1 hz2 rfl (by decide) _ _ _ rfl (World.ownsRow.alloc HO.out _) ⟨wr.heap.size, 0, none⟩ 1 1 [.int .i64 (dig xs i + -dig ys i + c)] rfl rfl (one_at _ _ rfl) (one_cell _) (by unfold maxLen; omega) (by omega) (by simp; omega) ?_; intro v' w1 hown' hgrow _))
          have R := nums_step HN.out HB.out (Nat.le_refl _) (by omega) hown' hgrow
          have R1 := Lib.hid R.1
          have R2 := Lib.hid R.2
          clear R hown' hgrow
          go_wp2
          go_roundw
          case rel => exact ⟨i + 1, _, _, by omega, by go_num, rfl, HS, R1, R2⟩
          case measure => simp [intOf]; omega
    · by_cases hy : i < ys.length
      · have hi2 : i < n := by omega
        by_cases ht0 : dig xs i + -dig ys i + c < 0
        · skip
          have HS := Lib.hid (HI.out.next (d := dig xs i + -dig ys i + c + 10000) (c' := -1) (by omega) ⟨by omega, by omega⟩ (by omega) (by omega))
          go_wp2_with (first | (go_at_call 42; (with_reducible refine (bgLimb_any (H.out.below HB.out) (by omega) (by omega)).mono ?_); rintro e w' ⟨rfl, rfl⟩) | (go_at_call 42; (with_reducible refine (bgLimb_any (H'.out.below HB.out) (by omega) (by omega)).mono ?_); rintro e w' ⟨rfl, rfl⟩) | (at_builtin; refine wpList_append_own _ rfl _ _ 22 rfl w.heap.size 3 i0 (.int .i64 0) 1 8 underInts hi hz0 hz1 hz2 rfl (by decide) _ _ _ rfl (World.ownsRow.alloc HO.out _) ⟨wr.heap.size, 0, none⟩ 1 1 [.int .i64 (dig xs i + -dig ys i + c + 10000)] rfl rfl (one_at _ _ rfl) (one_cell _) (by unfold maxLen; omega) (by omega) (by simp; omega) ?_; intro v' w1 hown' hgrow _))
          have R := nums_step HN.out HB.out (Nat.le_refl _) (by omega) hown' hgrow
          have R1 := Lib.hid R.1
          have R2 := Lib.hid R.2
          clear R hown' hgrow
          go_wp2
          go_roundw
          case rel => exact ⟨i + 1, _, _, by omega, by go_num, rfl, HS, R1, R2⟩
          case measure => simp [intOf]; omega
        · skip
          by_cases ht1 : 10000 ≤ dig xs i + -dig ys i + c
          · skip
            have HS := Lib.hid (HI.out.next (d := dig xs i + -dig ys i + c - 10000) (c' := 1) (by omega) ⟨by omega, by omega⟩ (by omega) (by omega))
            go_wp2_with (first | (go_at_call 42; (with_reducible refine (bgLimb_any (H.out.below HB.out) (by omega) (by omega)).mono ?_); rintro e w' ⟨rfl, rfl⟩) | (go_at_call 42; (with_reducible refine (bgLimb_any (H'.out.below HB.out) (by omega) (by omega)).mono ?_); rintro e w' ⟨rfl, rfl⟩) | (at_builtin; refine wpList_append_own _ rfl _ _ 22 rfl w.heap.size 3 i0 (.int .i64 0) 1 8 underInts hi hz0 hz1 hz2 rfl (by decide) _ _ _ rfl (World.ownsRow.alloc HO.out _) ⟨wr.heap.size, 0, none⟩ 1 1 [.int .i64 (dig xs i + -dig ys i + c - 10000)] rfl rfl (one_at _ _ rfl) (one_cell _) (by unfold maxLen; omega) (by omega) (by simp; omega) ?_; intro v' w1 hown' hgrow _))
            have R := nums_step HN.out HB.out (Nat.le_refl _) (by omega) hown' hgrow
            have R1 := Lib.hid R.1
            have R2 := Lib.hid R.2
            clear R hown' hgrow
            go_wp2
            go_roundw
            case rel => exact ⟨i + 1, _, _, by omega, by go_num, rfl, HS, R1, R2⟩
            case measure => simp [intOf]; omega
          · skip
            have HS := Lib.hid (HI.out.next (d := dig xs i + -dig ys i + c) (c' := 0) (by omega) ⟨by omega, by omega⟩ (by omega) (by omega))
            go_wp2_with (first | (go_at_call 42; (with_reducible refine (bgLimb_any (H.out.below HB.out) (by omega) (by omega)).mono ?_); rintro e w' ⟨rfl, rfl⟩) | (go_at_call 42; (with_reducible refine (bgLimb_any (H'.out.below HB.out) (by omega) (by omega)).mono ?_); rintro e w' ⟨rfl, rfl⟩) | (at_builtin; refine wpList_append_own _ rfl _ _ 22 rfl w.heap.size 3 i0 (.int .i64 0) 1 8 underInts hi hz0 hz1 hz2 rfl (by decide) _ _ _ rfl (World.ownsRow.alloc HO.out _) ⟨wr.heap.size, 0, none⟩ 1 1 [.int .i64 (dig xs i + -dig ys i + c)] rfl rfl (one_at _ _ rfl) (one_cell _) (by unfold maxLen; omega) (by omega) (by simp; omega) ?_; intro v' w1 hown' hgrow _))
            have R := nums_step HN.out HB.out (Nat.le_refl _) (by omega) hown' hgrow
            have R1 := Lib.hid R.1
            have R2 := Lib.hid R.2
            clear R hown' hgrow
            go_wp2
            go_roundw
            case rel => exact ⟨i + 1, _, _, by omega, by go_num, rfl, HS, R1, R2⟩
            case measure => simp [intOf]; omega
      · by_cases hc : c = 0
        · have HE := Lib.hid ((hc ▸ HI.out : AddInv (-1) xs ys ds i 0).done (by omega) (by omega))
          have hcb : (c == 0) = true := by simpa using hc
          go_wp2
          go_ret
          obtain ⟨A, k, hv⟩ := HN.out.slice
          exact ⟨ds, A, k, ⟨HE.out.1, by rw [HE.out.2.1]; omega, HE.out.2.2⟩, by rw [hv]; rfl, by rw [← hv]; exact HN.out, HB.out⟩
        · have hcb : (c == 0) = false := by simpa using hc
          have hi2 : i < n := by
            refine Classical.byContradiction fun hge => hc ?_
            exact HI.out.zero (by omega) (by omega) HH.out (dif_lt HD.out HD'.out (by omega))
          by_cases ht0 : dig xs i + -dig ys i + c < 0
          · skip
            have HS := Lib.hid (HI.out.next (d := dig xs i + -dig ys i + c + 10000) (c' := -1) (by omega) ⟨by omega, by omega⟩ (by omega) (by omega))
            go_wp2_with (first | (go_at_call 42; (with_reducible refine (bgLimb_any (H.out.below HB.out) (by omega) (by omega)).mono ?_); rintro e w' ⟨rfl, rfl⟩) | (go_at_call 42; (with_reducible refine (bgLimb_any (H'.out.below HB.out) (by omega) (by omega)).mono ?_); rintro e w' ⟨rfl, rfl⟩) | (at_builtin; refine wpList_append_own _ rfl _ _ 22 rfl w.heap.size 3 i0 (.int .i64 0) 1 8 underInts hi hz0 hz1 hz2 rfl (by decide) _ _ _ rfl (World.ownsRow.alloc HO.out _) ⟨wr.heap.size, 0, none⟩ 1 1 [.int .i64 (dig xs i + -dig ys i + c + 10000)] rfl rfl (one_at _ _ rfl) (one_cell _) (by unfold maxLen; omega) (by omega) (by simp; omega) ?_; intro v' w1 hown' hgrow _))
            have R := nums_step HN.out HB.out (Nat.le_refl _) (by omega) hown' hgrow
            have R1 := Lib.hid R.1
            have R2 := Lib.hid R.2
            clear R hown' hgrow
            go_wp2
            go_roundw
            case rel => exact ⟨i + 1, _, _, by omega, by go_num, rfl, HS, R1, R2⟩
            case measure => simp [intOf]; omega
          · skip
            by_cases ht1 : 10000 ≤ dig xs i + -dig ys i + c
            · skip
              have HS := Lib.hid (HI.out.next (d := dig xs i + -dig ys i + c - 10000) (c' := 1) (by omega) ⟨by omega, by omega⟩ (by omega) (by omega))
              go_wp2_with (first | (go_at_call 42; (with_reducible refine (bgLimb_any (H.out.below HB.out) (by omega) (by omega)).mono ?_); rintro e w' ⟨rfl, rfl⟩) | (go_at_call 42; (with_reducible refine (bgLimb_any (H'.out.below HB.out) (by omega) (by omega)).mono ?_); rintro e w' ⟨rfl, rfl⟩) | (at_builtin; refine wpList_append_own _ rfl _ _ 22 rfl w.heap.size 3 i0 (.int .i64 0) 1 8 underInts hi hz0 hz1 hz2 rfl (by decide) _ _ _ rfl (World.ownsRow.alloc HO.out _) ⟨wr.heap.size, 0, none⟩ 1 1 [.int .i64 (dig xs i + -dig ys i + c - 10000)] rfl rfl (one_at _ _ rfl) (one_cell _) (by unfold maxLen; omega) (by omega) (by simp; omega) ?_; intro v' w1 hown' hgrow _))
              have R := nums_step HN.out HB.out (Nat.le_refl _) (by omega) hown' hgrow
              have R1 := Lib.hid R.1
              have R2 := Lib.hid R.2
              clear R hown' hgrow
              go_wp2
              go_roundw
              case rel => exact ⟨i + 1, _, _, by omega, by go_num, rfl, HS, R1, R2⟩
              case measure => simp [intOf]; omega
            · skip
              have HS := Lib.hid (HI.out.next (d := dig xs i + -dig ys i + c) (c' := 0) (by omega) ⟨by omega, by omega⟩ (by omega) (by omega))
              go_wp2_with (first | (go_at_call 42; (with_reducible refine (bgLimb_any (H.out.below HB.out) (by omega) (by omega)).mono ?_); rintro e w' ⟨rfl, rfl⟩) | (go_at_call 42; (with_reducible refine (bgLimb_any (H'.out.below HB.out) (by omega) (by omega)).mono ?_); rintro e w' ⟨rfl, rfl⟩) | (at_builtin; refine wpList_append_own _ rfl _ _ 22 rfl w.heap.size 3 i0 (.int .i64 0) 1 8 underInts hi hz0 hz1 hz2 rfl (by decide) _ _ _ rfl (World.ownsRow.alloc HO.out _) ⟨wr.heap.size, 0, none⟩ 1 1 [.int .i64 (dig xs i + -dig ys i + c)] rfl rfl (one_at _ _ rfl) (one_cell _) (by unfold maxLen; omega) (by omega) (by simp; omega) ?_; intro v' w1 hown' hgrow _))
              have R := nums_step HN.out HB.out (Nat.le_refl _) (by omega) hown' hgrow
              have R1 := Lib.hid R.1
              have R2 := Lib.hid R.2
              clear R hown' hgrow
              go_wp2
              go_roundw
              case rel => exact ⟨i + 1, _, _, by omega, by go_num, rfl, HS, R1, R2⟩
              case measure => simp [intOf]; omega
end Go.Proofs.Ytcplelcblfjpoaa
