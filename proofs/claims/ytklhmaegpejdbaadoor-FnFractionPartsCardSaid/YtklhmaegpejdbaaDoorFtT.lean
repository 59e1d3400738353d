/- impl.fractionText and spec.frText. -/
import Derived.Test.YtklhmaegpejdbaaDoorShelfT
import Derived.Test.YtklhmaegpejdbaaDoorFrac
namespace Go.Proofs.YtklhmaegpejdbaaDoor
open Go.RowKit
set_option linter.unusedVariables false
set_option linter.unusedSimpArgs false
set_option maxRecDepth 100000
/-- A fraction's text. -/
def ftS (n d : Int) : ByteArray := if d = 1 then itoS n else itoS n ++ ⟨#[47]⟩ ++ itoS d
set_option maxHeartbeats 4000000 in
theorem fractionText_any (n d : Int) (hn0 : -1000000000 ≤ n) (hn1 : n ≤ 1000000000) (hd0 : 1 ≤ d) (hd1 : d ≤ 1000000000) (w : World) (ht : Tab w) :
    Calls Tryd.prog 60 #[.agg #[.int .i64 n, .int .i64 d]] w fun e w' => e = .returned (.string (ftS n d)) ∧ Below w.heap.size w w' := by
  have HT := Lib.hid ht
  clear ht
  have sn := itoS_size n (by omega) (by omega)
  have sd := itoS_size d (by omega) (by omega)
  obtain ⟨sN, HN⟩ : ∃ s, Hid (itoS n = s) := ⟨_, Lib.hid rfl⟩
  obtain ⟨sD, HDD⟩ : ∃ s, Hid (itoS d = s) := ⟨_, Lib.hid rfl⟩
  have HA : Hid (∀ w : World, Tab w → Calls Tryd.prog 92 #[.int .i64 n] w fun e w' => e = .returned (.string sN) ∧ Below w.heap.size w w') := Lib.hid (fun w hw => by rw [← HN.out]; exact itoa_any n (by omega) (by omega) w hw)
  have HB : Hid (∀ w : World, Tab w → Calls Tryd.prog 92 #[.int .i64 d] w fun e w' => e = .returned (.string sD) ∧ Below w.heap.size w w') := Lib.hid (fun w hw => by rw [← HDD.out]; exact itoa_any d (by omega) (by omega) w hw)
  rw [HN.out] at sn
  rw [HDD.out] at sd
  by_cases h1 : d = 1
  · have HV := Lib.hid (show ftS n d = sN by unfold ftS; rw [if_pos h1, HN.out])
    have hb : (d == 1) = true := by simp [h1]
    rw [HV.out]
    go_enter Tryd.func60, Tryd.ntmps60
    go_wp2_with (go_at_call 92; refine (HA.out _ (HT.out.below (by (repeat' (first | (with_reducible exact Below.refl _ _) | (with_reducible assumption) | (with_reducible refine Below.alloc ?_ ?_ _) | (with_reducible refine Below.drew ?_) | (with_reducible refine below_drewN ?_ _) | (with_reducible refine Below.setCell ?_ ?_ _) | go_size))))).mono ?_; rintro e w2 ⟨rfl, hb2⟩; obtain ⟨hc2, hf2⟩ := bcell hb2; have hB2 : Below w.heap.size w w2 := Below.trans (by repeat' (first | (with_reducible exact Below.refl _ _) | (with_reducible assumption) | (with_reducible refine Below.alloc ?_ ?_ _) | (with_reducible refine Below.drew ?_) | (with_reducible refine below_drewN ?_ _) | (with_reducible refine Below.setCell ?_ ?_ _) | go_size)) (hb2.mono (by go_size)); (have hs2 := hb2.size); (try simp at hs2); (try (have hl2 := Nat.lt_of_succ_le hs2)); (first | (have hz2 : w.heap.size < w2.heap.size := by omega) | (have hz2 : w.heap.size ≤ w2.heap.size := by omega)); (try (have hz1_2 : w1.heap.size < w2.heap.size := by omega)); (try (have hz3_2 : w3.heap.size < w2.heap.size := by omega)); (try (have hz4_2 : w4.heap.size < w2.heap.size := by omega)); (try (have hz5_2 : w5.heap.size < w2.heap.size := by omega)); (try (have hzc_2 : wc.heap.size < w2.heap.size := by omega)); (try (have hy1_2 : w.heap.size + 1 < w2.heap.size := by omega)); (try (have hy2_2 : w.heap.size + 2 < w2.heap.size := by omega)); (try (have hy3_2 : w.heap.size + 3 < w2.heap.size := by omega)))
    go_ret
    exact ⟨rfl, by repeat' (first | (with_reducible exact Below.refl _ _) | (with_reducible assumption) | (with_reducible refine Below.alloc ?_ ?_ _) | (with_reducible refine Below.drew ?_) | (with_reducible refine below_drewN ?_ _) | (with_reducible refine Below.setCell ?_ ?_ _) | go_size)⟩
  · have HV := Lib.hid (show ftS n d = sN ++ ⟨#[47]⟩ ++ sD by unfold ftS; rw [if_neg h1, HN.out, HDD.out])
    have hb : (d == 1) = false := by simp [h1]
    have ka := fun (w : World) => run_string_add_sum (P := Tryd.prog) (w := w) sN ⟨#[47]⟩ (by show sN.size + 1 ≤ _; omega)
    have kb := fun (w : World) => run_string_add_sum (P := Tryd.prog) (w := w) (sN ++ ⟨#[47]⟩) sD (by rw [ByteArray.size_append]; show sN.size + 1 + sD.size ≤ _; omega)
    rw [HV.out]
    go_enter Tryd.func60, Tryd.ntmps60
    go_upto_region 3 with fail
    go_cut [2] (fun s2 wx => s2 = .string (sN ++ ⟨#[47]⟩ ++ sD) ∧ Hid (Below w.heap.size w wx))
    case first =>
      go_region_with (first | (go_at_call 92; refine (HA.out _ (HT.out.below (by (repeat' (first | (with_reducible exact Below.refl _ _) | (with_reducible assumption) | (with_reducible refine Below.alloc ?_ ?_ _) | (with_reducible refine Below.drew ?_) | (with_reducible refine below_drewN ?_ _) | (with_reducible refine Below.setCell ?_ ?_ _) | go_size))))).mono ?_; rintro e w2 ⟨rfl, hb2⟩; obtain ⟨hc2, hf2⟩ := bcell hb2; have hB2 : Below w.heap.size w w2 := Below.trans (by repeat' (first | (with_reducible exact Below.refl _ _) | (with_reducible assumption) | (with_reducible refine Below.alloc ?_ ?_ _) | (with_reducible refine Below.drew ?_) | (with_reducible refine below_drewN ?_ _) | (with_reducible refine Below.setCell ?_ ?_ _) | go_size)) (hb2.mono (by go_size)); (have hs2 := hb2.size); (try simp at hs2); (try (have hl2 := Nat.lt_of_succ_le hs2)); (first | (have hz2 : w.heap.size < w2.heap.size := by omega) | (have hz2 : w.heap.size ≤ w2.heap.size := by omega)); (try (have hz1_2 : w1.heap.size < w2.heap.size := by omega)); (try (have hz3_2 : w3.heap.size < w2.heap.size := by omega)); (try (have hz4_2 : w4.heap.size < w2.heap.size := by omega)); (try (have hz5_2 : w5.heap.size < w2.heap.size := by omega)); (try (have hzc_2 : wc.heap.size < w2.heap.size := by omega)); (try (have hy1_2 : w.heap.size + 1 < w2.heap.size := by omega)); (try (have hy2_2 : w.heap.size + 2 < w2.heap.size := by omega)); (try (have hy3_2 : w.heap.size + 3 < w2.heap.size := by omega))) | (go_at_call 92; refine (HB.out _ (HT.out.below (by (repeat' (first | (with_reducible exact Below.refl _ _) | (with_reducible assumption) | (with_reducible refine Below.alloc ?_ ?_ _) | (with_reducible refine Below.drew ?_) | (with_reducible refine below_drewN ?_ _) | (with_reducible refine Below.setCell ?_ ?_ _) | go_size))))).mono ?_; rintro e w3 ⟨rfl, hb3⟩; obtain ⟨hc3, hf3⟩ := bcell hb3; have hB3 : Below w.heap.size w w3 := Below.trans (by repeat' (first | (with_reducible exact Below.refl _ _) | (with_reducible assumption) | (with_reducible refine Below.alloc ?_ ?_ _) | (with_reducible refine Below.drew ?_) | (with_reducible refine below_drewN ?_ _) | (with_reducible refine Below.setCell ?_ ?_ _) | go_size)) (hb3.mono (by go_size)); (have hs3 := hb3.size); (try simp at hs3); (try (have hl3 := Nat.lt_of_succ_le hs3)); (first | (have hz3 : w.heap.size < w3.heap.size := by omega) | (have hz3 : w.heap.size ≤ w3.heap.size := by omega)); (try (have hz1_3 : w1.heap.size < w3.heap.size := by omega)); (try (have hz2_3 : w2.heap.size < w3.heap.size := by omega)); (try (have hz4_3 : w4.heap.size < w3.heap.size := by omega)); (try (have hz5_3 : w5.heap.size < w3.heap.size := by omega)); (try (have hzc_3 : wc.heap.size < w3.heap.size := by omega)); (try (have hy1_3 : w.heap.size + 1 < w3.heap.size := by omega)); (try (have hy2_3 : w.heap.size + 2 < w3.heap.size := by omega)); (try (have hy3_3 : w.heap.size + 3 < w3.heap.size := by omega))))
      all_goals (go_wp2_with fail; go_meet; exact ⟨rfl, Lib.hid (by repeat' (first | (with_reducible exact Below.refl _ _) | (with_reducible assumption) | (with_reducible refine Below.alloc ?_ ?_ _) | (with_reducible refine Below.drew ?_) | (with_reducible refine below_drewN ?_ _) | (with_reducible refine Below.setCell ?_ ?_ _) | go_size))⟩)
    case rest =>
      obtain ⟨rfl, HB⟩ := hcut
      go_wp2
      go_ret
      exact ⟨rfl, HB.out⟩
set_option maxHeartbeats 4000000 in
theorem frText_any (n d : Int) (hn0 : -1000000000 ≤ n) (hn1 : n ≤ 1000000000) (hd0 : 1 ≤ d) (hd1 : d ≤ 1000000000) (w : World) :
    Calls Tryd.prog 62 #[.agg #[.int .i64 n, .int .i64 d]] w fun e w' => e = .returned (.string (ftS n d)) ∧ Below w.heap.size w w' := by
  have sn := itoS_size n (by omega) (by omega)
  have sd := itoS_size d (by omega) (by omega)
  obtain ⟨sN, HN⟩ : ∃ s, Hid (itoS n = s) := ⟨_, Lib.hid rfl⟩
  obtain ⟨sD, HDD⟩ : ∃ s, Hid (itoS d = s) := ⟨_, Lib.hid rfl⟩
  have HA : Hid (∀ w : World, Calls Tryd.prog 64 #[.int .i64 n] w fun e w' => e = .returned (.string sN) ∧ Below w.heap.size w w') := Lib.hid (fun w => by rw [← HN.out]; exact l1Int_any n (by omega) (by omega) w)
  have HB : Hid (∀ w : World, Calls Tryd.prog 88 #[.int .i64 d] w fun e w' => e = .returned (.string sD) ∧ Below w.heap.size w w') := Lib.hid (fun w => by
    obtain ⟨D, hD⟩ := Int.eq_ofNat_of_zero_le (show 0 ≤ d by omega)
    rw [← HDD.out, itoS_pos (by omega), hD]
    exact l1Num_any D (by omega) w)
  rw [HN.out] at sn
  rw [HDD.out] at sd
  by_cases h1 : d = 1
  · have HV := Lib.hid (show ftS n d = sN by unfold ftS; rw [if_pos h1, HN.out])
    have hb : (d == 1) = true := by simp [h1]
    rw [HV.out]
    go_enter Tryd.func62, Tryd.ntmps62
    go_wp2_with (go_at_call 64; refine (HA.out _).mono ?_; rintro e w2 ⟨rfl, hb2⟩; obtain ⟨hc2, hf2⟩ := bcell hb2; have hB2 : Below w.heap.size w w2 := Below.trans (by repeat' (first | (with_reducible exact Below.refl _ _) | (with_reducible assumption) | (with_reducible refine Below.alloc ?_ ?_ _) | (with_reducible refine Below.drew ?_) | (with_reducible refine below_drewN ?_ _) | (with_reducible refine Below.setCell ?_ ?_ _) | go_size)) (hb2.mono (by go_size)); (have hs2 := hb2.size); (try simp at hs2); (try (have hl2 := Nat.lt_of_succ_le hs2)); (first | (have hz2 : w.heap.size < w2.heap.size := by omega) | (have hz2 : w.heap.size ≤ w2.heap.size := by omega)); (try (have hz1_2 : w1.heap.size < w2.heap.size := by omega)); (try (have hz3_2 : w3.heap.size < w2.heap.size := by omega)); (try (have hz4_2 : w4.heap.size < w2.heap.size := by omega)); (try (have hz5_2 : w5.heap.size < w2.heap.size := by omega)); (try (have hzc_2 : wc.heap.size < w2.heap.size := by omega)); (try (have hy1_2 : w.heap.size + 1 < w2.heap.size := by omega)); (try (have hy2_2 : w.heap.size + 2 < w2.heap.size := by omega)); (try (have hy3_2 : w.heap.size + 3 < w2.heap.size := by omega)))
    go_ret
    exact ⟨rfl, by repeat' (first | (with_reducible exact Below.refl _ _) | (with_reducible assumption) | (with_reducible refine Below.alloc ?_ ?_ _) | (with_reducible refine Below.drew ?_) | (with_reducible refine below_drewN ?_ _) | (with_reducible refine Below.setCell ?_ ?_ _) | go_size)⟩
  · have HV := Lib.hid (show ftS n d = sN ++ ⟨#[47]⟩ ++ sD by unfold ftS; rw [if_neg h1, HN.out, HDD.out])
    have hb : (d == 1) = false := by simp [h1]
    have ka := fun (w : World) => run_string_add_sum (P := Tryd.prog) (w := w) sN ⟨#[47]⟩ (by show sN.size + 1 ≤ _; omega)
    have kb := fun (w : World) => run_string_add_sum (P := Tryd.prog) (w := w) (sN ++ ⟨#[47]⟩) sD (by rw [ByteArray.size_append]; show sN.size + 1 + sD.size ≤ _; omega)
    rw [HV.out]
    go_enter Tryd.func62, Tryd.ntmps62
    go_upto_region 3 with fail
    go_cut [2] (fun s2 wx => s2 = .string (sN ++ ⟨#[47]⟩ ++ sD) ∧ Hid (Below w.heap.size w wx))
    case first =>
      go_region_with (first | (go_at_call 64; refine (HA.out _).mono ?_; rintro e w2 ⟨rfl, hb2⟩; obtain ⟨hc2, hf2⟩ := bcell hb2; have hB2 : Below w.heap.size w w2 := Below.trans (by repeat' (first | (with_reducible exact Below.refl _ _) | (with_reducible assumption) | (with_reducible refine Below.alloc ?_ ?_ _) | (with_reducible refine Below.drew ?_) | (with_reducible refine below_drewN ?_ _) | (with_reducible refine Below.setCell ?_ ?_ _) | go_size)) (hb2.mono (by go_size)); (have hs2 := hb2.size); (try simp at hs2); (try (have hl2 := Nat.lt_of_succ_le hs2)); (first | (have hz2 : w.heap.size < w2.heap.size := by omega) | (have hz2 : w.heap.size ≤ w2.heap.size := by omega)); (try (have hz1_2 : w1.heap.size < w2.heap.size := by omega)); (try (have hz3_2 : w3.heap.size < w2.heap.size := by omega)); (try (have hz4_2 : w4.heap.size < w2.heap.size := by omega)); (try (have hz5_2 : w5.heap.size < w2.heap.size := by omega)); (try (have hzc_2 : wc.heap.size < w2.heap.size := by omega)); (try (have hy1_2 : w.heap.size + 1 < w2.heap.size := by omega)); (try (have hy2_2 : w.heap.size + 2 < w2.heap.size := by omega)); (try (have hy3_2 : w.heap.size + 3 < w2.heap.size := by omega))) | (go_at_call 88; refine (HB.out _).mono ?_; rintro e w3 ⟨rfl, hb3⟩; obtain ⟨hc3, hf3⟩ := bcell hb3; have hB3 : Below w.heap.size w w3 := Below.trans (by repeat' (first | (with_reducible exact Below.refl _ _) | (with_reducible assumption) | (with_reducible refine Below.alloc ?_ ?_ _) | (with_reducible refine Below.drew ?_) | (with_reducible refine below_drewN ?_ _) | (with_reducible refine Below.setCell ?_ ?_ _) | go_size)) (hb3.mono (by go_size)); (have hs3 := hb3.size); (try simp at hs3); (try (have hl3 := Nat.lt_of_succ_le hs3)); (first | (have hz3 : w.heap.size < w3.heap.size := by omega) | (have hz3 : w.heap.size ≤ w3.heap.size := by omega)); (try (have hz1_3 : w1.heap.size < w3.heap.size := by omega)); (try (have hz2_3 : w2.heap.size < w3.heap.size := by omega)); (try (have hz4_3 : w4.heap.size < w3.heap.size := by omega)); (try (have hz5_3 : w5.heap.size < w3.heap.size := by omega)); (try (have hzc_3 : wc.heap.size < w3.heap.size := by omega)); (try (have hy1_3 : w.heap.size + 1 < w3.heap.size := by omega)); (try (have hy2_3 : w.heap.size + 2 < w3.heap.size := by omega)); (try (have hy3_3 : w.heap.size + 3 < w3.heap.size := by omega))))
      all_goals (go_wp2_with fail; go_meet; exact ⟨rfl, Lib.hid (by repeat' (first | (with_reducible exact Below.refl _ _) | (with_reducible assumption) | (with_reducible refine Below.alloc ?_ ?_ _) | (with_reducible refine Below.drew ?_) | (with_reducible refine below_drewN ?_ _) | (with_reducible refine Below.setCell ?_ ?_ _) | go_size))⟩)
    case rest =>
      obtain ⟨rfl, HB⟩ := hcut
      go_wp2
      go_ret
      exact ⟨rfl, HB.out⟩
end Go.Proofs.YtklhmaegpejdbaaDoor
