/- spec.l1Int: decimal numerals with a sign. -/
import Derived.Test.YtklhmaegpejdbaaDoorTxt
namespace Go.Proofs.YtklhmaegpejdbaaDoor
open Go.RowKit
set_option linter.unusedVariables false
set_option linter.unusedSimpArgs false
set_option maxRecDepth 100000
/-- The decimal numeral with its sign, as a Go string. -/
def itoS (n : Int) : ByteArray := ⟨(Lib.itoa n).toArray⟩
theorem itoS_neg {n : Int} (h : n < 0) : itoS n = ⟨#[45]⟩ ++ decS n.natAbs := by
  unfold itoS Lib.itoa decS
  rw [if_pos h]
  apply ByteArray.ext
  apply Array.toList_inj.1
  simp
theorem itoS_pos {n : Int} (h : ¬ n < 0) : itoS n = decS n.toNat := by
  unfold itoS Lib.itoa decS
  rw [if_neg h]
theorem decS_size (u : Nat) (h : u ≤ 9223372036854775807) : (decS u).size ≤ 20 := by
  show (Lib.decDigits u).toArray.size ≤ 20
  rw [List.size_toArray, Lib.decDigits_length]
  exact Lib.nDigits_le20 _ (by omega)
theorem itoS_size (n : Int) (h0 : -9223372036854775807 ≤ n) (h1 : n ≤ 9223372036854775807) : (itoS n).size ≤ 21 := by
  show (Lib.itoa n).toArray.size ≤ 21
  rw [List.size_toArray]
  exact Lib.itoa_length_le n (by omega) h1
theorem l1Int_any (n : Int) (h0 : -9223372036854775807 ≤ n) (h1 : n ≤ 9223372036854775807) (w : World) : Calls Tryd.prog 64 #[.int .i64 n] w fun e w' => e = .returned (.string (itoS n)) ∧ Below w.heap.size w w' := by
  by_cases h : n < 0
  · obtain ⟨u, hu⟩ : ∃ u : Nat, -n = u := ⟨(-n).toNat, by omega⟩
    obtain rfl : n = -(u : Int) := by omega
    have HI := Lib.hid (show itoS (-(u : Int)) = ⟨#[45]⟩ ++ decS u by rw [itoS_neg h]; simp)
    have IH := Lib.hid (l1Num_any u (by omega))
    have hsz := decS_size u (by omega)
    obtain ⟨s, HS⟩ : ∃ s, Hid (decS u = s) := ⟨_, Lib.hid rfl⟩
    rw [HS.out] at HI IH hsz
    have ka := fun (w : World) => run_string_add_sum (P := Tryd.prog) (w := w) ⟨#[45]⟩ s (by show 1 + s.size ≤ _; omega)
    have e1 : IntKind.i64.wrap (-(-(u : Int))) = (u : Int) := by rw [Int.neg_neg]; exact IntWalk.i64_in _ (by omega)
    rw [HI.out]
    go_enter Tryd.func64, Tryd.ntmps64
    go_wp2_with (go_at_call 88; refine (IH.out _).mono ?_; rintro e w2 ⟨rfl, hb2⟩; obtain ⟨hc2, hf2⟩ := bcell hb2; have hB2 : Below w.heap.size w w2 := Below.trans (by repeat' (first | (with_reducible exact Below.refl _ _) | (with_reducible assumption) | (with_reducible refine Below.alloc ?_ ?_ _) | (with_reducible refine Below.drew ?_) | (with_reducible refine below_drewN ?_ _) | (with_reducible refine Below.setCell ?_ ?_ _) | go_size)) (hb2.mono (by go_size)); (have hs2 := hb2.size); (try simp at hs2); (try (have hl2 := Nat.lt_of_succ_le hs2)); (first | (have hz2 : w.heap.size < w2.heap.size := by omega) | (have hz2 : w.heap.size ≤ w2.heap.size := by omega)); (try (have hz1_2 : w1.heap.size < w2.heap.size := by omega)); (try (have hz3_2 : w3.heap.size < w2.heap.size := by omega)); (try (have hz4_2 : w4.heap.size < w2.heap.size := by omega)); (try (have hz5_2 : w5.heap.size < w2.heap.size := by omega)); (try (have hzc_2 : wc.heap.size < w2.heap.size := by omega)); (try (have hy1_2 : w.heap.size + 1 < w2.heap.size := by omega)); (try (have hy2_2 : w.heap.size + 2 < w2.heap.size := by omega)); (try (have hy3_2 : w.heap.size + 3 < w2.heap.size := by omega)))
    go_ret
    exact ⟨rfl, by repeat' (first | (with_reducible exact Below.refl _ _) | (with_reducible assumption) | (with_reducible refine Below.alloc ?_ ?_ _) | (with_reducible refine Below.drew ?_) | (with_reducible refine below_drewN ?_ _) | (with_reducible refine Below.setCell ?_ ?_ _) | go_size)⟩
  · obtain ⟨u, rfl⟩ := Int.eq_ofNat_of_zero_le (show 0 ≤ n by omega)
    have HI := Lib.hid (show itoS (u : Int) = decS u by rw [itoS_pos h]; simp)
    have IH := Lib.hid (l1Num_any u (by omega))
    rw [HI.out]
    go_enter Tryd.func64, Tryd.ntmps64
    go_wp2_with (go_at_call 88; refine (IH.out _).mono ?_; rintro e w2 ⟨rfl, hb2⟩; obtain ⟨hc2, hf2⟩ := bcell hb2; have hB2 : Below w.heap.size w w2 := Below.trans (by repeat' (first | (with_reducible exact Below.refl _ _) | (with_reducible assumption) | (with_reducible refine Below.alloc ?_ ?_ _) | (with_reducible refine Below.drew ?_) | (with_reducible refine below_drewN ?_ _) | (with_reducible refine Below.setCell ?_ ?_ _) | go_size)) (hb2.mono (by go_size)); (have hs2 := hb2.size); (try simp at hs2); (try (have hl2 := Nat.lt_of_succ_le hs2)); (first | (have hz2 : w.heap.size < w2.heap.size := by omega) | (have hz2 : w.heap.size ≤ w2.heap.size := by omega)); (try (have hz1_2 : w1.heap.size < w2.heap.size := by omega)); (try (have hz3_2 : w3.heap.size < w2.heap.size := by omega)); (try (have hz4_2 : w4.heap.size < w2.heap.size := by omega)); (try (have hz5_2 : w5.heap.size < w2.heap.size := by omega)); (try (have hzc_2 : wc.heap.size < w2.heap.size := by omega)); (try (have hy1_2 : w.heap.size + 1 < w2.heap.size := by omega)); (try (have hy2_2 : w.heap.size + 2 < w2.heap.size := by omega)); (try (have hy3_2 : w.heap.size + 3 < w2.heap.size := by omega)))
    go_ret
    exact ⟨rfl, by repeat' (first | (with_reducible exact Below.refl _ _) | (with_reducible assumption) | (with_reducible refine Below.alloc ?_ ?_ _) | (with_reducible refine Below.drew ?_) | (with_reducible refine below_drewN ?_ _) | (with_reducible refine Below.setCell ?_ ?_ _) | go_size)⟩
end Go.Proofs.YtklhmaegpejdbaaDoor
