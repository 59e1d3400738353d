/- impl.ParseFraction and spec.ParseFraction; the walk of FnExactParseFraction. -/
import Derived.Test.YtklhmaegpejdbaaDoorPfT
import Derived.Test.YtklhmaegpejdbaaDoorStr
import Derived.Test.YtklhmaegpejdbaaDoorDoor5
import Derived.Test.YtklhmaegpejdbaaDoorMake
namespace Go.Proofs.YtklhmaegpejdbaaDoor.Pf
open Go.RowKit
set_option linter.unusedVariables false
set_option linter.unusedSimpArgs false
set_option maxRecDepth 100000
set_option maxHeartbeats 4000000 in
theorem walk (a0 : ByteArray) (w : World) (hs0 : a0.size ≤ maxLen) (ht : Tab5 w) :
    Calls Tryd.prog 5 #[.string a0] w fun e w' => e = .returned (.bool true) ∧ Below w.heap.size w w' := by
  obtain ⟨s, rfl⟩ := bsOf_list a0
  by_cases hl : s.length ≤ 1048576
  · have HT := Lib.hid ht
    obtain ⟨n, Hn⟩ : ∃ n, Hid (pfN s = n) := ⟨_, Lib.hid rfl⟩
    obtain ⟨d, Hd⟩ : ∃ d, Hid (pfE s = d) := ⟨_, Lib.hid rfl⟩
    obtain ⟨b, Hb⟩ : ∃ b, Hid (pfB s = b) := ⟨_, Lib.hid rfl⟩
    obtain ⟨S, HS⟩ : ∃ S, Hid (bsOf s = S) := ⟨_, Lib.hid rfl⟩
    have hsz : ¬ (1048576 : Int) < (S.size : Int) := by rw [← HS.out, bsOf_size]; omega
    have HI : Hid (∀ w, Tab5 w → Calls Tryd.prog 19 #[.string S] w fun e w' => e = .returned (.tuple #[.agg #[.int .i64 n, .int .i64 d], .bool b]) ∧ Below w.heap.size w w') := Lib.hid (fun w h => by rw [← HS.out, ← Hn.out, ← Hd.out, ← Hb.out]; exact ParseFraction_impl s hl w h.1 h.2)
    have HSp : Hid (∀ w, Calls Tryd.prog 18 #[.string S] w fun e w' => e = .returned (.tuple #[.agg #[.int .i64 n, .int .i64 d], .bool b]) ∧ Below w.heap.size w w') := Lib.hid (fun w => by rw [← HS.out, ← Hn.out, ← Hd.out, ← Hb.out]; exact ParseFraction_spec s hl w)
    rw [HS.out]
    clear ht hs0
    go_enter Tryd.func5, Tryd.ntmps5
    go_wp2_with (first | (go_at_call 18; refine (HSp.out _).mono ?_; rintro e w2 ⟨rfl, hb2⟩; obtain ⟨hc2, hf2⟩ := bcell hb2; have hB2 : Below w.heap.size w w2 := Below.trans (by repeat' (first | (with_reducible exact Below.refl _ _) | (with_reducible assumption) | (with_reducible refine Below.alloc ?_ ?_ _) | (with_reducible refine Below.drew ?_) | (with_reducible refine below_drewN ?_ _) | (with_reducible refine Below.setCell ?_ ?_ _) | go_size)) (hb2.mono (by go_size)); (have hs2 := hb2.size); (try simp at hs2); (try (have hl2 := Nat.lt_of_succ_le hs2)); (first | (have hz2 : w.heap.size < w2.heap.size := by omega) | (have hz2 : w.heap.size ≤ w2.heap.size := by omega)); (try (have hz1_2 : w1.heap.size < w2.heap.size := by omega)); (try (have hz3_2 : w3.heap.size < w2.heap.size := by omega)); (try (have hz4_2 : w4.heap.size < w2.heap.size := by omega)); (try (have hz5_2 : w5.heap.size < w2.heap.size := by omega)); (try (have hzc_2 : wc.heap.size < w2.heap.size := by omega)); (try (have hy1_2 : w.heap.size + 1 < w2.heap.size := by omega)); (try (have hy2_2 : w.heap.size + 2 < w2.heap.size := by omega)); (try (have hy3_2 : w.heap.size + 3 < w2.heap.size := by omega))) | (go_at_call 19; refine (HI.out _ (HT.out.below (by (repeat' (first | (with_reducible exact Below.refl _ _) | (with_reducible assumption) | (with_reducible refine Below.alloc ?_ ?_ _) | (with_reducible refine Below.drew ?_) | (with_reducible refine below_drewN ?_ _) | (with_reducible refine Below.setCell ?_ ?_ _) | go_size))))).mono ?_; rintro e w3 ⟨rfl, hb3⟩; obtain ⟨hc3, hf3⟩ := bcell hb3; have hB3 : Below w.heap.size w w3 := Below.trans (by repeat' (first | (with_reducible exact Below.refl _ _) | (with_reducible assumption) | (with_reducible refine Below.alloc ?_ ?_ _) | (with_reducible refine Below.drew ?_) | (with_reducible refine below_drewN ?_ _) | (with_reducible refine Below.setCell ?_ ?_ _) | go_size)) (hb3.mono (by go_size)); (have hs3 := hb3.size); (try simp at hs3); (try (have hl3 := Nat.lt_of_succ_le hs3)); (first | (have hz3 : w.heap.size < w3.heap.size := by omega) | (have hz3 : w.heap.size ≤ w3.heap.size := by omega)); (try (have hz1_3 : w1.heap.size < w3.heap.size := by omega)); (try (have hz2_3 : w2.heap.size < w3.heap.size := by omega)); (try (have hz4_3 : w4.heap.size < w3.heap.size := by omega)); (try (have hz5_3 : w5.heap.size < w3.heap.size := by omega)); (try (have hzc_3 : wc.heap.size < w3.heap.size := by omega)); (try (have hy1_3 : w.heap.size + 1 < w3.heap.size := by omega)); (try (have hy2_3 : w.heap.size + 2 < w3.heap.size := by omega)); (try (have hy3_3 : w.heap.size + 3 < w3.heap.size := by omega))) | (go_at_call 20; refine (eqFraction_same _ _ _).mono ?_; rintro e w4 ⟨rfl, hb4⟩; obtain ⟨hc4, hf4⟩ := bcell hb4; have hB4 : Below w.heap.size w w4 := Below.trans (by repeat' (first | (with_reducible exact Below.refl _ _) | (with_reducible assumption) | (with_reducible refine Below.alloc ?_ ?_ _) | (with_reducible refine Below.drew ?_) | (with_reducible refine below_drewN ?_ _) | (with_reducible refine Below.setCell ?_ ?_ _) | go_size)) (hb4.mono (by go_size)); (have hs4 := hb4.size); (try simp at hs4); (try (have hl4 := Nat.lt_of_succ_le hs4)); (first | (have hz4 : w.heap.size < w4.heap.size := by omega) | (have hz4 : w.heap.size ≤ w4.heap.size := by omega)); (try (have hz1_4 : w1.heap.size < w4.heap.size := by omega)); (try (have hz2_4 : w2.heap.size < w4.heap.size := by omega)); (try (have hz3_4 : w3.heap.size < w4.heap.size := by omega)); (try (have hz5_4 : w5.heap.size < w4.heap.size := by omega)); (try (have hzc_4 : wc.heap.size < w4.heap.size := by omega)); (try (have hy1_4 : w.heap.size + 1 < w4.heap.size := by omega)); (try (have hy2_4 : w.heap.size + 2 < w4.heap.size := by omega)); (try (have hy3_4 : w.heap.size + 3 < w4.heap.size := by omega))))
    go_ret
    exact ⟨rfl, by repeat' (first | (with_reducible exact Below.refl _ _) | (with_reducible assumption) | (with_reducible refine Below.alloc ?_ ?_ _) | (with_reducible refine Below.drew ?_) | (with_reducible refine below_drewN ?_ _) | (with_reducible refine Below.setCell ?_ ?_ _) | go_size)⟩
  · obtain ⟨S, hS⟩ : ∃ S, bsOf s = S := ⟨_, rfl⟩
    have hsz : (1048576 : Int) < (S.size : Int) := by rw [← hS, bsOf_size]; omega
    rw [hS]
    clear hS hs0
    go_enter Tryd.func5, Tryd.ntmps5
    go_wp2
    go_ret
    exact ⟨rfl, by repeat' (first | (with_reducible exact Below.refl _ _) | (with_reducible assumption) | (with_reducible refine Below.alloc ?_ ?_ _) | (with_reducible refine Below.drew ?_) | (with_reducible refine below_drewN ?_ _) | (with_reducible refine Below.setCell ?_ ?_ _) | go_size)⟩
end Go.Proofs.YtklhmaegpejdbaaDoor.Pf
