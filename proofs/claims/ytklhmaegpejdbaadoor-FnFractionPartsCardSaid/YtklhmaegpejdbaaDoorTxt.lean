/- spec.l1Num and spec.l1Int: decimal numerals. -/
import Derived.Test.YtklhmaegpejdbaaDoorFrame
import Derived.Lib.ItoaLen
import Derived.Laws.Concat
import Derived.Lib.SlBytesRow
import Derived.Deep.RegionHeld3
import Derived.Deep.DeepCutAuto
namespace Go.Proofs.YtklhmaegpejdbaaDoor
open Go.RowKit
set_option linter.unusedVariables false
set_option linter.unusedSimpArgs false
set_option maxRecDepth 100000
/-- The decimal numeral, as a Go string. -/
def decS (u : Nat) : ByteArray := ⟨(Lib.decDigits u).toArray⟩
theorem decDigits_small {u : Nat} (h : u < 10) : Lib.decDigits u = [UInt8.ofNat (48 + u)] := by rw [Lib.decDigits, dif_pos h]
theorem decDigits_big {u : Nat} (h : ¬ u < 10) : Lib.decDigits u = Lib.decDigits (u / 10) ++ [UInt8.ofNat (48 + u % 10)] := by rw [Lib.decDigits, dif_neg h]
theorem byteU : Tryd.prog.underlying 5 = some (.int .u8) := by kernel_rfl
theorem bytesU : Tryd.prog.underlying 51 = some (.slice 5) := by kernel_rfl
theorem stringU : Tryd.prog.underlying 9 = some .string := by kernel_rfl
/-- 'string([]byte{x})', x a decimal digit. -/
theorem conv_one (d : Nat) (x : Int) (b : UInt8) (hb : Hid (UInt8.ofNat (48 + d) = b)) (hx : x = 48 + (d : Int)) (hd : d < 10) (w : World) :
    (convert 51 9 (.slice (some ⟨w.heap.size, 0, none⟩) 1 1)).run Tryd.prog (w.alloc (.cells #[.int .u8 x] 5)) = .ok (.string ⟨#[b]⟩) (w.alloc (.cells #[.int .u8 x] 5)) := by
  refine Lib.run_convert_whole _ _ _ _ bytesU byteU stringU w.heap.size 0 ⟨#[b]⟩ (fun i hi => ?_) 1
  have hi2 : i < 1 := hi
  obtain rfl : i = 0 := by omega
  have h2 : (UInt8.ofNat (48 + d)).toNat = 48 + d := by simp; omega
  have h3 : (((⟨#[b]⟩ : ByteArray)[0]).toNat : Int) = x := by
    rw [hx]
    show ((b.toNat : Nat) : Int) = _
    rw [← hb.out, h2]; omega
  rw [h3]
  simp [go_sem]
theorem conv_cell (d : Nat) (x : Int) (b : UInt8) (hb : Hid (UInt8.ofNat (48 + d) = b)) (hx : x = 48 + (d : Int)) (hd : d < 10) (w : World) (g : Nat) (hc : w.cell? ⟨g, 0, none⟩ = some (.int .u8 x)) :
    (convert 51 9 (.slice (some ⟨g, 0, none⟩) 1 1)).run Tryd.prog w = .ok (.string ⟨#[b]⟩) w := by
  refine Lib.run_convert_whole _ _ _ _ bytesU byteU stringU g 0 ⟨#[b]⟩ (fun i hi => ?_) 1
  have hi2 : i < 1 := hi
  obtain rfl : i = 0 := by omega
  have h2 : (UInt8.ofNat (48 + d)).toNat = 48 + d := by simp; omega
  have h3 : (((⟨#[b]⟩ : ByteArray)[0]).toNat : Int) = x := by
    rw [hx]
    show ((b.toNat : Nat) : Int) = _
    rw [← hb.out, h2]; omega
  rw [h3]
  exact hc
theorem u8_in (x : Int) (h0 : 0 ≤ x) (h1 : x ≤ 255) : IntKind.u8.wrap x = x := by
  unfold IntKind.wrap
  simp [IntKind.signed, IntKind.bits]
  omega
/-- The numeral with one digit more. -/
def snoc (s : ByteArray) (b : UInt8) : ByteArray := s ++ ⟨#[b]⟩
set_option maxHeartbeats 4000000 in
theorem l1Num_any : ∀ (u : Nat), u ≤ 9223372036854775807 → ∀ w : World, Calls Tryd.prog 88 #[.int .i64 (u : Int)] w fun e w' => e = .returned (.string (decS u)) ∧ Below w.heap.size w w' := fun u => by
  induction u using Nat.strongRecOn with
  | _ u ih =>
    intro hu w
    by_cases h : u < 10
    · have hi : (u : Int) < 10 := by omega
      obtain ⟨b, HBy⟩ : ∃ b, Hid (UInt8.ofNat (48 + u) = b) := ⟨_, Lib.hid rfl⟩
      have HD := Lib.hid (show decS u = ⟨#[b]⟩ by unfold decS; rw [decDigits_small h, ← HBy.out])
      have kc := fun (w : World) => conv_one u (48 + (u : Int)) b HBy rfl h w
      clear ih
      rw [HD.out]
      go_enter Tryd.func88, Tryd.ntmps88
      go_wp2
      go_ret
      exact ⟨rfl, by repeat' (first | (with_reducible exact Below.refl _ _) | (with_reducible assumption) | (with_reducible refine Below.alloc ?_ ?_ _) | (with_reducible refine Below.drew ?_) | (with_reducible refine below_drewN ?_ _) | (with_reducible refine Below.setCell ?_ ?_ _) | go_size)⟩
    · have hi : ¬ (u : Int) < 10 := by omega
      obtain ⟨b, HBy⟩ : ∃ b, Hid (UInt8.ofNat (48 + u % 10) = b) := ⟨_, Lib.hid rfl⟩
      obtain ⟨s, HS⟩ : ∃ s, Hid (decS (u / 10) = s) := ⟨_, Lib.hid rfl⟩
      have HD := Lib.hid (show decS u = s ++ ⟨#[b]⟩ by
        rw [← HS.out]
        unfold decS
        apply ByteArray.ext
        apply Array.toList_inj.1
        rw [decDigits_big h, ← HBy.out]
        simp)
      have IH := Lib.hid (ih (u / 10) (by omega) (by omega))
      clear ih
      rw [HS.out, show ((u / 10 : Nat) : Int) = (u : Int) / 10 by omega] at IH
      obtain ⟨r, hr⟩ : ∃ r : Int, (u : Int) % 10 = r := ⟨_, rfl⟩
      have hr2 : r = ((u % 10 : Nat) : Int) := by omega
      have r0 : 0 ≤ r := by omega
      have r1 : r ≤ 9 := by omega
      have kc := fun (w : World) => conv_one (u % 10) (48 + r) b HBy (by omega) (by omega) w
      have kd := fun (W : World) (hc : W.cell? ⟨w.heap.size, 0, none⟩ = some (.int .u8 (48 + r))) => conv_cell (u % 10) (48 + r) b HBy (by omega) (by omega) W w.heap.size hc
      have e1 : IntKind.i64.wrap ((u : Int) / 10) = (u : Int) / 10 := IntWalk.i64_in _ (by omega)
      have e2 : (u : Int).tmod 10 = r := by rw [Int.tmod_eq_emod_of_nonneg (by omega)]; exact hr
      have e3 : IntKind.i64.wrap (48 + r) = 48 + r := IntWalk.i64_in _ (by omega)
      have e4 : IntKind.u8.wrap (48 + r) = 48 + r := u8_in _ (by omega) (by omega)
      have hsl : s.size ≤ 20 := by
        rw [← HS.out]
        show (Lib.decDigits (u / 10)).toArray.size ≤ 20
        rw [List.size_toArray, Lib.decDigits_length]
        exact Lib.nDigits_le20 _ (by omega)
      have ka := fun (w : World) => run_string_add_sum (P := Tryd.prog) (w := w) s ⟨#[b]⟩ (by show s.size + 1 ≤ _; omega)
      clear hr hr2
      rw [HD.out]
      go_enter Tryd.func88, Tryd.ntmps88
      go_upto_region 3 with fail
      go_cut [2] (fun s2 wx => s2 = .string (s ++ ⟨#[b]⟩) ∧ Hid (Below w.heap.size w wx))
      case first =>
        go_region_with ((go_at_call 88; refine (IH.out _).mono ?_; rintro e w2 ⟨rfl, hb2⟩; obtain ⟨hc2, hf2⟩ := bcell hb2; have hB2 : Below w.heap.size w w2 := Below.trans (by repeat' (first | (with_reducible exact Below.refl _ _) | (with_reducible assumption) | (with_reducible refine Below.alloc ?_ ?_ _) | (with_reducible refine Below.drew ?_) | (with_reducible refine below_drewN ?_ _) | (with_reducible refine Below.setCell ?_ ?_ _) | go_size)) (hb2.mono (by go_size)); (have hs2 := hb2.size); (try simp at hs2); (try (have hl2 := Nat.lt_of_succ_le hs2)); (first | (have hz2 : w.heap.size < w2.heap.size := by omega) | (have hz2 : w.heap.size ≤ w2.heap.size := by omega)); (try (have hz1_2 : w1.heap.size < w2.heap.size := by omega)); (try (have hz3_2 : w3.heap.size < w2.heap.size := by omega)); (try (have hz4_2 : w4.heap.size < w2.heap.size := by omega)); (try (have hz5_2 : w5.heap.size < w2.heap.size := by omega)); (try (have hzc_2 : wc.heap.size < w2.heap.size := by omega)); (try (have hy1_2 : w.heap.size + 1 < w2.heap.size := by omega)); (try (have hy2_2 : w.heap.size + 2 < w2.heap.size := by omega)); (try (have hy3_2 : w.heap.size + 3 < w2.heap.size := by omega))))
        all_goals (go_wp2_with fail; go_meet; exact ⟨rfl, Lib.hid (by repeat' (first | (with_reducible exact Below.refl _ _) | (with_reducible assumption) | (with_reducible refine Below.alloc ?_ ?_ _) | (with_reducible refine Below.drew ?_) | (with_reducible refine below_drewN ?_ _) | (with_reducible refine Below.setCell ?_ ?_ _) | go_size))⟩)
      case rest =>
        obtain ⟨rfl, HB⟩ := hcut
        go_wp2
        go_ret
        exact ⟨rfl, HB.out⟩
end Go.Proofs.YtklhmaegpejdbaaDoor
