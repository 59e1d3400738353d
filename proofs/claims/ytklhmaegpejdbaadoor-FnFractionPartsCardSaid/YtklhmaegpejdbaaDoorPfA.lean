/- strings.Cut at a slash, strconv.Atoi: the contracts that ParseFraction's walk wants. -/
import Derived.Test.YtklhmaegpejdbaaDoorPfP
import Derived.Test.YtklhmaegpejdbaaDoorShelfA
import Derived.Lib.SmallJoins
import Derived.WalkSpells
import Derived.BigQuiet
namespace Go.Proofs.YtklhmaegpejdbaaDoor
open Go.RowKit
set_option linter.unusedVariables false
set_option linter.unusedSimpArgs false
set_option maxRecDepth 100000
/-- The two errors of strconv's hold interface values. -/
def Errs (w : World) : Prop := (∃ tp p, w.var? Tryd.prog "strconv.ErrSyntax" = some #[.iface tp p]) ∧ ∃ tp p, w.var? Tryd.prog "strconv.ErrRange" = some #[.iface tp p]
theorem var_below {w w' : World} {n : String} {cs : Array Value} (h : w.var? Tryd.prog n = some cs) (hb : Below w.heap.size w w') : w'.var? Tryd.prog n = some cs := by
  unfold World.var? at h ⊢
  cases hg : Tryd.prog.globalNamed n with
  | none => simp [hg] at h
  | some g =>
    rw [hg] at h
    simp only [Option.bind_some] at h ⊢
    have hlt : g < w.heap.size := by
      rcases Nat.lt_or_ge g w.heap.size with h' | h'
      · exact h'
      · rw [Array.getElem?_eq_none h'] at h; cases h
    rw [hb.block g hlt]
    exact h
theorem Errs.below {w w' : World} (h : Errs w) (hb : Below w.heap.size w w') : Errs w' := by
  obtain ⟨⟨t, p, h1⟩, t2, p2, h2⟩ := h
  exact ⟨⟨t, p, var_below h1 hb⟩, t2, p2, var_below h2 hb⟩
theorem bsOf_toList (l : List UInt8) : (bsOf l).data.toList = l := by simp [bsOf]
theorem atoi_ok {l : List UInt8} {n : Int} (hl : l.length ≤ 1048576) (h : Lib.atoiAll l = .ok n) (w : World) :
    Calls Tryd.prog 58 #[.string (bsOf l)] w fun e w' => e = .returned (.tuple #[.int .i64 n, .nilIface]) ∧ Below w.heap.size w w' := by
  refine (strconv_Atoi_ok (bsOf l) (by rw [bsOf_size]; omega) n (by rw [bsOf_toList]; exact h) w).mono ?_
  rintro e w' ⟨rfl, h2⟩
  refine ⟨rfl, ?_⟩
  rcases h2 with rfl | ⟨t, rfl⟩
  · exact Below.refl _ _
  · exact Go.Joins.below_bytesWorld _ _ _ _ (Nat.le_refl _)
/-- Whatever the string: a number and nil, or a number and an error. -/
theorem atoi_any (l : List UInt8) (hl : l.length ≤ 1048576) (w : World) (he : Errs w) :
    Calls Tryd.prog 58 #[.string (bsOf l)] w fun e w' => (∃ (v : Int) (er : Value), e = .returned (.tuple #[.int .i64 v, er]) ∧ (-9223372036854775808 ≤ v ∧ v ≤ 9223372036854775807) ∧ ((er = .nilIface ∧ Lib.atoiAll l = .ok v) ∨ ∃ t p, er = .iface t p)) ∧ Below w.heap.size w w' := by
  obtain ⟨⟨t, p, h1⟩, t2, p2, h2⟩ := he
  cases hc : Lib.atoiAll l
  · refine (atoi_ok hl hc w).mono ?_
    rintro e w' ⟨rfl, h3⟩
    exact ⟨⟨_, _, rfl, Lib.atoiAll_bounds hc, .inl ⟨rfl, rfl⟩⟩, h3⟩
  · refine (strconv_Atoi_odd_var (bsOf l) (by rw [bsOf_size]; omega) (by rw [bsOf_toList, hc]; intro v hv; cases hv) (by rw [bsOf_toList, hc]; intro hv; cases hv) t p w h1).mono ?_
    rintro e w' ⟨N, rfl, _, _, hb⟩
    exact ⟨⟨0, _, rfl, ⟨by omega, by omega⟩, .inr ⟨_, _, rfl⟩⟩, hb⟩
  · refine (strconv_Atoi_range_var (bsOf l) (by rw [bsOf_size]; omega) (by rw [bsOf_toList]; exact hc) t2 p2 w h2).mono ?_
    rintro e w' ⟨N, rfl, _, _, hb⟩
    exact ⟨⟨_, _, rfl, by unfold Lib.atoiSat; split <;> omega, .inr ⟨_, _, rfl⟩⟩, hb⟩
theorem ext_to (l : List UInt8) (i : Nat) : (bsOf l).extract 0 i = bsOf (l.take i) := by
  apply ByteArray.ext
  apply Array.toList_inj.1
  unfold bsOf
  rw [ByteArray.data_extract]
  simp
theorem ext_from (l : List UInt8) (i : Nat) : (bsOf l).extract i (bsOf l).size = bsOf (l.drop i) := by
  apply ByteArray.ext
  apply Array.toList_inj.1
  unfold bsOf
  rw [ByteArray.data_extract]
  simp [ByteArray.size, List.take_of_length_le]
theorem ext_mid (l : List UInt8) (i j : Nat) : (bsOf l).extract i j = bsOf ((l.take j).drop i) := by
  apply ByteArray.ext
  apply Array.toList_inj.1
  unfold bsOf
  rw [ByteArray.data_extract]
  simp [List.drop_take]
theorem index_call (S : ByteArray) (l : List UInt8) (hS : bsOf l = S) (w : World) :
    Calls Tryd.prog 114 #[.string S, .string ⟨#[47]⟩] w fun e w' => e = .returned (.int .i64 (Lib.indexByte l 47)) ∧ w' = w := by
  have := stringslite_Index_one S 47 w
  rw [← hS, bsOf_toList] at this
  rw [← hS]
  exact this
set_option maxHeartbeats 2000000 in
theorem cut_lite (l : List UInt8) (hl : l.length ≤ 1048576) (w : World) :
    Calls Tryd.prog 98 #[.string (bsOf l), .string ⟨#[47]⟩] w fun e w' => e = .returned (.tuple #[.string (bsOf (cutL l).1), .string (bsOf (cutL l).2.1), .bool (cutL l).2.2]) ∧ Below w.heap.size w w' := by
  obtain ⟨S, hS⟩ : ∃ S, bsOf l = S := ⟨_, rfl⟩
  have hlt := idx_lt l 47
  have hge := Lib.indexByte_ge l 47
  have hss : S.size = l.length := by rw [← hS, bsOf_size]
  by_cases h0 : 0 ≤ Lib.indexByte l 47
  · obtain ⟨i, hi⟩ := Int.eq_ofNat_of_zero_le h0
    have HI := Lib.hid (index_call S l hS)
    rw [hi] at HI
    have e1 : (bsOf (cutL l).1 = S.extract 0 i) := by unfold cutL; rw [if_pos h0, hi, ← hS, ext_to]; rfl
    have e2 : (bsOf (cutL l).2.1 = S.extract (i + 1) S.size) := by unfold cutL; rw [if_pos h0, hi, ← hS, ext_from]; rfl
    have e3 : (cutL l).2.2 = true := by unfold cutL; rw [if_pos h0]
    obtain ⟨A, hA⟩ : ∃ A, S.extract 0 i = A := ⟨_, rfl⟩
    obtain ⟨B, hB⟩ : ∃ B, S.extract (i + 1) S.size = B := ⟨_, rfl⟩
    rw [e1, e2, e3, hS, hA, hB]
    have b0 : (i : Int) < (S.size : Int) := by omega
    have b1 : (i : Int) ≤ (S.size : Int) := by omega
    have b2 : (i : Int) + 1 ≤ (S.size : Int) := by omega
    have b3 : (i : Int) ≤ 1048576 := by omega
    have kx : ∀ w : World, (Instr.slice 9 (.string S) none (some (.int .i64 (i : Int))) none).run Tryd.prog w = .ok (.string A) w := fun w => by
      rw [run_slice_string_h (ht := stringU) (h0 := by omega) (h2 := b1), Int.toNat_natCast, hA]
    have ky : ∀ w : World, (Instr.slice 9 (.string S) (some (.int .i64 ((i : Int) + 1))) none none).run Tryd.prog w = .ok (.string B) w := fun w => by
      rw [run_slice_string_l (ht := stringU) (h0 := by omega) (h1 := b2), show ((i : Int) + 1).toNat = i + 1 by omega, hB]
    clear hS hlt hge hss h0 hi e1 e2 e3 hA hB
    go_enter Tryd.func98, Tryd.ntmps98
    go_wp2_with (go_at_call 114; (with_reducible refine (HI.out _).mono ?_); rintro e w' ⟨rfl, rfl⟩)
    go_quiet (fail)
    go_wp2
    go_returns
    exact ⟨rfl, by repeat' (first | (with_reducible exact Below.refl _ _) | (with_reducible assumption) | (with_reducible refine Below.alloc ?_ ?_ _) | (with_reducible refine Below.drew ?_) | (with_reducible refine below_drewN ?_ _) | (with_reducible refine Below.setCell ?_ ?_ _) | go_size)⟩
  · have e1 : cutL l = (l, [], false) := by unfold cutL; rw [if_neg h0]
    have HI := Lib.hid (index_call S l hS)
    rw [e1]
    obtain ⟨i, hi⟩ : ∃ i, Lib.indexByte l 47 = i := ⟨_, rfl⟩
    rw [hi] at HI h0
    dsimp only
    rw [hS]
    have b0 : i < 0 := by omega
    have HE := Lib.hid (show bsOf [] = ⟨#[]⟩ from rfl)
    rw [HE.out]
    clear hS hlt hge hss hi e1
    go_enter Tryd.func98, Tryd.ntmps98
    go_wp2_with (go_at_call 114; (with_reducible refine (HI.out _).mono ?_); rintro e w' ⟨rfl, rfl⟩)
    go_returns
    exact ⟨rfl, by repeat' (first | (with_reducible exact Below.refl _ _) | (with_reducible assumption) | (with_reducible refine Below.alloc ?_ ?_ _) | (with_reducible refine Below.drew ?_) | (with_reducible refine below_drewN ?_ _) | (with_reducible refine Below.setCell ?_ ?_ _) | go_size)⟩
theorem cut_call (l : List UInt8) (hl : l.length ≤ 1048576) (w : World) :
    Calls Tryd.prog 57 #[.string (bsOf l), .string ⟨#[47]⟩] w fun e w' => e = .returned (.tuple #[.string (bsOf (cutL l).1), .string (bsOf (cutL l).2.1), .bool (cutL l).2.2]) ∧ Below w.heap.size w w' := by
  obtain ⟨S, hS⟩ : ∃ S, bsOf l = S := ⟨_, rfl⟩
  obtain ⟨A, hA⟩ : ∃ A, bsOf (cutL l).1 = A := ⟨_, rfl⟩
  obtain ⟨B, hB⟩ : ∃ B, bsOf (cutL l).2.1 = B := ⟨_, rfl⟩
  obtain ⟨f, hf⟩ : ∃ f, (cutL l).2.2 = f := ⟨_, rfl⟩
  have HC := Lib.hid (cut_lite l hl)
  rw [hS, hA, hB, hf] at HC ⊢
  go_enter Tryd.func57, Tryd.ntmps57
  go_wp2_with fail
  (go_at_call 98; (with_reducible refine (HC.out _).mono ?_); rintro e w1 ⟨rfl, hb1⟩)
  go_wp2
  go_returns
  exact ⟨rfl, hb1⟩
end Go.Proofs.YtklhmaegpejdbaaDoor
