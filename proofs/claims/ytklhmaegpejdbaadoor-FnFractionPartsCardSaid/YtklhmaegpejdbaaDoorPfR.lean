/- spec.frRead. -/
import Derived.Test.YtklhmaegpejdbaaDoorPfP
import Derived.Test.YtklhmaegpejdbaaDoorPzH
namespace Go.Proofs.YtklhmaegpejdbaaDoor
open Go.RowKit
set_option linter.unusedVariables false
set_option linter.unusedSimpArgs false
set_option maxRecDepth 100000
theorem numV_ten {l : List UInt8} (h : AllDg l) (hl : l.length ≤ 10) : 0 ≤ numV l ∧ numV l ≤ 9999999999 := by
  have h1 := numV_range h
  have h2 := pow_ten hl
  omega
theorem not_all {l : List UInt8} {k : Nat} {b : UInt8} (hb : l[k]? = some b) (h : isDg b = false) : ¬ l.all isDg = true := fun e => by
  have := all_iff.1 e b (List.mem_of_getElem? hb)
  rw [h] at this; cases this
set_option maxHeartbeats 4000000 in
theorem frRead_any (l : List UInt8) (hl : l.length ≤ 1048576) (w : World) :
    Calls Tryd.prog 97 #[.string (bsOf l)] w fun e w' => e = .returned (.int .i64 (frR l)) ∧ w = w' := by
  obtain ⟨S, hS⟩ : ∃ S, bsOf l = S := ⟨_, rfl⟩
  have hss : S.size = l.length := by rw [← hS, bsOf_size]
  have HS := Lib.hid hS
  by_cases hlen : 1 ≤ l.length ∧ l.length ≤ 10
  · have hin : inB (S.size : Int) 1 10 = true := inB_iff.2 ⟨by omega, by omega⟩
    obtain ⟨b, hb⟩ : ∃ b, l[0]? = some b := ⟨_, List.getElem?_eq_getElem (by omega)⟩
    have k0 : ∀ w : World, (Instr.index 9 (.string S) (.int .i64 0)).run Tryd.prog w = .ok (.int .u8 (b.toNat : Int)) w := fun w => by rw [← hS]; exact index_at l 0 b hb w
    have hhead : l.head? = some b := by rw [List.head?_eq_getElem?]; exact hb
    have HSS := Lib.hid hss
    have HL := Lib.hid hlen
    by_cases hz : b = 48 ∧ 1 < l.length
    · have h1 : ((b.toNat : Int) == 48) = true := by rw [hz.1]; rfl
      have h2 : (1 : Int) < (S.size : Int) := by omega
      have HR := Lib.hid (show frR l = -1 from frR_no (fun h => h.2.1 ⟨by rw [hhead, hz.1], hz.2⟩))
      rw [hS, HR.out]
      clear hss hb hhead hz
      go_enter Tryd.func97, Tryd.ntmps97
      go_wp2_with (go_at_call 43; refine (l1In_any _ _ _ _).mono ?_; rintro e w' ⟨rfl, rfl⟩)
      go_ret
      exact ⟨rfl, rfl⟩
    · have HZ : Hid (¬ (l.head? = some 48 ∧ 1 < l.length)) := Lib.hid (fun h => hz ⟨by have := h.1; rw [hhead] at this; injection this, h.2⟩)
      have hcase : ((b.toNat : Int) == 48) = false ∨ (((b.toNat : Int) == 48) = true ∧ ¬ (1 : Int) < (S.size : Int)) := by
        by_cases h48 : b = 48
        · refine .inr ⟨by rw [h48]; rfl, ?_⟩
          intro h1
          exact hz ⟨h48, by omega⟩
        · refine .inl (beq_false_of_ne fun e => h48 ?_)
          apply UInt8.toNat_inj.1; show b.toNat = 48; omega
      rw [hS]
      clear hss hb hhead hz
      rcases hcase with h1 | ⟨h1, h2⟩
      all_goals
        go_enter Tryd.func97, Tryd.ntmps97
        go_wp2_with (go_at_call 43; refine (l1In_any _ _ _ _).mono ?_; rintro e w' ⟨rfl, rfl⟩)
        go_loop [3, 4] (fun x i => ∃ (j : Nat) (X : Int), j ≤ S.size ∧ i = .int .i64 (j : Int) ∧ x = .int .i64 X ∧ Hid (X = numV (l.take j)) ∧ Hid (AllDg (l.take j)) ∧ 0 ≤ X ∧ X ≤ 9999999999) (fun _ i => S.size - (intOf i).toNat)
        case atStart => exact ⟨0, 0, by omega, rfl, rfl, Lib.hid rfl, Lib.hid AllDg.nil, by omega, by omega⟩
        case round =>
          obtain ⟨j, X, hj, rfl, rfl, HX, HA, X0, X1⟩ := hrel
          by_cases hjl : j < S.size
          · obtain ⟨c, hc⟩ : ∃ c, l[j]? = some c := ⟨_, List.getElem?_eq_getElem (by have := HSS.out; omega)⟩
            have kx : ∀ w : World, (Instr.index 9 (.string S) (.int .i64 (j : Int))).run Tryd.prog w = .ok (.int .u8 (c.toNat : Int)) w := fun w => by rw [← HS.out]; exact index_at l j c hc w
            have HC := Lib.hid hc
            have d1 : (j : Int) < (S.size : Int) := by omega
            have d2 : (c.toNat : Int) < 256 := by have := c.toNat_lt; omega
            have d3 : (S.size : Int) ≤ 10 := by have := HL.out; have := HSS.out; omega
            clear hc
            by_cases hb1 : (c.toNat : Int) < 48
            · have HF := Lib.hid (show frR l = -1 from frR_no (fun h => not_all HC.out (not_dg_lt hb1) h.2.2))
              go_wp2
              go_ret
              exact ⟨by rw [HF.out]; rfl, rfl⟩
            · by_cases hb2 : 57 < (c.toNat : Int)
              · have HF := Lib.hid (show frR l = -1 from frR_no (fun h => not_all HC.out (not_dg_gt hb2) h.2.2))
                go_wp2
                go_ret
                exact ⟨by rw [HF.out]; rfl, rfl⟩
              · have hdg : isDg c = true := isDg_iff.2 ⟨by omega, by omega⟩
                have HXn := Lib.hid (show numV (l.take (j + 1)) = 10 * X + ((c.toNat : Int) - 48) by rw [take_snoc HC.out, numV_snoc, ← HX.out]; rfl)
                have HAn : Hid (AllDg (l.take (j + 1))) := Lib.hid (by rw [take_snoc HC.out]; exact HA.out.append (AllDg.one hdg))
                have hr := numV_ten HAn.out (by rw [List.length_take]; have := HL.out; omega)
                rw [HXn.out] at hr
                have f1 : IntKind.u8.wrap ((c.toNat : Int) - 48) = (c.toNat : Int) - 48 := u8_in _ (by omega) (by omega)
                have HXm : Hid (10 * X + ((c.toNat : Int) - 48) = numV (l.take (j + 1))) := Lib.hid HXn.out.symm
                have HAm := HAn
                clear HXn hdg HAn
                go_wp2
                go_round
                case rel => exact ⟨j + 1, _, by omega, by go_num, rfl, HXm, HAm, by omega, by omega⟩
                case measure => simp [intOf]; omega
          · have hje : l.take j = l := List.take_of_length_le (by have := HSS.out; omega)
            have HR := Lib.hid (show frR l = X by rw [HX.out, hje]; exact frR_yes HL.out HZ.out (by have := HA.out; rwa [hje] at this))
            have d1 : ¬ (j : Int) < (S.size : Int) := by omega
            clear hje
            go_wp2
            go_ret
            exact ⟨by rw [HR.out]; rfl, rfl⟩
  · have hin : inB (S.size : Int) 1 10 = false := inB_not.2 (by omega)
    have HR := Lib.hid (show frR l = -1 from frR_no (fun h => hlen h.1))
    rw [hS, HR.out]
    clear hss
    go_enter Tryd.func97, Tryd.ntmps97
    go_wp2_with (go_at_call 43; refine (l1In_any _ _ _ _).mono ?_; rintro e w' ⟨rfl, rfl⟩)
    go_ret
    exact ⟨rfl, rfl⟩
end Go.Proofs.YtklhmaegpejdbaaDoor
