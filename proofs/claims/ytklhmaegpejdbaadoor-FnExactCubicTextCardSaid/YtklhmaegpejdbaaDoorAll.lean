/- A slice of ints that reads as a list; the contract of spec.l1All: whether all numbers lie in a range. -/
import Derived.Test.YtklhmaegpejdbaaDoorInside
namespace Go.Proofs.YtklhmaegpejdbaaDoor
open Go.RowKit
set_option linter.unusedVariables false
/-- The slice at address A reads as the numbers xs. -/
def IntsAt (w : World) (A : Option Addr) (xs : List Int) : Prop := xs = [] ∨ ∃ ad, A = some ad ∧ ∀ (k : Nat) (x : Int), xs[k]? = some x → w.cell? (ad.add k) = some (.int .i64 x)
def allB (l : List Int) (lo hi : Int) : Bool := l.all fun x => inB x lo hi
theorem allB_no {xs : List Int} {lo hi x : Int} {k : Nat} (hx : xs[k]? = some x) (h : inB x lo hi = false) : allB xs lo hi = false := by
  rw [← Bool.not_eq_true]
  intro ha
  have := List.all_eq_true.1 ha x (List.mem_of_getElem? hx)
  rw [h] at this
  cases this
theorem allB_yes {xs : List Int} {lo hi : Int} (h : ∀ (j : Nat) (x : Int), j < xs.length → xs[j]? = some x → inB x lo hi = true) : allB xs lo hi = true :=
  List.all_eq_true.2 fun x hx => by
    obtain ⟨k, hk⟩ := List.mem_iff_getElem?.1 hx
    exact h k x (by have := (List.getElem?_eq_some_iff.1 hk).1; exact this) hk

set_option maxHeartbeats 400000 in
theorem l1All_some (xs : List Int) (ad : Addr) (cap : Nat) (lo hi : Int) (w : World) (hl : xs.length ≤ 4611686018427387904)
    (hr : ∀ (k : Nat) (x : Int), xs[k]? = some x → w.cell? (ad.add k) = some (.int .i64 x)) :
    Calls Tryd.prog 95 #[.slice (some ad) xs.length cap, .int .i64 lo, .int .i64 hi] w fun e w' => e = .returned (.bool (allB xs lo hi)) ∧ w = w' := by
  have HR := Lib.hid hr
  clear hr
  go_enter Tryd.func95, Tryd.ntmps95
  go_wp2
  go_loop [11] (fun i => ∃ k : Nat, k ≤ xs.length ∧ i = .int .i64 k ∧ Hid (∀ (j : Nat) (x : Int), j < k → xs[j]? = some x → inB x lo hi = true)) (fun i => xs.length - (intOf i).toNat)
  case atStart => exact ⟨0, by omega, rfl, fun j x hj => absurd hj (by omega)⟩
  case round =>
    obtain ⟨k, hk, rfl, H⟩ := hrel
    by_cases hlt : k < xs.length
    · obtain ⟨x, hx⟩ : ∃ x, xs[k]? = some x := ⟨_, List.getElem?_eq_getElem hlt⟩
      have hc := HR.out k x hx
      have HX := Lib.hid hx
      clear hx
      rcases Bool.eq_false_or_eq_true (inB x lo hi) with hi1 | hi1
      · go_wp2_with (go_at_call 43; refine (l1In_any _ _ _ _).mono ?_; rintro e w' ⟨rfl, rfl⟩)
        go_round
        case rel => exact ⟨k + 1, by omega, by go_num, fun j y hj hy => by
          rcases Nat.lt_or_ge j k with h3 | h3
          · exact H.out j y h3 hy
          · obtain rfl : j = k := by omega
            rw [HX.out] at hy
            cases hy
            exact hi1⟩
        case measure => simp [intOf]; omega
      · have HN := Lib.hid (allB_no HX.out hi1)
        go_wp2_with (go_at_call 43; refine (l1In_any _ _ _ _).mono ?_; rintro e w' ⟨rfl, rfl⟩)
        go_ret
        exact ⟨ret_bool HN.out.symm, rfl⟩
    · have HN := Lib.hid (allB_yes (xs := xs) (lo := lo) (hi := hi) fun j x hj hx => H.out j x (by omega) hx)
      go_wp2
      go_ret
      exact ⟨ret_bool HN.out.symm, rfl⟩
theorem l1All_any (xs : List Int) (A : Option Addr) (cap : Nat) (lo hi : Int) (w : World) (hl : xs.length ≤ 4611686018427387904) (hr : IntsAt w A xs) :
    Calls Tryd.prog 95 #[.slice A xs.length cap, .int .i64 lo, .int .i64 hi] w fun e w' => e = .returned (.bool (allB xs lo hi)) ∧ w = w' := by
  rcases hr with rfl | ⟨ad, rfl, hr⟩
  · go_enter Tryd.func95, Tryd.ntmps95
    go_wp2
    go_rounds 1
    go_ret
    exact ⟨rfl, rfl⟩
  · exact l1All_some xs ad cap lo hi w hl hr
end Go.Proofs.YtklhmaegpejdbaaDoor
