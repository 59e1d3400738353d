/- Contracts of laws.big, sameInts, sameLists; rows and lists of pairs, read. -/
import Derived.Test.YtklhmaegpejdbaaPmLaw
import Derived.Test.YtklhmaegpejdbaaDrawR
import Derived.Test.YtklhmaegpejdbaaDrawL
import Derived.Test.YtklhmaegpejdbaaIpW
namespace Go.Proofs.Ytklhmaegpejdbaa.Pm
open Go.RowKit
set_option linter.unusedVariables false
set_option linter.unusedSimpArgs false
set_option maxRecDepth 100000
theorem hidEq {α : Type} (x : α) : ∃ y, Hid (x = y) := ⟨x, Lib.hid rfl⟩
theorem loose {P : Program} {f : FuncId} {args : Array Value} {w : World} {v : Value} (h : Calls P f args w fun e w' => e = .returned v ∧ w = w') : Calls P f args w fun e w' => e = .returned v ∧ Below w.heap.size w w' :=
  h.mono fun e w' ⟨h1, h2⟩ => ⟨h1, h2 ▸ Below.refl _ _⟩
def bigB (l m : Int) : Bool := decide (1048576 < l) || decide (1048576 - l < m)
theorem big_any (A0 : Option Addr) (l0 c0 : Nat) (A1 : Option Addr) (l1 c1 : Nat) (h0 : l0 ≤ 9223372036854775807) (h1 : l1 ≤ 9223372036854775807) (w : World) :
    Calls Try.prog 14 #[.slice A0 l0 c0, .slice A1 l1 c1] w fun e w' => e = .returned (.bool (bigB l0 l1)) ∧ Below w.heap.size w w' := by
  by_cases a : 1048576 < (l0 : Int)
  · have e : bigB l0 l1 = true := by simp [bigB, a]
    rw [e]
    go_enter Try.func14, Try.ntmps14
    go_wp2
    go_ret
    exact ⟨rfl, by repeat' (first | (with_reducible exact Below.refl _ _) | (with_reducible assumption) | (with_reducible refine Below.alloc ?_ ?_ _) | (with_reducible refine Below.drew ?_) | (with_reducible refine below_drewN ?_ _) | (with_reducible refine Below.setCell ?_ ?_ _) | go_size)⟩
  · by_cases b : 1048576 - (l0 : Int) < (l1 : Int)
    · have e : bigB l0 l1 = true := by simp [bigB, b]
      rw [e]
      go_enter Try.func14, Try.ntmps14
      go_wp2
      go_ret
      exact ⟨rfl, by repeat' (first | (with_reducible exact Below.refl _ _) | (with_reducible assumption) | (with_reducible refine Below.alloc ?_ ?_ _) | (with_reducible refine Below.drew ?_) | (with_reducible refine below_drewN ?_ _) | (with_reducible refine Below.setCell ?_ ?_ _) | go_size)⟩
    · have e : bigB l0 l1 = false := by simp [bigB, a, b]
      rw [e]
      go_enter Try.func14, Try.ntmps14
      go_wp2
      go_ret
      exact ⟨rfl, by repeat' (first | (with_reducible exact Below.refl _ _) | (with_reducible assumption) | (with_reducible refine Below.alloc ?_ ?_ _) | (with_reducible refine Below.drew ?_) | (with_reducible refine below_drewN ?_ _) | (with_reducible refine Below.setCell ?_ ?_ _) | go_size)⟩
theorem sameInts_dr (xs : List Int) (g h cap cap' : Nat) (w : World) (hl : xs.length ≤ 4611686018427387904)
    (hr : ∀ (k : Nat) (x : Int), xs[k]? = some x → w.cell? ⟨g, k, none⟩ = some (.int .i64 x)) (hr2 : ∀ (k : Nat) (x : Int), xs[k]? = some x → w.cell? ⟨h, k, none⟩ = some (.int .i64 x)) :
    Calls Try.prog 63 #[.slice (some ⟨g, 0, none⟩) xs.length cap, .slice (some ⟨h, 0, none⟩) xs.length cap'] w fun e w' => e = .returned (.bool true) ∧ ∃ m, w' = w.drewN m := by
  have HR := Lib.hid hr
  have HR2 := Lib.hid hr2
  clear hr hr2
  go_enter Try.func63, Try.ntmps63
  go_wp2
  go_loopw [13] (fun i wr => ∃ k : Nat, k ≤ xs.length ∧ i = .int .i64 k ∧ ∃ m, wr = w.drewN m) (fun i _ => xs.length - (intOf i).toNat)
  case atStart => exact ⟨0, by omega, rfl, 0, rfl⟩
  case round =>
    obtain ⟨k, hk, rfl, m, rfl⟩ := hrel
    by_cases hlt : k < xs.length
    · obtain ⟨x, hx⟩ : ∃ x, xs[k]? = some x := ⟨_, List.getElem?_eq_getElem hlt⟩
      have hc := HR.out k x hx
      have hc2 := HR2.out k x hx
      have HX := Lib.hid hx
      have b0 : (0 : Int) ≤ (k : Int) := by omega
      have b1 : (k : Int) < (xs.length : Int) := by omega
      clear hx
      go_wp2_with fail
      go_quiet (fail)
      go_wp2
      go_roundw
      case rel => exact ⟨k + 1, by omega, by go_num, _, rfl⟩
      case measure => simp [intOf]; omega
    · go_wp2
      go_ret
      exact ⟨rfl, m, rfl⟩
theorem sameInts_none (A A' : Option Addr) (cap cap' : Nat) (w : World) :
    Calls Try.prog 63 #[.slice A 0 cap, .slice A' 0 cap'] w fun e w' => e = .returned (.bool true) ∧ Below w.heap.size w w' := by
  go_enter Try.func63, Try.ntmps63
  go_wp2
  go_rounds 1
  go_ret
  exact ⟨rfl, Below.refl _ _⟩
theorem sameInts_same {B B' : Nat} {v v' : Value} {xs : List Int} {w : World} (h : Nums w B v xs) (h2 : Nums w B' v' xs) (hl : xs.length ≤ 4611686018427387904) :
    Calls Try.prog 63 #[v, v'] w fun e w' => e = .returned (.bool true) ∧ Below w.heap.size w w' := by
  rcases h.shape with ⟨rfl, rfl⟩ | ⟨g, cap, rfl, _, _, hr, _⟩
  · rcases h2.shape with ⟨rfl, _⟩ | ⟨g', cap', rfl, _⟩
    · exact sameInts_none _ _ _ _ _
    · exact sameInts_none _ _ _ _ _
  · rcases h2.shape with ⟨rfl, rfl⟩ | ⟨g', cap', rfl, _, _, hr2, _⟩
    · exact sameInts_none _ _ _ _ _
    · exact (sameInts_dr xs g g' cap cap' w hl hr hr2).mono fun e w' ⟨h1, m, h2⟩ => ⟨h1, h2 ▸ below_drewN (Below.refl _ _) m⟩

theorem same_rows {w : World} {B B' g h : Nat} {x y : Int} (k : Row w B g 2 2 [x, y]) (k' : Row w B' h 2 2 [x, y]) :
    Calls Try.prog 63 #[rowV g, rowV h] w fun e w' => e = .returned (.bool true) ∧ ∃ m, w' = w.drewN m :=
  sameInts_dr [x, y] g h 2 2 w (by simp) (fun i u hu => k.cell hu) (fun i u hu => k'.cell hu)
set_option maxHeartbeats 1000000 in
theorem sameLists_some {B B' a a' cap cap' : Nat} {gs hs : List Nat} {ps : List (Int × Int)} {w : World} (hl : ps.length ≤ 1000000000000)
    (h : Pairs w B (.slice (some ⟨a, 0, none⟩) ps.length cap) gs ps) (h' : Pairs w B' (.slice (some ⟨a', 0, none⟩) ps.length cap') hs ps)
    (hc : ∀ i g, gs[i]? = some g → w.cell? ⟨a, i, none⟩ = some (rowV g)) (hc' : ∀ i g, hs[i]? = some g → w.cell? ⟨a', i, none⟩ = some (rowV g)) :
    Calls Try.prog 49 #[.slice (some ⟨a, 0, none⟩) ps.length cap, .slice (some ⟨a', 0, none⟩) ps.length cap'] w fun e w' => e = .returned (.bool true) ∧ Below w.heap.size w w' := by
  have H := Lib.hid h
  have H' := Lib.hid h'
  have HC := Lib.hid hc
  have HC' := Lib.hid hc'
  clear h h' hc hc'
  go_enter Try.func49, Try.ntmps49
  go_wp2
  go_loopw [13] (fun i wr => ∃ k : Nat, k ≤ ps.length ∧ i = .int .i64 k ∧ ∃ m, wr = w.drewN m) (fun i _ => ps.length - (intOf i).toNat)
  case atStart => exact ⟨0, by omega, rfl, 0, rfl⟩
  case round =>
    obtain ⟨k, hk, rfl, m, rfl⟩ := hrel
    by_cases hlt : k < ps.length
    · obtain ⟨p, hp⟩ : ∃ p, ps[k]? = some p := ⟨_, List.getElem?_eq_getElem hlt⟩
      obtain ⟨g, hg, hrow⟩ := H.out.row hp
      obtain ⟨g', hg', hrow'⟩ := H'.out.row hp
      have hc := HC.out k g hg
      have hc' := HC'.out k g' hg'
      have R := Lib.hid hrow
      have R' := Lib.hid hrow'
      have b0 : (0 : Int) ≤ (k : Int) := by omega
      have b1 : (k : Int) < (ps.length : Int) := by omega
      clear hp hg hg' hrow hrow'
      go_wp2_with fail
      go_quiet ((go_at_call 63; first | exact Calls.quiet_of (same_rows (R.out.drewN _) (R'.out.drewN _)) | exact quietDA (same_rows (R.out.drewN _) (R'.out.drewN _))))
      go_wp2
      go_roundw
      case rel => exact ⟨k + 1, by omega, by go_num, _, rfl⟩
      case measure => simp [intOf]; omega
    · go_wp2
      go_ret
      exact ⟨rfl, by repeat' (first | (with_reducible exact Below.refl _ _) | (with_reducible assumption) | (with_reducible refine Below.alloc ?_ ?_ _) | (with_reducible refine Below.drew ?_) | (with_reducible refine below_drewN ?_ _) | (with_reducible refine Below.setCell ?_ ?_ _) | go_size)⟩
theorem sameLists_none (w : World) :
    Calls Try.prog 49 #[.slice none 0 0, .slice none 0 0] w fun e w' => e = .returned (.bool true) ∧ Below w.heap.size w w' := by
  go_enter Try.func49, Try.ntmps49
  go_wp2
  go_rounds 1
  go_ret
  exact ⟨rfl, Below.refl _ _⟩
theorem sameLists_nones (A A' : Option Addr) (c c' : Nat) (w : World) :
    Calls Try.prog 49 #[.slice A 0 c, .slice A' 0 c'] w fun e w' => e = .returned (.bool true) ∧ Below w.heap.size w w' := by
  go_enter Try.func49, Try.ntmps49
  go_wp2
  go_rounds 1
  go_ret
  exact ⟨rfl, Below.refl _ _⟩
theorem sameLists_same {B B' : Nat} {v v' : Value} {gs hs : List Nat} {ps : List (Int × Int)} {w : World} (h : Pairs w B v gs ps) (h' : Pairs w B' v' hs ps) (hl : ps.length ≤ 1000000000000) :
    Calls Try.prog 49 #[v, v'] w fun e w' => e = .returned (.bool true) ∧ Below w.heap.size w w' := by
  rcases h.shape with ⟨rfl, rfl⟩ | ⟨a, cap, rfl, _, _, hc⟩
  · rcases h'.shape with ⟨rfl, _⟩ | ⟨a', cap', rfl, _⟩
    · exact sameLists_none _
    · exact sameLists_nones _ _ _ _ _
  · rcases h'.shape with ⟨rfl, rfl⟩ | ⟨a', cap', rfl, _, _, hc'⟩
    · exact sameLists_nones _ _ _ _ _
    · exact sameLists_some hl h h' hc hc'
theorem pairs_open {w : World} {B : Nat} {v : Value} {gs : List Nat} {ps : List (Int × Int)} (h : Pairs w B v gs ps) :
    ∃ A c, v = .slice A ps.length c ∧ ∀ (i : Nat) (p : Int × Int), ps[i]? = some p → ∃ a g, A = some ⟨a, 0, none⟩ ∧ w.cell? ⟨a, i, none⟩ = some (.slice (some ⟨g, 0, none⟩) 2 2) ∧ w.cell? ⟨g, 0, none⟩ = some (.int .i64 p.1) ∧ w.cell? ⟨g, 1, none⟩ = some (.int .i64 p.2) := by
  rcases h.shape with ⟨rfl, rfl⟩ | ⟨a, cap, rfl, _, _, hc⟩
  · exact ⟨_, _, rfl, fun i p hp => by simp at hp⟩
  · refine ⟨_, _, rfl, fun i p hp => ?_⟩
    obtain ⟨g, hg, hrow⟩ := h.row hp
    exact ⟨a, g, rfl, hc i g hg, hrow.cell (k := 0) rfl, hrow.cell (k := 1) rfl⟩
theorem nums_open {w : World} {B : Nat} {v : Value} {xs : List Int} (h : Nums w B v xs) :
    ∃ A c, v = .slice A xs.length c ∧ ∀ (i : Nat) (x : Int), xs[i]? = some x → ∃ a, A = some ⟨a, 0, none⟩ ∧ w.cell? ⟨a, i, none⟩ = some (.int .i64 x) := by
  rcases h.shape with ⟨rfl, rfl⟩ | ⟨a, cap, rfl, _, _, hc, _⟩
  · exact ⟨_, _, rfl, fun i p hp => by simp at hp⟩
  · exact ⟨_, _, rfl, fun i x hx => ⟨a, rfl, hc i x hx⟩⟩
end Go.Proofs.Ytklhmaegpejdbaa.Pm
