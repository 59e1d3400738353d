/- The cursor beside boxes that the call itself lays. -/
import Derived.Test.YtklhmaegpejdbaaDoorDrawK
import Derived.Test.YtklhmaegpejdbaaDoorMake
import Derived.Test.YtklhmaegpejdbaaDoorFrTwo
import Derived.Deep.RegionHeld3
namespace Go.Proofs.YtklhmaegpejdbaaDoor
open Go.RowKit
set_option linter.unusedVariables false
set_option linter.unusedSimpArgs false
set_option maxRecDepth 100000
theorem Cu.keeps {W w : World} {b : Nat} {A : Option Addr} {l c n : Nat} (h : Cu W b A l c n w) {g o : Nat} (hg : g < W.heap.size) (hne : g ≠ b) {v : Value} (hc : W.cell? ⟨g, o, none⟩ = some v) : w.cell? ⟨g, o, none⟩ = some v := by
  rw [← hc]; exact World.cell?_of_block (h.2.block g hg (by simp; exact hne))
theorem Cu.free {W w : World} {b : Nat} {A : Option Addr} {l c n : Nat} (h : Cu W b A l c n w) {g o : Nat} (hg : g < W.heap.size) (hne : g ≠ b) (hc : W.frozen? ⟨g, o, none⟩ = false) : w.frozen? ⟨g, o, none⟩ = false := by
  rw [← hc]; exact World.frozen?_of_block (h.2.block g hg (by simp; exact hne))
theorem Cu.write {W w : World} {b : Nat} {A : Option Addr} {l c n : Nat} (h : Cu W b A l c n w) (g o : Nat) (v : Value) (hg : W.heap.size ≤ g) (hb : b < g) : Cu W b A l c n (w.setCell ⟨g, o, none⟩ v) := by
  obtain ⟨⟨h0, h1, h2, h3, ⟨t, ht, h4⟩, ⟨s, s0, s1, h5⟩, f0, f1, f2⟩, hg2⟩ := h
  refine ⟨⟨by simpa using h0, fun k hk => ?_, h2, by rw [curs_far (by omega)]; exact h3, ⟨t, ht, by rw [curs_far (by omega)]; exact h4⟩, ⟨s, s0, s1, by rw [curs_far (by omega)]; exact h5⟩, by simpa using f0, by simpa using f1, by simpa using f2⟩, ?_⟩
  · obtain ⟨B, O, e, hlt, x, x0, x1, hx⟩ := h1 k hk
    exact ⟨B, O, e, hlt, x, x0, x1, by rw [curs_far (by omega)]; exact hx⟩
  · refine ⟨hg2.os, hg2.tape, hg2.output, by simpa using hg2.size, fun k hk hne => ?_⟩
    rw [Below.heap_setCell _ _ _ k (by show k ≠ g; omega)]
    exact hg2.block k hk hne
theorem Cu.elems {W w : World} {b : Nat} {A : Option Addr} {l c n : Nat} (h : Cu W b A l c n w) {g m : Nat} {lo hi : Int} (he : Elems W g m lo hi) (hg : g < W.heap.size) (hne : g ≠ b) : Elems w g m lo hi := fun k hk => by
  obtain ⟨x, x0, x1, hx⟩ := he k hk
  exact ⟨x, x0, x1, h.keeps hg hne hx⟩
theorem Bytes.cursorAt {w : World} {A : Option Addr} {l c b : Nat} (h : Bytes w A l) (hb : b = w.heap.size) {o : Obj} {T : TypeId} (ho : o = .cells #[.slice A l c, .int .i64 0, .int .u64 0] T) : Cu (w.alloc o) b A l c 0 (w.alloc o) := by
  subst hb; exact h.cursor ho
theorem Cu.belowOf {W w w' : World} {b C : Nat} {A : Option Addr} {l c n : Nat} (h : Cu W b A l c n w') (h0 : Below C w W) (hC : C ≤ b) (hS : C ≤ W.heap.size) : Below C w w' :=
  h0.grown h.2 hS (fun k hk => by cases hk; exact hC)
/-- An int64. -/
def I64 (x : Int) : Prop := -9223372036854775808 ≤ x ∧ x ≤ 9223372036854775807
theorem frac64 {x y : Int} (h : fracB x y = true) : I64 x ∧ I64 y := by
  obtain ⟨a, b, c, d, _⟩ := fracB_range h
  exact ⟨⟨by omega, by omega⟩, ⟨by omega, by omega⟩⟩
theorem mk_frac {n d : Int} (h : mkB n d = true) : fracB (mkN n d) (mkE n d) = true := by
  unfold mkN mkE
  rw [if_pos h, if_pos h]
  exact h
theorem frInt_any (n : Int) (w : World) : Calls Tryd.prog 105 #[.int .i64 n] w fun e w' => e = .returned (.agg #[.int .i64 n, .int .i64 1]) ∧ Below w.heap.size w w' := by
  go_enter Tryd.func105, Tryd.ntmps105
  go_wp2
  refine bodyPost_ret (by simp [results, Tryd.results105, go_sem, *]; try rfl) rfl ?_
  exact ⟨rfl, by repeat' (first | (with_reducible exact Below.refl _ _) | (with_reducible assumption) | (with_reducible refine Below.alloc ?_ ?_ _) | (with_reducible refine Below.drew ?_) | (with_reducible refine below_drewN ?_ _) | (with_reducible refine Below.setCell ?_ ?_ _) | go_size)⟩
end Go.Proofs.YtklhmaegpejdbaaDoor
