/- Contracts of impl.wholeOf, spec.bgOf, impl.negated, spec.bgMinus, impl.wholeResult, spec.bgIf. -/
import Derived.Test.YtklhmaegpejdbaaDoorWhMake
import Derived.Test.YtklhmaegpejdbaaDoorWhGood
import Derived.Test.YtklhmaegpejdbaaDoorAbs
namespace Go.Proofs.YtklhmaegpejdbaaDoor
open Go.RowKit
set_option linter.unusedVariables false
set_option linter.unusedSimpArgs false
/-- The digits ys, and behind them those of m, are those of N. -/
def Split (N : Nat) (ys : List Int) (m : Int) : Prop := ys ++ digs m.toNat = digs N
theorem Split.next {N : Nat} {ys : List Int} {m : Int} (h : Split N ys m) (hm : 0 < m) : Split N (ys ++ [m % 10000]) (m / 10000) := by
  unfold Split at *
  rw [← h, digs_pos (show m.toNat ≠ 0 by omega), List.append_assoc]
  congr 1
  show m % 10000 :: digs (m / 10000).toNat = _
  rw [show (((m.toNat % 10000 : Nat) : Int)) = m % 10000 by omega, show (m / 10000).toNat = m.toNat / 10000 by omega]
theorem Split.len {N : Nat} {ys : List Int} {m : Int} (h : Split N ys m) : ys.length ≤ (digs N).length := by
  unfold Split at h
  rw [← h, List.length_append]; omega
theorem Split.done {N : Nat} {ys : List Int} (h : Split N ys 0) : ys = digs N := by
  unfold Split at h
  rw [← h]; simp [digs_zero]
theorem small_len {n : Int} (h0 : -1000000000000000 ≤ n) (h1 : n ≤ 1000000000000000) : (wlimbs n).length ≤ 4 := digs_length_of_lt 4 _ (by
  have : (10000 : Int) ^ 4 = 10000000000000000 := by decide
  rw [this]; omega)
theorem signed_of (n : Int) (b : Bool) (hb : decide (n < 0) = b) : n = if b then - dv (wlimbs n) else dv (wlimbs n) := by
  subst hb
  rw [dv_wlimbs]
  by_cases h : n < 0
  · rw [decide_eq_true h]; simp; omega
  · rw [decide_eq_false h]; simp; omega
/-- Two cells of a box of the call's own. -/
def BoxAt (w : World) (b : Nat) (u0 u1 : Value) : Prop := w.cell? ⟨b, 0, none⟩ = some u0 ∧ w.cell? ⟨b, 1, none⟩ = some u1 ∧ w.frozen? ⟨b, 0, none⟩ = false ∧ w.frozen? ⟨b, 1, none⟩ = false
theorem BoxAt.same {w w' : World} {b : Nat} {u0 u1 : Value} (h : BoxAt w b u0 u1) (he : w'.heap[b]? = w.heap[b]?) : BoxAt w' b u0 u1 :=
  ⟨(World.cell?_of_block (a := ⟨b, 0, none⟩) he).trans h.1, (World.cell?_of_block (a := ⟨b, 1, none⟩) he).trans h.2.1, (World.frozen?_of_block (a := ⟨b, 0, none⟩) he).trans h.2.2.1, (World.frozen?_of_block (a := ⟨b, 1, none⟩) he).trans h.2.2.2⟩
theorem BoxAt.step {wr w1 : World} {B b : Nat} {u0 u1 v : Value} {xs : List Int} {o : Obj} (k : BoxAt wr b u0 u1) (h : Nums wr B v xs) (ha : b < B) (hB : B ≤ wr.heap.size) (hgrow : (wr.alloc o).grownBy w1 v.ownBlock) : BoxAt w1 b u0 u1 :=
  k.same ((hgrow.block b (by simp; omega) (fun e => by have := (h.lt b e.symm).1; omega)).trans (Below.heap_alloc wr o b (by omega)))
theorem BoxAt.below {w w' : World} {B b : Nat} {u0 u1 : Value} (k : BoxAt w b u0 u1) (h : Below B w w') (hb : b < B) : BoxAt w' b u0 u1 := k.same (h.block b hb)
end Go.Proofs.YtklhmaegpejdbaaDoor
