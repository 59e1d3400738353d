/- Boxes that are stored into. -/
import Derived.Test.YtklhmaegpejdbaaDoorWhKit
import Derived.Deep.DeepCutAuto
namespace Go.Proofs.YtklhmaegpejdbaaDoor
open Go.RowKit
set_option linter.unusedVariables false
theorem grownBy_set (w : World) (b o : Nat) (u : Value) : w.grownBy (w.setCell ⟨b, o, none⟩ u) (some b) :=
  ⟨rfl, rfl, rfl, by simp, fun k _ hk => Below.heap_setCell w ⟨b, o, none⟩ u k (fun e => hk (by simp [e]))⟩
theorem grownBy_two {w w1 w2 : World} {r : Option Nat} (h : w.grownBy w1 r) (k : w1.grownBy w2 r) : w.grownBy w2 r :=
  ⟨k.os.trans h.os, k.tape.trans h.tape, k.output.trans h.output, Nat.le_trans h.size k.size, fun j hj hne => (k.block j (Nat.lt_of_lt_of_le hj h.size) hne).trans (h.block j hj hne)⟩
/-- A box that is stored into. -/
theorem stored2 {w : World} {b : Nat} {r0 r1 : Value} (h : Box2 w b r0 r1) (u0 u1 : Value) : ∃ w7 : World, (w.setCell ⟨b, 0, none⟩ u0).setCell ⟨b, 1, none⟩ u1 = w7 ∧ Box2 w7 b u0 u1 ∧ w.grownBy w7 (some b) ∧ Below b w w7 ∧ w.heap.size ≤ w7.heap.size := by
  refine ⟨_, rfl, ⟨by simpa using h.1, ?_, ?_⟩, grownBy_two (grownBy_set _ _ _ _) (grownBy_set _ _ _ _), ((Below.refl _ _).setCell (p := ⟨b, 0, none⟩) (Nat.le_refl _) _).setCell (p := ⟨b, 1, none⟩) (Nat.le_refl _) _, by simp⟩
  · rw [set_far (by omega)]; exact set_near h.2.1
  · exact set_near ((set_far (by omega)).trans h.2.2)
/-- A box that is laid ahead of a call. -/
def BoxIn (w : World) (b : Nat) (u0 u1 : Value) : Prop := w.cell? ⟨b, 0, none⟩ = some u0 ∧ w.cell? ⟨b, 1, none⟩ = some u1 ∧ w.frozen? ⟨b, 0, none⟩ = false ∧ w.frozen? ⟨b, 1, none⟩ = false ∧ b < w.heap.size
theorem boxIn {w w5 : World} {u0 u1 : Value} {t : TypeId} (h : Below (w.alloc (.cells #[u0, u1] t)).heap.size (w.alloc (.cells #[u0, u1] t)) w5) : BoxIn w5 w.heap.size u0 u1 := by
  refine ⟨?_, ?_, ?_, ?_, ?_⟩
  · rw [h.cell (by simp)]; simp [go_sem]
  · rw [h.cell (by simp)]; simp [go_sem]
  · rw [h.frozen (by simp)]; simp [go_sem]
  · rw [h.frozen (by simp)]; simp [go_sem]
  · have := h.size; simp at this; omega
theorem boxInD {w w5 : World} {u0 u1 : Value} {t : TypeId} (h : Below (w.alloc (.cells #[u0, u1] t)).drew.heap.size (w.alloc (.cells #[u0, u1] t)).drew w5) : BoxIn w5 w.heap.size u0 u1 :=
  boxIn (t := t) ⟨h.os, h.tape, h.output, h.size, h.block⟩
theorem boxOn {w w' : World} {b : Nat} {u0 u1 : Value} (h : Below w.heap.size w w') (v0 : w.cell? ⟨b, 0, none⟩ = some u0) (v1 : w.cell? ⟨b, 1, none⟩ = some u1) (v2 : w.frozen? ⟨b, 0, none⟩ = false) (v3 : w.frozen? ⟨b, 1, none⟩ = false) (qv : b < w.heap.size) : BoxIn w' b u0 u1 :=
  ⟨(h.cell (p := ⟨b, 0, none⟩) qv).trans v0, (h.cell (p := ⟨b, 1, none⟩) qv).trans v1, (h.frozen (p := ⟨b, 0, none⟩) qv).trans v2, (h.frozen (p := ⟨b, 1, none⟩) qv).trans v3, Nat.lt_of_lt_of_le qv h.size⟩
end Go.Proofs.YtklhmaegpejdbaaDoor
