/- Boxes that are stored into (as in XWhPow; for the texts that do not import that one). -/
import Derived.Test.YtcplelcblfjpoaaWhKit2
namespace Go.Proofs.Ytcplelcblfjpoaa
open Go.RowKit
set_option linter.unusedVariables false
set_option linter.unusedSimpArgs false
theorem BoxAt.stored {w : World} {b : Nat} {r0 r1 : Value} (h : BoxAt w b r0 r1) (u0 u1 : Value) : BoxAt ((w.setCell ⟨b, 0, none⟩ u0).setCell ⟨b, 1, none⟩ u1) b u0 u1 := by
  refine ⟨?_, ?_, ?_, ?_⟩
  · rw [set_far (by omega)]; exact set_near h.1
  · exact set_near ((set_far (by omega)).trans h.2.1)
  · simpa using h.2.2.1
  · simpa using h.2.2.2
theorem BoxAt.apart {w : World} {b g : Nat} {r0 r1 : Value} (h : BoxAt w b r0 r1) (hne : b ≠ g) (u0 u1 : Value) : BoxAt ((w.setCell ⟨g, 0, none⟩ u0).setCell ⟨g, 1, none⟩ u1) b r0 r1 := by
  refine ⟨?_, ?_, ?_, ?_⟩
  · rw [set_far (by omega), set_far (by omega)]; exact h.1
  · rw [set_far (by omega), set_far (by omega)]; exact h.2.1
  · simpa using h.2.2.1
  · simpa using h.2.2.2
theorem BoxAt.new (w : World) (u0 u1 : Value) (t : TypeId) : BoxAt (w.alloc (.cells #[u0, u1] t)) w.heap.size u0 u1 := ⟨by simp [go_sem], by simp [go_sem], by simp [go_sem], by simp [go_sem]⟩
end Go.Proofs.Ytcplelcblfjpoaa
