/- Lists that the draws build and choose from; the cursor's start. -/
import Derived.Test.YtklhmaegpejdbaaDoorCur
namespace Go.Proofs.YtklhmaegpejdbaaDoor
open Go.RowKit
set_option linter.unusedVariables false
set_option linter.unusedSimpArgs false
set_option maxRecDepth 100000

theorem elems_new {w : World} (vs : List Int) {o : Obj} {T : TypeId} (ho : o = .cells (vs.map (Value.int .i64)).toArray T) {lo hi : Int} (hall : ∀ x ∈ vs, lo ≤ x ∧ x ≤ hi) {m : Nat} (hm : m = vs.length) : Elems (w.alloc o) w.heap.size m lo hi := by
  subst ho hm
  intro k hk
  refine ⟨vs[k], (hall _ (List.getElem_mem hk)).1, (hall _ (List.getElem_mem hk)).2, ?_⟩
  have hg : (w.alloc (Obj.cells (List.map (Value.int IntKind.i64) vs).toArray T)).heap[w.heap.size]? = some (Obj.cells (List.map (Value.int IntKind.i64) vs).toArray T) := Array.getElem?_push_size
  simp only [World.cell?, hg]
  simp [hk]
theorem alloc_below (w : World) (o : Obj) : Below w.heap.size w (w.alloc o) := Below.alloc (Below.refl _ _) (Nat.le_refl _) _
theorem Cu.alloc {W w : World} {b : Nat} {A : Option Addr} {l c n : Nat} (h : Cu W b A l c n w) (o : Obj) : Cu W b A l c n (w.alloc o) := h.below (alloc_below w o)
theorem among_new {W w : World} {b : Nat} {A : Option Addr} {l c n : Nat} (h : Cu W b A l c n w) (hn : n ≤ 999999990) (vs : List Int) {o : Obj} {T : TypeId} (ho : o = .cells (vs.map (Value.int .i64)).toArray T) {m cap : Nat} (hm : m = vs.length) (hv : 1 ≤ vs.length) (hv2 : vs.length ≤ 1000)
    (lo hi : Int) (hall : ∀ x ∈ vs, lo ≤ x ∧ x ≤ hi) :
    Calls Tryd.prog 77 #[.pointer (some ⟨b, 0, none⟩), .slice (some ⟨w.heap.size, 0, none⟩) m cap] (w.alloc o) fun e w' => (∃ x : Int, lo ≤ x ∧ x ≤ hi ∧ e = .returned (.int .i64 x)) ∧ Cu W b A l c (n + 2) w' :=
  among_any (h.alloc o) hn w.heap.size m cap (by omega) (by omega) lo hi (elems_new vs ho hall hm) (by simp) (by have := h.1.1; omega)
/-- The slice of bytes (A, l, c) reads as bytes that lie in the world. -/
def Bytes (w : World) (A : Option Addr) (l : Nat) : Prop := l ≤ 9223372036854775807 ∧ ∀ k : Nat, k < l → ∃ B O : Nat, A = some ⟨B, O, none⟩ ∧ B < w.heap.size ∧ ∃ x : Int, 0 ≤ x ∧ x ≤ 255 ∧ w.cell? ⟨B, O + k, none⟩ = some (.int .u8 x)
theorem Bytes.below {w w' : World} {A : Option Addr} {l : Nat} (h : Bytes w A l) (hb : Below w.heap.size w w') : Bytes w' A l := ⟨h.1, fun k hk => by
  obtain ⟨B, O, e, hlt, x, h0, h1, hc⟩ := h.2 k hk
  exact ⟨B, O, e, Nat.lt_of_lt_of_le hlt hb.size, x, h0, h1, by rw [hb.cell (p := ⟨B, O + k, none⟩) hlt]; exact hc⟩⟩
theorem Bytes.cursor {w : World} {A : Option Addr} {l c : Nat} (h : Bytes w A l) {o : Obj} {T : TypeId} (ho : o = .cells #[.slice A l c, .int .i64 0, .int .u64 0] T) : Cu (w.alloc o) w.heap.size A l c 0 (w.alloc o) := by
  subst ho
  refine ⟨⟨by simp, fun k hk => ?_, h.1, by simp [go_sem], ⟨0, Nat.le_refl _, by simp [go_sem]⟩, ⟨0, by omega, by omega, by simp [go_sem]⟩, by simp [go_sem], by simp [go_sem], by simp [go_sem]⟩, World.grownBy.refl _ _⟩
  obtain ⟨B, O, e, hlt, x, h0, h1, hc⟩ := h.2 k hk
  exact ⟨B, O, e, hlt, x, h0, h1, by rw [(alloc_below w _).cell (p := ⟨B, O + k, none⟩) hlt]; exact hc⟩
theorem Cu.out {w w' : World} {A : Option Addr} {l c n : Nat} {o : Obj} (h : Cu (w.alloc o) w.heap.size A l c n w') : Below w.heap.size w w' :=
  (alloc_below w o).grown h.2 (by simp) (fun k hk => by cases hk; exact Nat.le_refl _)
end Go.Proofs.YtklhmaegpejdbaaDoor
