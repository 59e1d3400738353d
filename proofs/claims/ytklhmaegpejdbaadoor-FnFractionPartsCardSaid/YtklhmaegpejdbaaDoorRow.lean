/- A row of ints of known length in memory that the call itself made. -/
import Derived.Test.YtklhmaegpejdbaaDoorInts
namespace Go.Proofs.YtklhmaegpejdbaaDoor
open Go.RowKit
set_option linter.unusedVariables false
set_option linter.unusedSimpArgs false
/-- The slice of n elements at the head of block g holds the numbers xs; its memory lies behind block number B. -/
def Row (w : World) (B g n cap : Nat) (xs : List Int) : Prop := xs.length = n ∧ w.ownsRow B 3 1 (.slice (some ⟨g, 0, none⟩) n cap) n (xs.map (Value.int .i64))
theorem row_made {w : World} {B g n : Nat} (h : w.ownsRow B 3 1 (.slice (some ⟨g, 0, none⟩) n n) n (madeCells (Value.int .i64 0).cells (n * 1)).toList) : Row w B g n n (List.replicate n 0) := by
  refine ⟨List.length_replicate, ?_⟩
  rw [List.map_replicate]
  rw [Nat.mul_one] at h
  have e := toList_madeCells_one (.int .i64 0) n
  have e2 : (Value.int .i64 0).cells = #[Value.int .i64 0] := by simp [Value.cells]
  rw [e2, e] at h
  exact h
theorem Row.nums {w : World} {B g n cap : Nat} {xs : List Int} (h : Row w B g n cap xs) : Nums w B (.slice (some ⟨g, 0, none⟩) n cap) xs := by
  obtain ⟨rfl, h⟩ := h
  exact h
theorem Row.cell {w : World} {B g n cap : Nat} {xs : List Int} (h : Row w B g n cap xs) {k : Nat} {x : Int} (hx : xs[k]? = some x) : w.cell? ⟨g, k, none⟩ = some (.int .i64 x) := by
  have := h.1
  have := (List.getElem?_eq_some_iff.1 hx).1
  rw [h.2.cellAt k (by omega)]
  simp [hx]
theorem Row.free {w : World} {B g n cap : Nat} {xs : List Int} (h : Row w B g n cap xs) (k : Nat) : w.frozen? ⟨g, k, none⟩ = false := h.2.frozenAt k
theorem Row.lt {w : World} {B g n cap : Nat} {xs : List Int} (h : Row w B g n cap xs) : B ≤ g ∧ g < w.heap.size := h.2.lt g rfl
theorem Row.set {w : World} {B g n cap : Nat} {xs : List Int} (h : Row w B g n cap xs) (k : Nat) (x : Int) : Row (w.setCell ⟨g, k, none⟩ (.int .i64 x)) B g n cap (xs.set k x) :=
  ⟨by rw [List.length_set]; exact h.1, by rw [List.map_set]; exact (h.2.stored k _).1⟩
theorem Row.below {w w' : World} {B g n cap : Nat} {xs : List Int} (h : Row w B g n cap xs) (hb : Below w.heap.size w w') : Row w' B g n cap xs := ⟨h.1, by
  obtain ⟨rfl, h2⟩ := h
  exact Nums.below (xs := xs) h2 hb⟩
theorem Row.drew {w : World} {B g n cap : Nat} {xs : List Int} (h : Row w B g n cap xs) (m : Nat) : Row (w.drewN m) B g n cap xs := h.below (below_drewN (Below.refl _ _) m)
theorem Nums.slice {w : World} {B : Nat} {v : Value} {xs : List Int} (h : Nums w B v xs) : ∃ A c, v = .slice A xs.length c := by
  rcases h.shape with ⟨rfl, rfl⟩ | ⟨g, cap, rfl, _⟩
  · exact ⟨_, _, rfl⟩
  · exact ⟨_, _, rfl⟩
end Go.Proofs.YtklhmaegpejdbaaDoor
