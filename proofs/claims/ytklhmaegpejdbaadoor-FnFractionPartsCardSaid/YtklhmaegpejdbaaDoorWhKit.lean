/- Boxes of two cells and rows of ints, carried from world to world. -/
import Derived.Test.YtklhmaegpejdbaaDoorWhOf
import Derived.Deep.RegionHeld3
namespace Go.Proofs.YtklhmaegpejdbaaDoor
open Go.RowKit
set_option linter.unusedVariables false
theorem drew_cell {w : World} {a : Addr} : w.drew.cell? a = w.cell? a := rfl
theorem set_far {w : World} {b o b' o' : Nat} {u : Value} (h : b ≠ b' ∨ o ≠ o') : (w.setCell ⟨b, o, none⟩ u).cell? ⟨b', o', none⟩ = w.cell? ⟨b', o', none⟩ :=
  Go.World.cell?_setCell_other _ _ _ _ (fun e => by cases e; omega)
theorem set_near {w : World} {b o : Nat} {u x : Value} (h : w.cell? ⟨b, o, none⟩ = some x) : (w.setCell ⟨b, o, none⟩ u).cell? ⟨b, o, none⟩ = some u := Go.World.cell?_setCell_same _ _ _ h
/-- Two cells of block b. -/
def Box2 (w : World) (b : Nat) (u0 u1 : Value) : Prop := b < w.heap.size ∧ w.cell? ⟨b, 0, none⟩ = some u0 ∧ w.cell? ⟨b, 1, none⟩ = some u1
theorem Box2.new (w : World) (u0 u1 : Value) (t : TypeId) : Box2 (w.alloc (.cells #[u0, u1] t)) w.heap.size u0 u1 := ⟨by simp, by simp [go_sem], by simp [go_sem]⟩
theorem Box2.newAt {b : Nat} (w : World) (u0 u1 : Value) (t : TypeId) (h : b = w.heap.size) : Box2 (w.alloc (.cells #[u0, u1] t)) b u0 u1 := by subst h; exact Box2.new w u0 u1 t
theorem Box2.below {w w' : World} {b : Nat} {u0 u1 : Value} (h : Box2 w b u0 u1) (hb : Below w.heap.size w w') : Box2 w' b u0 u1 :=
  ⟨Nat.lt_of_lt_of_le h.1 hb.size, (hb.cell (p := ⟨b, 0, none⟩) h.1).trans h.2.1, (hb.cell (p := ⟨b, 1, none⟩) h.1).trans h.2.2⟩
theorem Box2.grown {w w' : World} {b : Nat} {u0 u1 : Value} {row : Option Nat} (h : Box2 w b u0 u1) (g : w.grownBy w' row) (hne : row ≠ some b) : Box2 w' b u0 u1 :=
  ⟨Nat.lt_of_lt_of_le h.1 g.size, (World.cell?_of_block (a := ⟨b, 0, none⟩) (g.block b h.1 fun e => hne e.symm)).trans h.2.1, (World.cell?_of_block (a := ⟨b, 1, none⟩) (g.block b h.1 fun e => hne e.symm)).trans h.2.2⟩
theorem Nums.lt2 {w : World} {B B0 : Nat} {v : Value} {xs : List Int} (h : Nums w B v xs) (hB : B0 ≤ B) : ∀ b, v.ownBlock = some b → B0 ≤ b ∧ b < w.heap.size := fun b e => ⟨Nat.le_trans hB (h.lt b e).1, (h.lt b e).2⟩
/-- The result of two wholes, or none. -/
def ifZ (ok : Bool) (z : Int) : Int := if ok then z else 0
theorem ifZ_yes (z : Int) : ifZ true z = z := rfl
theorem ifZ_no (z : Int) : ifZ false z = 0 := rfl
/-- What a sign and digits mean. -/
def valZ (neg : Bool) (xs : List Int) : Int := if neg then - dv xs else dv xs
theorem valZ_whole (z : Int) : valZ (wneg z) (wlimbs z) = z := by
  unfold valZ
  rw [dv_wlimbs]
  by_cases h : z < 0
  · simp [wneg, h]; omega
  · simp [wneg, h]; omega
theorem wlimbs_zero : wlimbs 0 = [] := digs_zero
end Go.Proofs.YtklhmaegpejdbaaDoor
