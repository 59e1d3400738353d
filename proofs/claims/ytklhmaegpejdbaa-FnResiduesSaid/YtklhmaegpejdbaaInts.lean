/- Slices of ints in memory that the call itself made; contracts of laws.eqIntS, markIntS, heldIntS. -/
import Derived.Test.YtklhmaegpejdbaaFrame
import Derived.WalkKit
namespace Go.Proofs.Ytklhmaegpejdbaa
open Go.RowKit
set_option linter.unusedVariables false
set_option linter.unusedSimpArgs false
theorem underInts : Try.prog.underlying 54 = some (.slice 3) := by kernel_rfl
theorem infoInt : (Try.prog.info? 3).map (fun i => (i.zero, i.size, i.bytes)) = some (some (.int .i64 0), 1, 8) := by kernel_rfl
/-- v is a slice of the numbers xs; its memory lies behind block number B. -/
def Nums (w : World) (B : Nat) (v : Value) (xs : List Int) : Prop := w.ownsRow B 3 1 v xs.length (xs.map (Value.int .i64))
theorem Nums.nil (w : World) (B : Nat) : Nums w B (.slice none 0 0) [] := World.ownsRow_nil _ _ _ _
theorem Nums.shape {w : World} {B : Nat} {v : Value} {xs : List Int} (h : Nums w B v xs) :
    (v = .slice none 0 0 ∧ xs = []) ∨ ∃ g cap, v = .slice (some ⟨g, 0, none⟩) xs.length cap ∧ B ≤ g ∧ g < w.heap.size ∧
      (∀ (k : Nat) (x : Int), xs[k]? = some x → w.cell? ⟨g, k, none⟩ = some (.int .i64 x)) ∧ ∀ k, w.frozen? ⟨g, k, none⟩ = false := by
  have h0 : w.ownsRow B 3 1 v xs.length (xs.map (Value.int .i64)) := h
  rcases h0.2 with ⟨hv, hn⟩ | ⟨g, cap, cur, rfl, hb, hg, _⟩
  · exact .inl ⟨hv, List.length_eq_zero_iff.1 hn⟩
  · refine .inr ⟨g, cap, rfl, hb, (Array.getElem?_eq_some_iff.1 hg).1, fun k x hx => ?_, fun k => h0.frozenAt k⟩
    have hk := (List.getElem?_eq_some_iff.1 hx).1
    rw [h0.cellAt k (by omega)]
    simp [hx]
theorem Nums.kept {w w' : World} {B : Nat} {v : Value} {xs : List Int} {row : Option Nat} (h : Nums w B v xs) (hg : w.grownBy w' row) (hne : ∀ b, v.ownBlock = some b → row ≠ some b) : Nums w' B v xs := by
  refine World.ownsRow.kept h hg ?_
  cases hv : v.ownBlock with
  | none => exact .inl rfl
  | some b => exact .inr fun e => hne b hv e.symm
theorem Nums.below {w w' : World} {B : Nat} {v : Value} {xs : List Int} (h : Nums w B v xs) (hb : Below w.heap.size w w') : Nums w' B v xs := by
  refine ⟨h.1, ?_⟩
  rcases h.2 with h2 | ⟨g, cap, cur, h1, h3, hg, h4⟩
  · exact .inl h2
  · exact .inr ⟨g, cap, cur, h1, h3, (hb.block g (Array.getElem?_eq_some_iff.1 hg).1).trans hg, h4⟩
theorem Nums.mono {w : World} {B C : Nat} {v : Value} {xs : List Int} (h : Nums w B v xs) (hC : C ≤ B) : Nums w C v xs := by
  refine ⟨h.1, ?_⟩
  rcases h.2 with h2 | ⟨g, cap, cur, h1, h3, h4⟩
  · exact .inl h2
  · exact .inr ⟨g, cap, cur, h1, Nat.le_trans hC h3, h4⟩
theorem Nums.lt {w : World} {B : Nat} {v : Value} {xs : List Int} (h : Nums w B v xs) : ∀ b, v.ownBlock = some b → B ≤ b ∧ b < w.heap.size := World.ownsRow.lt h
theorem Nums.apart {a b : World} {B B2 : Nat} {v v2 : Value} {xs ys : List Int} (n1 : Nums a B v xs) (n2 : Nums b B2 v2 ys) (h : a.heap.size ≤ B2) : ∀ x, v.ownBlock = some x → v2.ownBlock ≠ some x := fun x h1 h2 => by
  have := (n1.lt x h1).2
  have := (n2.lt x h2).1
  omega
theorem bcellB {B : Nat} {W w1 : World} (hb : Below B W w1) : (∀ b o, b < B → w1.cell? ⟨b, o, none⟩ = W.cell? ⟨b, o, none⟩) ∧ (∀ b o, b < B → w1.frozen? ⟨b, o, none⟩ = W.frozen? ⟨b, o, none⟩) :=
  ⟨fun b o h => hb.cell (p := ⟨b, o, none⟩) h, fun b o h => hb.frozen (p := ⟨b, o, none⟩) h⟩
/-- Behind an append of one number. -/
theorem nums_step {w wr w1 : World} {B C : Nat} {v v' : Value} {xs : List Int} {x : Int} {o : Obj} (h : Nums wr B v xs) (hnx : Below C w wr) (hC : C ≤ B) (hB : B ≤ wr.heap.size)
    (hown' : w1.ownsRow B 3 1 v' (xs.length + 1) (xs.map (Value.int .i64) ++ [.int .i64 x])) (hgrow : (wr.alloc o).grownBy w1 v.ownBlock) :
    Nums w1 B v' (xs ++ [x]) ∧ Below C w w1 := by
  refine ⟨?_, (hnx.alloc (by omega) o).grown hgrow (by simp; omega) fun j hj => Nat.le_trans hC (h.lt j hj).1⟩
  unfold Nums
  rw [List.length_append, List.map_append]
  exact hown'
theorem one_at {w : World} (o : Obj) (x : Value) (ho : o = .cells #[x] 3) : ∀ (j : Nat) (u : Value), [x][j]? = some u → (w.alloc o).cell? ((⟨w.heap.size, 0, none⟩ : Addr).add j) = some u := by
  intro j u hj
  subst ho
  match j, hj with
  | 0, hj => simp at hj; subst hj; simp [Addr.add]
theorem one_cell (x : Int) : ∀ u ∈ [Value.int .i64 x], u.oneCell' = true := by intro u hu; simp at hu; subst hu; rfl
theorem ret_v_bool {v : Value} {x y : Bool} (h2 : x = y) : Ending.returned (.tuple #[v, .bool x]) = .returned (.tuple #[v, .bool y]) := by rw [h2]
/-- A cell of another row, behind an append. -/
theorem cell_step {wr w1 : World} {B : Nat} {v : Value} {xs : List Int} {o : Obj} {a : Addr} {u : Value} (h : Nums wr B v xs) (ha : a.block < B) (hB : B ≤ wr.heap.size) (hgrow : (wr.alloc o).grownBy w1 v.ownBlock) (hc : wr.cell? a = some u) : w1.cell? a = some u :=
  hgrow.cell ((World.cell?_alloc_lt _ _ _ (Nat.lt_of_lt_of_le ha hB)).trans hc) fun e => absurd (h.lt _ e.symm).1 (by show ¬ B ≤ a.block; omega)
/-- The numbers f j, j below k, whose j passes. -/
def gath (P : Nat → Bool) (f : Nat → Int) (k : Nat) : List Int := ((List.range k).filter P).map f
theorem gath_zero (P : Nat → Bool) (f : Nat → Int) : gath P f 0 = [] := rfl
theorem gath_yes {P : Nat → Bool} {f : Nat → Int} {k : Nat} (h : P k = true) : gath P f (k + 1) = gath P f k ++ [f k] := by
  unfold gath
  rw [List.range_succ, List.filter_append, List.map_append]
  simp [h]
theorem gath_no {P : Nat → Bool} {f : Nat → Int} {k : Nat} (h : P k = false) : gath P f (k + 1) = gath P f k := by
  unfold gath
  rw [List.range_succ, List.filter_append, List.map_append]
  simp [h]
theorem gath_length (P : Nat → Bool) (f : Nat → Int) (k : Nat) : (gath P f k).length ≤ k := by
  unfold gath
  rw [List.length_map]
  exact Nat.le_trans (List.length_filter_le _ _) (by simp)
/-- The numbers K, K + 1, .. -/
def marks (K : Int) (n : Nat) : List Int := (List.range n).map fun j : Nat => K + (j : Int)
theorem marks_length (K : Int) (n : Nat) : (marks K n).length = n := by simp [marks]
theorem marks_at {K : Int} {n k : Nat} (h : k < n) : (marks K n)[k]? = some (K + (k : Int)) := by simp [marks, h]
def marked (K : Int) (k : Nat) (xs : List Int) : List Int := marks K k ++ xs.drop k
theorem marked_zero (K : Int) (xs : List Int) : marked K 0 xs = xs := rfl
theorem marked_length {K : Int} {k : Nat} {xs : List Int} (h : k ≤ xs.length) : (marked K k xs).length = xs.length := by simp [marked, marks_length]; omega
theorem marked_all (K : Int) (xs : List Int) : marked K xs.length xs = marks K xs.length := by simp [marked]
theorem marked_next {K : Int} {k : Nat} {xs : List Int} (h : k < xs.length) : (marked K k xs).set k (K + (k : Int)) = marked K (k + 1) xs := by
  unfold marked
  rw [List.set_append_right _ _ (by rw [marks_length]; exact Nat.le_refl _), marks_length, Nat.sub_self, List.drop_eq_getElem_cons h]
  show marks K k ++ (K + (k : Int)) :: List.drop (k + 1) xs = _
  rw [show marks K (k + 1) = marks K k ++ [K + (k : Int)] by simp [marks, List.range_succ]]
  simp

end Go.Proofs.Ytklhmaegpejdbaa
