/- Slices of pairs of ints ([][]int, each row of two ints) in memory that the call itself made; contracts of laws.eqIntSS, markIntSS, heldIntSS. -/
import Derived.Test.YtklhmaegpejdbaaRow
namespace Go.Proofs.Ytklhmaegpejdbaa
open Go.RowKit
set_option linter.unusedVariables false
set_option linter.unusedSimpArgs false
theorem underRows : Try.prog.underlying 50 = some (.slice 54) := by kernel_rfl
theorem infoRows : (Try.prog.info? 54).map (fun i => (i.zero, i.size, i.bytes)) = some (some (.slice none 0 0), 1, 24) := by kernel_rfl
/-- A row of two ints at the head of block g. -/
def rowV (g : Nat) : Value := .slice (some ⟨g, 0, none⟩) 2 2
/-- v is a slice of the pairs ps; gs: the blocks of its rows; all lies behind block number B. -/
def Pairs (w : World) (B : Nat) (v : Value) (gs : List Nat) (ps : List (Int × Int)) : Prop :=
  gs.length = ps.length ∧ w.ownsRow B 54 1 v ps.length (gs.map rowV) ∧ (∀ (i g : Nat) (p : Int × Int), gs[i]? = some g → ps[i]? = some p → Row w B g 2 2 [p.1, p.2]) ∧ ∀ (i j g : Nat), gs[i]? = some g → gs[j]? = some g → i = j
theorem Pairs.nil (w : World) (B : Nat) : Pairs w B (.slice none 0 0) [] [] := ⟨rfl, World.ownsRow_nil _ _ _ _, fun i g p h => by simp at h, fun i j g h => by simp at h⟩
theorem outer_ne {w : World} {B g : Nat} {v : Value} {n : Nat} {us : List Value} {xs : List Int} (h : w.ownsRow B 54 1 v n us) (k : Row w B g 2 2 xs) : v.ownBlock ≠ some g := fun e => by
  rcases h.2 with ⟨rfl, _⟩ | ⟨a, cap, cur, rfl, _, ha, _⟩
  · cases e
  · have e2 : a = g := by simpa [Value.ownBlock] using e
    subst e2
    rcases k.2.2 with ⟨hv, _⟩ | ⟨b, cap2, cur2, hv, _, hb, _⟩
    · cases hv
    · cases hv
      rw [ha] at hb
      cases hb
theorem Row.kept {w w' : World} {B g n cap : Nat} {xs : List Int} {row : Option Nat} (h : Row w B g n cap xs) (hg : w.grownBy w' row) (hne : row ≠ some g) : Row w' B g n cap xs :=
  ⟨h.1, World.ownsRow.kept h.2 hg (.inr fun e => hne (e ▸ rfl))⟩
theorem Pairs.kept {w w' : World} {B : Nat} {v : Value} {gs : List Nat} {ps : List (Int × Int)} {row : Option Nat} (h : Pairs w B v gs ps) (hg : w.grownBy w' row) (h1 : ∀ b, v.ownBlock = some b → row ≠ some b) (h2 : ∀ g ∈ gs, row ≠ some g) : Pairs w' B v gs ps := by
  refine ⟨h.1, World.ownsRow.kept h.2.1 hg ?_, fun i g p hi hp => (h.2.2.1 i g p hi hp).kept hg (h2 g (List.mem_of_getElem? hi)), h.2.2.2⟩
  cases hv : v.ownBlock with
  | none => exact .inl rfl
  | some b => exact .inr fun e => h1 b hv e.symm
theorem Pairs.below {w w' : World} {B : Nat} {v : Value} {gs : List Nat} {ps : List (Int × Int)} (h : Pairs w B v gs ps) (hb : Below w.heap.size w w') : Pairs w' B v gs ps := by
  refine ⟨h.1, ⟨h.2.1.1, ?_⟩, fun i g p hi hp => (h.2.2.1 i g p hi hp).below hb, h.2.2.2⟩
  rcases h.2.1.2 with h2 | ⟨g, cap, cur, h1, h3, hg, h4⟩
  · exact .inl h2
  · exact .inr ⟨g, cap, cur, h1, h3, (hb.block g (Array.getElem?_eq_some_iff.1 hg).1).trans hg, h4⟩
theorem Pairs.row {w : World} {B i : Nat} {v : Value} {gs : List Nat} {ps : List (Int × Int)} {p : Int × Int} (h : Pairs w B v gs ps) (hp : ps[i]? = some p) : ∃ g, gs[i]? = some g ∧ Row w B g 2 2 [p.1, p.2] := by
  have hi := (List.getElem?_eq_some_iff.1 hp).1
  have hg := List.getElem?_eq_getElem (show i < gs.length by rw [h.1]; exact hi)
  exact ⟨_, hg, h.2.2.1 i _ p hg hp⟩
theorem Pairs.shape {w : World} {B : Nat} {v : Value} {gs : List Nat} {ps : List (Int × Int)} (h : Pairs w B v gs ps) :
    (v = .slice none 0 0 ∧ ps = []) ∨ ∃ a cap, v = .slice (some ⟨a, 0, none⟩) ps.length cap ∧ B ≤ a ∧ a < w.heap.size ∧ ∀ i g, gs[i]? = some g → w.cell? ⟨a, i, none⟩ = some (rowV g) := by
  have h0 := h.2.1
  rcases h0.2 with ⟨hv, hn⟩ | ⟨a, cap, cur, rfl, hb, ha, _⟩
  · exact .inl ⟨hv, List.length_eq_zero_iff.1 hn⟩
  · refine .inr ⟨a, cap, rfl, hb, (Array.getElem?_eq_some_iff.1 ha).1, fun i g hi => ?_⟩
    have hk := (List.getElem?_eq_some_iff.1 hi).1
    have hl := h.1
    rw [h0.cellAt i (by omega)]
    simp [hi]
/-- Behind an append of one pair. -/
theorem pairs_step {wr w1 : World} {B : Nat} {v v' : Value} {gs : List Nat} {ps : List (Int × Int)} {x y : Int} {o : Obj} (h : Pairs wr B v gs ps) (hB : B ≤ wr.heap.size)
    (hown' : w1.ownsRow B 54 1 v' (ps.length + 1) (gs.map rowV ++ [rowV wr.heap.size])) (hgrow : ((wr.alloc (.cells #[.int .i64 x, .int .i64 y] 3)).alloc o).grownBy w1 v.ownBlock) :
    Pairs w1 B v' (gs ++ [wr.heap.size]) (ps ++ [(x, y)]) := by
  have hbl : Below wr.heap.size wr ((wr.alloc (.cells #[.int .i64 x, .int .i64 y] 3)).alloc o) := ((Below.refl _ _).alloc (Nat.le_refl _) _).alloc (by simp) _
  have hnew : Row ((wr.alloc (.cells #[.int .i64 x, .int .i64 y] 3)).alloc o) B wr.heap.size 2 2 [x, y] := by
    have h1 : Row (wr.alloc (.cells #[.int .i64 x, .int .i64 y] 3)) B wr.heap.size 2 2 [x, y] := ⟨rfl, World.ownsRow_lit wr #[.int .i64 x, .int .i64 y] 2 hB (by unfold maxLen; omega) rfl⟩
    exact h1.below ((Below.refl _ _).alloc (Nat.le_refl _) _)
  have hold : ∀ (i g : Nat) (p : Int × Int), gs[i]? = some g → ps[i]? = some p → Row w1 B g 2 2 [p.1, p.2] := fun i g p hi hp => by
    have h1 := h.2.2.1 i g p hi hp
    exact (h1.below hbl).kept hgrow (outer_ne h.2.1 h1)
  have hlt : ∀ (i g : Nat), gs[i]? = some g → g < wr.heap.size := fun i g hi => by
    have hk := (List.getElem?_eq_some_iff.1 hi).1
    have hp := List.getElem?_eq_getElem (show i < ps.length by rw [← h.1]; exact hk)
    exact (h.2.2.1 i g _ hi hp).lt.2
  refine ⟨by simp [h.1], ?_, fun i g p hi hp => ?_, fun i j g hi hj => ?_⟩
  · rw [List.length_append, List.map_append]
    exact hown'
  · by_cases hk : i < gs.length
    · rw [List.getElem?_append_left hk] at hi
      rw [List.getElem?_append_left (by rw [← h.1]; exact hk)] at hp
      exact hold i g p hi hp
    · have hi2 := (List.getElem?_eq_some_iff.1 hi).1
      have hii : i = gs.length := by simp at hi2; omega
      subst hii
      rw [List.getElem?_append_right (Nat.le_refl _), Nat.sub_self] at hi
      rw [List.getElem?_append_right (by rw [h.1]; exact Nat.le_refl _), show gs.length - ps.length = 0 by rw [h.1]; omega] at hp
      simp at hi hp
      subst hi hp
      refine hnew.kept hgrow fun e => ?_
      have := (World.ownsRow.lt h.2.1 _ e).2
      omega
  · have hi2 := (List.getElem?_eq_some_iff.1 hi).1
    have hj2 := (List.getElem?_eq_some_iff.1 hj).1
    simp at hi2 hj2
    by_cases hk : i < gs.length
    · rw [List.getElem?_append_left hk] at hi
      by_cases hl : j < gs.length
      · rw [List.getElem?_append_left hl] at hj
        exact h.2.2.2 i j g hi hj
      · have : j = gs.length := by omega
        subst this
        rw [List.getElem?_append_right (Nat.le_refl _), Nat.sub_self] at hj
        simp at hj
        have := hlt i g hi
        omega
    · have hii : i = gs.length := by omega
      subst hii
      rw [List.getElem?_append_right (Nat.le_refl _), Nat.sub_self] at hi
      simp at hi
      by_cases hl : j < gs.length
      · rw [List.getElem?_append_left hl] at hj
        have := hlt j g hj
        omega
      · omega
theorem row_one_at {w : World} (o : Obj) (x : Value) (ho : o = .cells #[x] 54) : ∀ (j : Nat) (u : Value), [x][j]? = some u → (w.alloc o).cell? ((⟨w.heap.size, 0, none⟩ : Addr).add j) = some u := by
  intro j u hj
  subst ho
  match j, hj with
  | 0, hj => simp at hj; subst hj; simp [Addr.add]
theorem row_one_cell (g : Nat) : ∀ u ∈ [rowV g], u.oneCell' = true := by intro u hu; simp at hu; subst hu; rfl
theorem Row.drewN {w : World} {B g n cap : Nat} {xs : List Int} (h : Row w B g n cap xs) (m : Nat) : Row (w.drewN m) B g n cap xs := h.below (below_drewN (Below.refl _ _) m)
/-- The pairs (K, K + 1), (K + 2, K + 3), .. -/
def marksP (K : Int) (n : Nat) : List (Int × Int) := (List.range n).map fun j : Nat => (K + 2 * (j : Int), K + 2 * (j : Int) + 1)
def markedP (K : Int) (k : Nat) (ps : List (Int × Int)) : List (Int × Int) := marksP K k ++ ps.drop k
theorem marksP_length (K : Int) (n : Nat) : (marksP K n).length = n := by simp [marksP]
theorem marksP_at {K : Int} {n k : Nat} (h : k < n) : (marksP K n)[k]? = some (K + 2 * (k : Int), K + 2 * (k : Int) + 1) := by simp [marksP, h]
theorem markedP_length {K : Int} {k : Nat} {ps : List (Int × Int)} (h : k ≤ ps.length) : (markedP K k ps).length = ps.length := by simp [markedP, marksP_length]; omega
theorem markedP_all (K : Int) (ps : List (Int × Int)) : markedP K ps.length ps = marksP K ps.length := by simp [markedP]
theorem markedP_next {K : Int} {k : Nat} {ps : List (Int × Int)} (h : k < ps.length) : (markedP K k ps).set k (K + 2 * (k : Int), K + 2 * (k : Int) + 1) = markedP K (k + 1) ps := by
  unfold markedP
  rw [List.set_append_right _ _ (by rw [marksP_length]; exact Nat.le_refl _), marksP_length, Nat.sub_self, List.drop_eq_getElem_cons h]
  show marksP K k ++ (K + 2 * (k : Int), K + 2 * (k : Int) + 1) :: List.drop (k + 1) ps = _
  rw [show marksP K (k + 1) = marksP K k ++ [(K + 2 * (k : Int), K + 2 * (k : Int) + 1)] by simp [marksP, List.range_succ]]
  simp
theorem marks_two (K : Int) : marks K 2 = [K, K + 1] := by simp [marks, List.range_succ]
/-- One row is written anew. -/
theorem Pairs.wrote {w w' : World} {B i g : Nat} {v : Value} {gs : List Nat} {ps : List (Int × Int)} {x y : Int} (h : Pairs w B v gs ps) (hg : gs[i]? = some g) (hrow : Row w' B g 2 2 [x, y]) (hgrow : w.grownBy w' (some g)) : Pairs w' B v gs (ps.set i (x, y)) := by
  have hi := (List.getElem?_eq_some_iff.1 hg).1
  have hp := List.getElem?_eq_getElem (show i < ps.length by rw [← h.1]; exact hi)
  have hold := h.2.2.1 i g _ hg hp
  refine ⟨by rw [List.length_set]; exact h.1, ?_, fun j b p hj hpj => ?_, h.2.2.2⟩
  · rw [List.length_set]
    refine World.ownsRow.kept h.2.1 hgrow ?_
    have := outer_ne h.2.1 hold
    cases hv : v.ownBlock with
    | none => exact .inl rfl
    | some b => exact .inr fun e => this (hv.trans e)
  · by_cases hij : i = j
    · subst hij
      rw [hg] at hj
      cases hj
      rw [List.getElem?_set_self (by rw [← h.1]; exact hi)] at hpj
      cases hpj
      exact hrow
    · rw [List.getElem?_set_ne hij] at hpj
      refine (h.2.2.1 j b p hj hpj).kept hgrow fun e => hij ?_
      cases e
      exact h.2.2.2 i j _ hg hj
end Go.Proofs.Ytklhmaegpejdbaa
