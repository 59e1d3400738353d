/- Slices of pairs of ints ([][]int, each row of two ints) in memory that the call itself made; contracts of laws.eqIntSS, markIntSS, heldIntSS. -/
import Derived.Test.YtfaglhhkcgjbnaaRow
namespace Go.Proofs.Ytfaglhhkcgjbnaa
open Go.RowKit
set_option linter.unusedVariables false
set_option linter.unusedSimpArgs false
theorem underRows : Try.prog.underlying 40 = some (.slice 22) := by kernel_rfl
theorem infoRows : (Try.prog.info? 22).map (fun i => (i.zero, i.size, i.bytes)) = some (some (.slice none 0 0), 1, 24) := by kernel_rfl
/-- A row of two ints at the head of block g. -/
def rowV (g : Nat) : Value := .slice (some ⟨g, 0, none⟩) 2 2
/-- v is a slice of the pairs ps; gs: the blocks of its rows; all lies behind block number B. -/
def Pairs (w : World) (B : Nat) (v : Value) (gs : List Nat) (ps : List (Int × Int)) : Prop :=
  gs.length = ps.length ∧ w.ownsRow B 22 1 v ps.length (gs.map rowV) ∧ (∀ (i g : Nat) (p : Int × Int), gs[i]? = some g → ps[i]? = some p → Row w B g 2 2 [p.1, p.2]) ∧ ∀ (i j g : Nat), gs[i]? = some g → gs[j]? = some g → i = j
theorem Pairs.nil (w : World) (B : Nat) : Pairs w B (.slice none 0 0) [] [] := ⟨rfl, World.ownsRow_nil _ _ _ _, fun i g p h => by simp at h, fun i j g h => by simp at h⟩
theorem outer_ne {w : World} {B g : Nat} {v : Value} {n : Nat} {us : List Value} {xs : List Int} (h : w.ownsRow B 22 1 v n us) (k : Row w B g 2 2 xs) : v.ownBlock ≠ some g := fun e => by
  rcases h.2 with ⟨rfl, _⟩ | ⟨a, cap, cur, rfl, _, ha, _⟩
  · cases e
  · have e2 : a = g := by simpa [Value.ownBlock] using e
    subst e2
    rcases k.2.2 with ⟨hv, _⟩ | ⟨b, cap2, cur2, hv, _, hb, _⟩
    · cases hv
    · cases hv
      rw [ha] at hb
      cases hb
theorem Row.kept {w w' : World} {B g n cap : Nat} {xs : List Int} {row : Option Nat} (h : Row w B g n cap xs) (hg : w.grownBy w' row) (hne : row ≠ some g) : Row w' B g n cap xs :=
  ⟨h.1, World.ownsRow.kept h.2 hg (.inr fun e => hne (e ▸ rfl))⟩
theorem Pairs.kept {w w' : World} {B : Nat} {v : Value} {gs : List Nat} {ps : List (Int × Int)} {row : Option Nat} (h : Pairs w B v gs ps) (hg : w.grownBy w' row) (h1 : ∀ b, v.ownBlock = some b → row ≠ some b) (h2 : ∀ g ∈ gs, row ≠ some g) : Pairs w' B v gs ps := by
  refine ⟨h.1, World.ownsRow.kept h.2.1 hg ?_, fun i g p hi hp => (h.2.2.1 i g p hi hp).kept hg (h2 g (List.mem_of_getElem? hi)), h.2.2.2⟩
  cases hv : v.ownBlock with
  | none => exact .inl rfl
  | some b => exact .inr fun e => h1 b hv e.symm
theorem Pairs.below {w w' : World} {B : Nat} {v : Value} {gs : List Nat} {ps : List (Int × Int)} (h : Pairs w B v gs ps) (hb : Below w.heap.size w w') : Pairs w' B v gs ps := by
  refine ⟨h.1, ⟨h.2.1.1, ?_⟩, fun i g p hi hp => (h.2.2.1 i g p hi hp).below hb, h.2.2.2⟩
  rcases h.2.1.2 with h2 | ⟨g, cap, cur, h1, h3, hg, h4⟩
  · exact .inl h2
  · exact .inr ⟨g, cap, cur, h1, h3, (hb.block g (Array.getElem?_eq_some_iff.1 hg).1).trans hg, h4⟩
theorem Pairs.row {w : World} {B i : Nat} {v : Value} {gs : List Nat} {ps : List (Int × Int)} {p : Int × Int} (h : Pairs w B v gs ps) (hp : ps[i]? = some p) : ∃ g, gs[i]? = some g ∧ Row w B g 2 2 [p.1, p.2] := by
  have hi := (List.getElem?_eq_some_iff.1 hp).1
  have hg := List.getElem?_eq_getElem (show i < gs.length by rw [h.1]; exact hi)
  exact ⟨_, hg, h.2.2.1 i _ p hg hp⟩
theorem Pairs.shape {w : World} {B : Nat} {v : Value} {gs : List Nat} {ps : List (Int × Int)} (h : Pairs w B v gs ps) :
    (v = .slice none 0 0 ∧ ps = []) ∨ ∃ a cap, v = .slice (some ⟨a, 0, none⟩) ps.length cap ∧ B ≤ a ∧ a < w.heap.size ∧ ∀ i g, gs[i]? = some g → w.cell? ⟨a, i, none⟩ = some (rowV g) := by
  have h0 := h.2.1
  rcases h0.2 with ⟨hv, hn⟩ | ⟨a, cap, cur, rfl, hb, ha, _⟩
  · exact .inl ⟨hv, List.length_eq_zero_iff.1 hn⟩
  · refine .inr ⟨a, cap, rfl, hb, (Array.getElem?_eq_some_iff.1 ha).1, fun i g hi => ?_⟩
    have hk := (List.getElem?_eq_some_iff.1 hi).1
    have hl := h.1
    rw [h0.cellAt i (by omega)]
    simp [hi]
/-- Behind an append of one pair. -/
theorem pairs_step {wr w1 : World} {B : Nat} {v v' : Value} {gs : List Nat} {ps : List (Int × Int)} {x y : Int} {o : Obj} (h : Pairs wr B v gs ps) (hB : B ≤ wr.heap.size)
    (hown' : w1.ownsRow B 22 1 v' (ps.length + 1) (gs.map rowV ++ [rowV wr.heap.size])) (hgrow : ((wr.alloc (.cells #[.int .i64 x, .int .i64 y] 3)).alloc o).grownBy w1 v.ownBlock) :
    Pairs w1 B v' (gs ++ [wr.heap.size]) (ps ++ [(x, y)]) := by
  have hbl : Below wr.heap.size wr ((wr.alloc (.cells #[.int .i64 x, .int .i64 y] 3)).alloc o) := ((Below.refl _ _).alloc (Nat.le_refl _) _).alloc (by simp) _
  have hnew : Row ((wr.alloc (.cells #[.int .i64 x, .int .i64 y] 3)).alloc o) B wr.heap.size 2 2 [x, y] := by
    have h1 : Row (wr.alloc (.cells #[.int .i64 x, .int .i64 y] 3)) B wr.heap.size 2 2 [x, y] := ⟨rfl, World.ownsRow_lit wr #[.int .i64 x, .int .i64 y] 2 hB (by unfold maxLen; omega) rfl⟩
    exact h1.below ((Below.refl _ _).alloc (Nat.le_refl _) _)
  have hold : ∀ (i g : Nat) (p : Int × Int), gs[i]? = some g → ps[i]? = some p → Row w1 B g 2 2 [p.1, p.2] := fun i g p hi hp => by
    have h1 := h.2.2.1 i g p hi hp
    exact (h1.below hbl).kept hgrow (outer_ne h.2.1 h1)
  have hlt : ∀ (i g : Nat), gs[i]? = some g → g < wr.heap.size := fun i g hi => by
    have hk := (List.getElem?_eq_some_iff.1 hi).1
    have hp := List.getElem?_eq_getElem (show i < ps.length by rw [← h.1]; exact hk)
    exact (h.2.2.1 i g _ hi hp).lt.2
  refine ⟨by simp [h.1], ?_, fun i g p hi hp => ?_, fun i j g hi hj => ?_⟩
  · rw [List.length_append, List.map_append]
    exact hown'
  · by_cases hk : i < gs.length
    · rw [List.getElem?_append_left hk] at hi
      rw [List.getElem?_append_left (by rw [← h.1]; exact hk)] at hp
      exact hold i g p hi hp
    · have hi2 := (List.getElem?_eq_some_iff.1 hi).1
      have hii : i = gs.length := by simp at hi2; omega
      subst hii
      rw [List.getElem?_append_right (Nat.le_refl _), Nat.sub_self] at hi
      rw [List.getElem?_append_right (by rw [h.1]; exact Nat.le_refl _), show gs.length - ps.length = 0 by rw [h.1]; omega] at hp
      simp at hi hp
      subst hi hp
      refine hnew.kept hgrow fun e => ?_
      have := (World.ownsRow.lt h.2.1 _ e).2
      omega
  · have hi2 := (List.getElem?_eq_some_iff.1 hi).1
    have hj2 := (List.getElem?_eq_some_iff.1 hj).1
    simp at hi2 hj2
    by_cases hk : i < gs.length
    · rw [List.getElem?_append_left hk] at hi
      by_cases hl : j < gs.length
      · rw [List.getElem?_append_left hl] at hj
        exact h.2.2.2 i j g hi hj
      · have : j = gs.length := by omega
        subst this
        rw [List.getElem?_append_right (Nat.le_refl _), Nat.sub_self] at hj
        simp at hj
        have := hlt i g hi
        omega
    · have hii : i = gs.length := by omega
      subst hii
      rw [List.getElem?_append_right (Nat.le_refl _), Nat.sub_self] at hi
      simp at hi
      by_cases hl : j < gs.length
      · rw [List.getElem?_append_left hl] at hj
        have := hlt j g hj
        omega
      · omega
theorem row_one_at {w : World} (o : Obj) (x : Value) (ho : o = .cells #[x] 22) : ∀ (j : Nat) (u : Value), [x][j]? = some u → (w.alloc o).cell? ((⟨w.heap.size, 0, none⟩ : Addr).add j) = some u := by
  intro j u hj
  subst ho
  match j, hj with
  | 0, hj => simp at hj; subst hj; simp [Addr.add]
theorem row_one_cell (g : Nat) : ∀ u ∈ [rowV g], u.oneCell' = true := by intro u hu; simp at hu; subst hu; rfl
/-- A comparison draws, and does no more. -/
theorem eqIntS_dr (xs : List Int) (g h cap cap' : Nat) (w : World) (hl : xs.length ≤ 4611686018427387904)
    (hr : ∀ (k : Nat) (x : Int), xs[k]? = some x → w.cell? ⟨g, k, none⟩ = some (.int .i64 x)) (hr2 : ∀ (k : Nat) (x : Int), xs[k]? = some x → w.cell? ⟨h, k, none⟩ = some (.int .i64 x)) :
    Calls Try.prog 17 #[.slice (some ⟨g, 0, none⟩) xs.length cap, .slice (some ⟨h, 0, none⟩) xs.length cap'] w fun e w' => e = .returned (.bool true) ∧ ∃ m, w' = w.drewN m := by
  have HR := Lib.hid hr
  have HR2 := Lib.hid hr2
  clear hr hr2
  go_enter Try.func17, Try.ntmps17
  go_wp2
  go_loopw [5] (fun i wr => ∃ k : Nat, k ≤ xs.length ∧ i = .int .i64 k ∧ ∃ m, wr = w.drewN m) (fun i _ => xs.length - (intOf i).toNat)
  case atStart => exact ⟨0, by omega, rfl, 0, rfl⟩
  case round =>
    obtain ⟨k, hk, rfl, m, rfl⟩ := hrel
    by_cases hlt : k < xs.length
    · obtain ⟨x, hx⟩ : ∃ x, xs[k]? = some x := ⟨_, List.getElem?_eq_getElem hlt⟩
      have hc := HR.out k x hx
      have hc2 := HR2.out k x hx
      have HX := Lib.hid hx
      have b0 : (0 : Int) ≤ (k : Int) := by omega
      have b1 : (k : Int) < (xs.length : Int) := by omega
      clear hx
      go_wp2_with fail
      go_quiet (fail)
      go_wp2
      go_roundw
      case rel => exact ⟨k + 1, by omega, by go_num, _, rfl⟩
      case measure => simp [intOf]; omega
    · go_wp2
      go_ret
      exact ⟨rfl, m, rfl⟩
theorem Row.drewN {w : World} {B g n cap : Nat} {xs : List Int} (h : Row w B g n cap xs) (m : Nat) : Row (w.drewN m) B g n cap xs := h.below (below_drewN (Below.refl _ _) m)
theorem eq_rows {w : World} {B B' g h : Nat} {x y : Int} (k : Row w B g 2 2 [x, y]) (k' : Row w B' h 2 2 [x, y]) :
    Calls Try.prog 17 #[rowV g, rowV h] w fun e w' => e = .returned (.bool true) ∧ ∃ m, w' = w.drewN m :=
  eqIntS_dr [x, y] g h 2 2 w (by simp) (fun i u hu => k.cell hu) (fun i u hu => k'.cell hu)
set_option maxHeartbeats 1000000 in
theorem eqIntSS_some {B B' a a' cap cap' : Nat} {gs hs : List Nat} {ps : List (Int × Int)} {w : World} (hl : ps.length ≤ 1000000000000)
    (h : Pairs w B (.slice (some ⟨a, 0, none⟩) ps.length cap) gs ps) (h' : Pairs w B' (.slice (some ⟨a', 0, none⟩) ps.length cap') hs ps)
    (hc : ∀ i g, gs[i]? = some g → w.cell? ⟨a, i, none⟩ = some (rowV g)) (hc' : ∀ i g, hs[i]? = some g → w.cell? ⟨a', i, none⟩ = some (rowV g)) :
    Calls Try.prog 28 #[.slice (some ⟨a, 0, none⟩) ps.length cap, .slice (some ⟨a', 0, none⟩) ps.length cap'] w fun e w' => e = .returned (.bool true) ∧ Below w.heap.size w w' := by
  have H := Lib.hid h
  have H' := Lib.hid h'
  have HC := Lib.hid hc
  have HC' := Lib.hid hc'
  clear h h' hc hc'
  go_enter Try.func28, Try.ntmps28
  go_wp2
  go_loopw [5] (fun i wr => ∃ k : Nat, k ≤ ps.length ∧ i = .int .i64 k ∧ ∃ m, wr = w.drewN m) (fun i _ => ps.length - (intOf i).toNat)
  case atStart => exact ⟨0, by omega, rfl, 0, rfl⟩
  case round =>
    obtain ⟨k, hk, rfl, m, rfl⟩ := hrel
    by_cases hlt : k < ps.length
    · obtain ⟨p, hp⟩ : ∃ p, ps[k]? = some p := ⟨_, List.getElem?_eq_getElem hlt⟩
      obtain ⟨g, hg, hrow⟩ := H.out.row hp
      obtain ⟨g', hg', hrow'⟩ := H'.out.row hp
      have hc := HC.out k g hg
      have hc' := HC'.out k g' hg'
      have R := Lib.hid hrow
      have R' := Lib.hid hrow'
      have b0 : (0 : Int) ≤ (k : Int) := by omega
      have b1 : (k : Int) < (ps.length : Int) := by omega
      clear hp hg hg' hrow hrow'
      go_wp2_with fail
      go_quiet ((go_at_call 17; first | exact Calls.quiet_of (eq_rows (R.out.drewN _) (R'.out.drewN _)) | exact quietDA (eq_rows (R.out.drewN _) (R'.out.drewN _))))
      go_wp2
      go_roundw
      case rel => exact ⟨k + 1, by omega, by go_num, _, rfl⟩
      case measure => simp [intOf]; omega
    · go_wp2
      go_ret
      exact ⟨rfl, by repeat' (first | (with_reducible exact Below.refl _ _) | (with_reducible assumption) | (with_reducible refine Below.alloc ?_ ?_ _) | (with_reducible refine Below.drew ?_) | (with_reducible refine below_drewN ?_ _) | (with_reducible refine Below.setCell ?_ ?_ _) | go_size)⟩
theorem eqIntSS_none (w : World) :
    Calls Try.prog 28 #[.slice none 0 0, .slice none 0 0] w fun e w' => e = .returned (.bool true) ∧ Below w.heap.size w w' := by
  go_enter Try.func28, Try.ntmps28
  go_wp2
  go_rounds 1
  go_ret
  exact ⟨rfl, Below.refl _ _⟩
theorem eqIntSS_nones (A A' : Option Addr) (c c' : Nat) (w : World) :
    Calls Try.prog 28 #[.slice A 0 c, .slice A' 0 c'] w fun e w' => e = .returned (.bool true) ∧ Below w.heap.size w w' := by
  go_enter Try.func28, Try.ntmps28
  go_wp2
  go_rounds 1
  go_ret
  exact ⟨rfl, Below.refl _ _⟩
theorem eqIntSS_same {B B' : Nat} {v v' : Value} {gs hs : List Nat} {ps : List (Int × Int)} {w : World} (h : Pairs w B v gs ps) (h' : Pairs w B' v' hs ps) (hl : ps.length ≤ 1000000000000) :
    Calls Try.prog 28 #[v, v'] w fun e w' => e = .returned (.bool true) ∧ Below w.heap.size w w' := by
  rcases h.shape with ⟨rfl, rfl⟩ | ⟨a, cap, rfl, _, _, hc⟩
  · rcases h'.shape with ⟨rfl, _⟩ | ⟨a', cap', rfl, _⟩
    · exact eqIntSS_none _
    · exact eqIntSS_nones _ _ _ _ _
  · rcases h'.shape with ⟨rfl, rfl⟩ | ⟨a', cap', rfl, _, _, hc'⟩
    · exact eqIntSS_nones _ _ _ _ _
    · exact eqIntSS_some hl h h' hc hc'
/-- The pairs (K, K + 1), (K + 2, K + 3), .. -/
def marksP (K : Int) (n : Nat) : List (Int × Int) := (List.range n).map fun j : Nat => (K + 2 * (j : Int), K + 2 * (j : Int) + 1)
def markedP (K : Int) (k : Nat) (ps : List (Int × Int)) : List (Int × Int) := marksP K k ++ ps.drop k
theorem marksP_length (K : Int) (n : Nat) : (marksP K n).length = n := by simp [marksP]
theorem marksP_at {K : Int} {n k : Nat} (h : k < n) : (marksP K n)[k]? = some (K + 2 * (k : Int), K + 2 * (k : Int) + 1) := by simp [marksP, h]
theorem markedP_length {K : Int} {k : Nat} {ps : List (Int × Int)} (h : k ≤ ps.length) : (markedP K k ps).length = ps.length := by simp [markedP, marksP_length]; omega
theorem markedP_all (K : Int) (ps : List (Int × Int)) : markedP K ps.length ps = marksP K ps.length := by simp [markedP]
theorem markedP_next {K : Int} {k : Nat} {ps : List (Int × Int)} (h : k < ps.length) : (markedP K k ps).set k (K + 2 * (k : Int), K + 2 * (k : Int) + 1) = markedP K (k + 1) ps := by
  unfold markedP
  rw [List.set_append_right _ _ (by rw [marksP_length]; exact Nat.le_refl _), marksP_length, Nat.sub_self, List.drop_eq_getElem_cons h]
  show marksP K k ++ (K + 2 * (k : Int), K + 2 * (k : Int) + 1) :: List.drop (k + 1) ps = _
  rw [show marksP K (k + 1) = marksP K k ++ [(K + 2 * (k : Int), K + 2 * (k : Int) + 1)] by simp [marksP, List.range_succ]]
  simp
theorem marks_two (K : Int) : marks K 2 = [K, K + 1] := by simp [marks, List.range_succ]
/-- One row is written anew. -/
theorem Pairs.wrote {w w' : World} {B i g : Nat} {v : Value} {gs : List Nat} {ps : List (Int × Int)} {x y : Int} (h : Pairs w B v gs ps) (hg : gs[i]? = some g) (hrow : Row w' B g 2 2 [x, y]) (hgrow : w.grownBy w' (some g)) : Pairs w' B v gs (ps.set i (x, y)) := by
  have hi := (List.getElem?_eq_some_iff.1 hg).1
  have hp := List.getElem?_eq_getElem (show i < ps.length by rw [← h.1]; exact hi)
  have hold := h.2.2.1 i g _ hg hp
  refine ⟨by rw [List.length_set]; exact h.1, ?_, fun j b p hj hpj => ?_, h.2.2.2⟩
  · rw [List.length_set]
    refine World.ownsRow.kept h.2.1 hgrow ?_
    have := outer_ne h.2.1 hold
    cases hv : v.ownBlock with
    | none => exact .inl rfl
    | some b => exact .inr fun e => this (hv.trans e)
  · by_cases hij : i = j
    · subst hij
      rw [hg] at hj
      cases hj
      rw [List.getElem?_set_self (by rw [← h.1]; exact hi)] at hpj
      cases hpj
      exact hrow
    · rw [List.getElem?_set_ne hij] at hpj
      refine (h.2.2.1 j b p hj hpj).kept hgrow fun e => hij ?_
      cases e
      exact h.2.2.2 i j _ hg hj
set_option maxHeartbeats 1000000 in
theorem markIntSS_some {B a cap : Nat} {gs : List Nat} {ps : List (Int × Int)} {w : World} (K : Int) (hl : ps.length ≤ 100000000000) (hK0 : 0 ≤ K) (hK1 : K ≤ 1000000000000) (hB : B ≤ w.heap.size) (hBa : B ≤ a) (haw : a < w.heap.size)
    (h : Pairs w B (.slice (some ⟨a, 0, none⟩) ps.length cap) gs ps) (hc : ∀ i g, gs[i]? = some g → w.cell? ⟨a, i, none⟩ = some (rowV g)) :
    Calls Try.prog 29 #[.slice (some ⟨a, 0, none⟩) ps.length cap, .int .i64 K] w fun e w' => e = .returned (.int .i64 (K + 2 * (ps.length : Int))) ∧ Pairs w' B (.slice (some ⟨a, 0, none⟩) ps.length cap) gs (marksP K ps.length) ∧ Below B w w' := by
  have H0 := Lib.hid h
  clear h hc
  go_enter Try.func29, Try.ntmps29
  go_wp2
  go_loopw [1, 5] (fun m i wr => ∃ k : Nat, k ≤ ps.length ∧ i = .int .i64 k ∧ m = .int .i64 (K + 2 * (k : Int)) ∧ Hid (Pairs wr B (.slice (some ⟨a, 0, none⟩) ps.length cap) gs (markedP K k ps)) ∧ Hid (Below B w wr)) (fun _ i _ => ps.length - (intOf i).toNat)
  case atStart => exact ⟨0, by omega, rfl, by simp, H0, Below.refl _ _⟩
  case round =>
    obtain ⟨k, hk, rfl, rfl, HN, HB⟩ := hrel
    by_cases hlt : k < ps.length
    · have b0 : (0 : Int) ≤ (k : Int) := by omega
      have b1 : (k : Int) < (ps.length : Int) := by omega
      obtain ⟨p, hp⟩ : ∃ p, (markedP K k ps)[k]? = some p := ⟨_, List.getElem?_eq_getElem (by rw [markedP_length hk]; exact hlt)⟩
      obtain ⟨g, hg, hrow⟩ := HN.out.row hp
      have hcell : wr.cell? ⟨a, k, none⟩ = some (rowV g) := by
        rcases HN.out.shape with ⟨hv, _⟩ | ⟨a2, cap2, hv, _, _, hc2⟩
        · cases hv
        · have e2 : a = a2 := by have h3 := congrArg Value.ownBlock hv; simpa [Value.ownBlock] using h3
          subst e2
          exact hc2 k g hg
      have HG := Lib.hid hg
      have R := Lib.hid hrow
      have hsz : B ≤ wr.heap.size := by have := HB.out.size; omega
      clear hp hg hrow
      go_wp2_with (go_at_call 18; refine (markIntS_row (xs := [p.1, p.2]) (K + 2 * (k : Int)) R.out.nums hsz (by simp) (by omega) (by omega)).mono ?_; rintro e w2 ⟨rfl, n2, g2, hb2⟩; have N2 := Lib.hid n2; have G2 := Lib.hid g2; have B2 := Lib.hid hb2; clear n2 g2 hb2)
      have hr2 : Row w2 B g 2 2 [K + 2 * (k : Int), K + 2 * (k : Int) + 1] := by
        have := N2.out
        simp only [List.length_cons, List.length_nil, Nat.zero_add] at this
        rw [show (1 + 1 : Nat) = 2 from rfl, marks_two] at this
        exact ⟨rfl, this⟩
      have hw := HN.out.wrote HG.out hr2 G2.out
      rw [markedP_next hlt] at hw
      have HW := Lib.hid hw
      have HB2 := Lib.hid (HB.out.trans B2.out)
      clear hr2 hw
      go_wp2
      go_roundw
      case rel => exact ⟨k + 1, by omega, by go_num, by simp; omega, HW, HB2⟩
      case measure => simp [intOf]; omega
    · obtain rfl : k = ps.length := by omega
      have HW : Hid (Pairs wr B (.slice (some ⟨a, 0, none⟩) ps.length cap) gs (marksP K ps.length)) := by
        have := HN.out; rw [markedP_all] at this; exact this
      go_wp2
      go_ret
      exact ⟨rfl, HW.out, HB.out⟩
theorem markIntSS_none (K : Int) (w : World) :
    Calls Try.prog 29 #[.slice none 0 0, .int .i64 K] w fun e w' => e = .returned (.int .i64 K) ∧ w = w' := by
  go_enter Try.func29, Try.ntmps29
  go_wp2
  go_rounds 1
  go_ret
  exact ⟨rfl, rfl⟩
theorem markIntSS_any {B : Nat} {v : Value} {gs : List Nat} {ps : List (Int × Int)} {w : World} (K : Int) (h : Pairs w B v gs ps) (hB : B ≤ w.heap.size) (hl : ps.length ≤ 100000000000) (hK0 : 0 ≤ K) (hK1 : K ≤ 1000000000000) :
    Calls Try.prog 29 #[v, .int .i64 K] w fun e w' => e = .returned (.int .i64 (K + 2 * (ps.length : Int))) ∧ Pairs w' B v gs (marksP K ps.length) ∧ Below B w w' := by
  rcases h.shape with ⟨rfl, rfl⟩ | ⟨a, cap, rfl, h1, h2, hc⟩
  · have hg : gs = [] := List.length_eq_zero_iff.1 (by rw [h.1]; rfl)
    subst hg
    refine (markIntSS_none K w).mono ?_
    rintro e w' ⟨rfl, rfl⟩
    exact ⟨by simp, Pairs.nil _ _, Below.refl _ _⟩
  · exact markIntSS_some K hl hK0 hK1 hB h1 h2 h hc
set_option maxHeartbeats 1000000 in
theorem heldIntSS_some {B a cap n : Nat} {gs : List Nat} {w : World} (K : Int) (hl : n ≤ 100000000000) (hK0 : 0 ≤ K) (hK1 : K ≤ 1000000000000)
    (h : Pairs w B (.slice (some ⟨a, 0, none⟩) n cap) gs (marksP K n)) (hc : ∀ i g, gs[i]? = some g → w.cell? ⟨a, i, none⟩ = some (rowV g)) :
    Calls Try.prog 30 #[.slice (some ⟨a, 0, none⟩) n cap, .int .i64 K] w fun e w' => e = .returned (.int .i64 (K + 2 * (n : Int))) ∧ w = w' := by
  have H := Lib.hid h
  have HC := Lib.hid hc
  clear h hc
  go_enter Try.func30, Try.ntmps30
  go_wp2
  go_loop [1, 5] (fun m i => ∃ k : Nat, k ≤ n ∧ i = .int .i64 k ∧ m = .int .i64 (K + 2 * (k : Int))) (fun _ i => n - (intOf i).toNat)
  case atStart => exact ⟨0, by omega, rfl, by simp⟩
  case round =>
    obtain ⟨k, hk, rfl, rfl⟩ := hrel
    by_cases hlt : k < n
    · have b0 : (0 : Int) ≤ (k : Int) := by omega
      have b1 : (k : Int) < (n : Int) := by omega
      obtain ⟨g, hg, hrow⟩ := H.out.row (marksP_at hlt)
      have hcell := HC.out k g hg
      have R : Hid (Nums w B (rowV g) (marks (K + 2 * (k : Int)) 2)) := by
        show Nums _ _ _ _
        rw [marks_two]
        exact hrow.nums
      clear hg hrow
      go_wp2_with (go_at_call 19; refine (heldIntS_any (K + 2 * (k : Int)) R.out (by omega) (by omega) (by omega)).mono ?_; rintro e w' ⟨rfl, rfl⟩)
      go_round
      case rel => exact ⟨k + 1, by omega, by go_num, by simp; omega⟩
      case measure => simp [intOf]; omega
    · obtain rfl : k = n := by omega
      go_wp2
      go_ret
      exact ⟨rfl, rfl⟩
theorem heldIntSS_none (K : Int) (w : World) :
    Calls Try.prog 30 #[.slice none 0 0, .int .i64 K] w fun e w' => e = .returned (.int .i64 K) ∧ w = w' := by
  go_enter Try.func30, Try.ntmps30
  go_wp2
  go_rounds 1
  go_ret
  exact ⟨rfl, rfl⟩
theorem heldIntSS_any {B n : Nat} {v : Value} {gs : List Nat} {w : World} (K : Int) (h : Pairs w B v gs (marksP K n)) (hl : n ≤ 100000000000) (hK0 : 0 ≤ K) (hK1 : K ≤ 1000000000000) :
    Calls Try.prog 30 #[v, .int .i64 K] w fun e w' => e = .returned (.int .i64 (K + 2 * (n : Int))) ∧ w = w' := by
  have hlen := marksP_length K n
  rcases h.shape with ⟨rfl, h0⟩ | ⟨a, cap, rfl, _, _, hc⟩
  · rw [h0] at hlen
    obtain rfl : n = 0 := hlen.symm
    refine (heldIntSS_none K w).mono ?_
    rintro e w' ⟨rfl, rfl⟩
    exact ⟨by simp, rfl⟩
  · rw [hlen] at h ⊢
    exact heldIntSS_some K hl hK0 hK1 h hc
end Go.Proofs.Ytfaglhhkcgjbnaa
