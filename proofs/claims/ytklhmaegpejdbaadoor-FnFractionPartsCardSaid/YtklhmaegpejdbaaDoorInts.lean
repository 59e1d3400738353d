/- Slices of ints in memory that the call itself made; contracts of laws.eqIntS, markIntS, heldIntS. -/
import Derived.Test.YtklhmaegpejdbaaDoorFrame
import Derived.WalkKit
namespace Go.Proofs.YtklhmaegpejdbaaDoor
open Go.RowKit
set_option linter.unusedVariables false
set_option linter.unusedSimpArgs false
theorem underInts : Tryd.prog.underlying 22 = some (.slice 3) := by kernel_rfl
theorem infoInt : (Tryd.prog.info? 3).map (fun i => (i.zero, i.size, i.bytes)) = some (some (.int .i64 0), 1, 8) := by kernel_rfl
/-- v is a slice of the numbers xs; its memory lies behind block number B. -/
def Nums (w : World) (B : Nat) (v : Value) (xs : List Int) : Prop := w.ownsRow B 3 1 v xs.length (xs.map (Value.int .i64))
theorem Nums.nil (w : World) (B : Nat) : Nums w B (.slice none 0 0) [] := World.ownsRow_nil _ _ _ _
theorem Nums.shape {w : World} {B : Nat} {v : Value} {xs : List Int} (h : Nums w B v xs) :
    (v = .slice none 0 0 ∧ xs = []) ∨ ∃ g cap, v = .slice (some ⟨g, 0, none⟩) xs.length cap ∧ B ≤ g ∧ g < w.heap.size ∧
      (∀ (k : Nat) (x : Int), xs[k]? = some x → w.cell? ⟨g, k, none⟩ = some (.int .i64 x)) ∧ ∀ k, w.frozen? ⟨g, k, none⟩ = false := by
  have h0 : w.ownsRow B 3 1 v xs.length (xs.map (Value.int .i64)) := h
  rcases h0.2 with ⟨hv, hn⟩ | ⟨g, cap, cur, rfl, hb, hg, _⟩
  · exact .inl ⟨hv, List.length_eq_zero_iff.1 hn⟩
  · refine .inr ⟨g, cap, rfl, hb, (Array.getElem?_eq_some_iff.1 hg).1, fun k x hx => ?_, fun k => h0.frozenAt k⟩
    have hk := (List.getElem?_eq_some_iff.1 hx).1
    rw [h0.cellAt k (by omega)]
    simp [hx]
theorem Nums.kept {w w' : World} {B : Nat} {v : Value} {xs : List Int} {row : Option Nat} (h : Nums w B v xs) (hg : w.grownBy w' row) (hne : ∀ b, v.ownBlock = some b → row ≠ some b) : Nums w' B v xs := by
  refine World.ownsRow.kept h hg ?_
  cases hv : v.ownBlock with
  | none => exact .inl rfl
  | some b => exact .inr fun e => hne b hv e.symm
theorem Nums.below {w w' : World} {B : Nat} {v : Value} {xs : List Int} (h : Nums w B v xs) (hb : Below w.heap.size w w') : Nums w' B v xs := by
  refine ⟨h.1, ?_⟩
  rcases h.2 with h2 | ⟨g, cap, cur, h1, h3, hg, h4⟩
  · exact .inl h2
  · exact .inr ⟨g, cap, cur, h1, h3, (hb.block g (Array.getElem?_eq_some_iff.1 hg).1).trans hg, h4⟩
theorem Nums.mono {w : World} {B C : Nat} {v : Value} {xs : List Int} (h : Nums w B v xs) (hC : C ≤ B) : Nums w C v xs := by
  refine ⟨h.1, ?_⟩
  rcases h.2 with h2 | ⟨g, cap, cur, h1, h3, h4⟩
  · exact .inl h2
  · exact .inr ⟨g, cap, cur, h1, Nat.le_trans hC h3, h4⟩
theorem Nums.lt {w : World} {B : Nat} {v : Value} {xs : List Int} (h : Nums w B v xs) : ∀ b, v.ownBlock = some b → B ≤ b ∧ b < w.heap.size := World.ownsRow.lt h
theorem Nums.apart {a b : World} {B B2 : Nat} {v v2 : Value} {xs ys : List Int} (n1 : Nums a B v xs) (n2 : Nums b B2 v2 ys) (h : a.heap.size ≤ B2) : ∀ x, v.ownBlock = some x → v2.ownBlock ≠ some x := fun x h1 h2 => by
  have := (n1.lt x h1).2
  have := (n2.lt x h2).1
  omega
theorem bcellB {B : Nat} {W w1 : World} (hb : Below B W w1) : (∀ b o, b < B → w1.cell? ⟨b, o, none⟩ = W.cell? ⟨b, o, none⟩) ∧ (∀ b o, b < B → w1.frozen? ⟨b, o, none⟩ = W.frozen? ⟨b, o, none⟩) :=
  ⟨fun b o h => hb.cell (p := ⟨b, o, none⟩) h, fun b o h => hb.frozen (p := ⟨b, o, none⟩) h⟩
/-- Behind an append of one number. -/
theorem nums_step {w wr w1 : World} {B C : Nat} {v v' : Value} {xs : List Int} {x : Int} {o : Obj} (h : Nums wr B v xs) (hnx : Below C w wr) (hC : C ≤ B) (hB : B ≤ wr.heap.size)
    (hown' : w1.ownsRow B 3 1 v' (xs.length + 1) (xs.map (Value.int .i64) ++ [.int .i64 x])) (hgrow : (wr.alloc o).grownBy w1 v.ownBlock) :
    Nums w1 B v' (xs ++ [x]) ∧ Below C w w1 := by
  refine ⟨?_, (hnx.alloc (by omega) o).grown hgrow (by simp; omega) fun j hj => Nat.le_trans hC (h.lt j hj).1⟩
  unfold Nums
  rw [List.length_append, List.map_append]
  exact hown'
theorem one_at {w : World} (o : Obj) (x : Value) (ho : o = .cells #[x] 3) : ∀ (j : Nat) (u : Value), [x][j]? = some u → (w.alloc o).cell? ((⟨w.heap.size, 0, none⟩ : Addr).add j) = some u := by
  intro j u hj
  subst ho
  match j, hj with
  | 0, hj => simp at hj; subst hj; simp [Addr.add]
theorem one_cell (x : Int) : ∀ u ∈ [Value.int .i64 x], u.oneCell' = true := by intro u hu; simp at hu; subst hu; rfl
theorem ret_v_bool {v : Value} {x y : Bool} (h2 : x = y) : Ending.returned (.tuple #[v, .bool x]) = .returned (.tuple #[v, .bool y]) := by rw [h2]
/-- A cell of another row, behind an append. -/
theorem cell_step {wr w1 : World} {B : Nat} {v : Value} {xs : List Int} {o : Obj} {a : Addr} {u : Value} (h : Nums wr B v xs) (ha : a.block < B) (hB : B ≤ wr.heap.size) (hgrow : (wr.alloc o).grownBy w1 v.ownBlock) (hc : wr.cell? a = some u) : w1.cell? a = some u :=
  hgrow.cell ((World.cell?_alloc_lt _ _ _ (Nat.lt_of_lt_of_le ha hB)).trans hc) fun e => absurd (h.lt _ e.symm).1 (by show ¬ B ≤ a.block; omega)
/-- The numbers f j, j below k, whose j passes. -/
def gath (P : Nat → Bool) (f : Nat → Int) (k : Nat) : List Int := ((List.range k).filter P).map f
theorem gath_zero (P : Nat → Bool) (f : Nat → Int) : gath P f 0 = [] := rfl
theorem gath_yes {P : Nat → Bool} {f : Nat → Int} {k : Nat} (h : P k = true) : gath P f (k + 1) = gath P f k ++ [f k] := by
  unfold gath
  rw [List.range_succ, List.filter_append, List.map_append]
  simp [h]
theorem gath_no {P : Nat → Bool} {f : Nat → Int} {k : Nat} (h : P k = false) : gath P f (k + 1) = gath P f k := by
  unfold gath
  rw [List.range_succ, List.filter_append, List.map_append]
  simp [h]
theorem gath_length (P : Nat → Bool) (f : Nat → Int) (k : Nat) : (gath P f k).length ≤ k := by
  unfold gath
  rw [List.length_map]
  exact Nat.le_trans (List.length_filter_le _ _) (by simp)
/-- The numbers K, K + 1, .. -/
def marks (K : Int) (n : Nat) : List Int := (List.range n).map fun j : Nat => K + (j : Int)
theorem marks_length (K : Int) (n : Nat) : (marks K n).length = n := by simp [marks]
theorem marks_at {K : Int} {n k : Nat} (h : k < n) : (marks K n)[k]? = some (K + (k : Int)) := by simp [marks, h]
def marked (K : Int) (k : Nat) (xs : List Int) : List Int := marks K k ++ xs.drop k
theorem marked_zero (K : Int) (xs : List Int) : marked K 0 xs = xs := rfl
theorem marked_length {K : Int} {k : Nat} {xs : List Int} (h : k ≤ xs.length) : (marked K k xs).length = xs.length := by simp [marked, marks_length]; omega
theorem marked_all (K : Int) (xs : List Int) : marked K xs.length xs = marks K xs.length := by simp [marked]
theorem marked_next {K : Int} {k : Nat} {xs : List Int} (h : k < xs.length) : (marked K k xs).set k (K + (k : Int)) = marked K (k + 1) xs := by
  unfold marked
  rw [List.set_append_right _ _ (by rw [marks_length]; exact Nat.le_refl _), marks_length, Nat.sub_self, List.drop_eq_getElem_cons h]
  show marks K k ++ (K + (k : Int)) :: List.drop (k + 1) xs = _
  rw [show marks K (k + 1) = marks K k ++ [K + (k : Int)] by simp [marks, List.range_succ]]
  simp

set_option maxHeartbeats 400000 in
theorem eqIntS_some (xs : List Int) (g h cap cap' : Nat) (w : World) (hl : xs.length ≤ 4611686018427387904)
    (hr : ∀ (k : Nat) (x : Int), xs[k]? = some x → w.cell? ⟨g, k, none⟩ = some (.int .i64 x)) (hr2 : ∀ (k : Nat) (x : Int), xs[k]? = some x → w.cell? ⟨h, k, none⟩ = some (.int .i64 x)) :
    Calls Tryd.prog 50 #[.slice (some ⟨g, 0, none⟩) xs.length cap, .slice (some ⟨h, 0, none⟩) xs.length cap'] w fun e w' => e = .returned (.bool true) ∧ Below w.heap.size w w' := by
  have HR := Lib.hid hr
  have HR2 := Lib.hid hr2
  clear hr hr2
  go_enter Tryd.func50, Tryd.ntmps50
  go_wp2
  go_loopw [5] (fun i wr => ∃ k : Nat, k ≤ xs.length ∧ i = .int .i64 k ∧ ∃ m, wr = w.drewN m) (fun i _ => xs.length - (intOf i).toNat)
  case atStart => exact ⟨0, by omega, rfl, 0, rfl⟩
  case round =>
    obtain ⟨k, hk, rfl, m, rfl⟩ := hrel
    by_cases hlt : k < xs.length
    · obtain ⟨x, hx⟩ : ∃ x, xs[k]? = some x := ⟨_, List.getElem?_eq_getElem hlt⟩
      have hc := HR.out k x hx
      have hc2 := HR2.out k x hx
      have HX := Lib.hid hx
      have b0 : (0 : Int) ≤ (k : Int) := by omega
      have b1 : (k : Int) < (xs.length : Int) := by omega
      clear hx
      go_wp2_with fail
      go_quiet (fail)
      go_wp2
      go_roundw
      case rel => exact ⟨k + 1, by omega, by go_num, _, rfl⟩
      case measure => simp [intOf]; omega
    · go_wp2
      go_ret
      exact ⟨rfl, by repeat' (first | (with_reducible exact Below.refl _ _) | (with_reducible assumption) | (with_reducible refine Below.alloc ?_ ?_ _) | (with_reducible refine Below.drew ?_) | (with_reducible refine below_drewN ?_ _) | (with_reducible refine Below.setCell ?_ ?_ _) | go_size)⟩
theorem eqIntS_none (A A' : Option Addr) (cap cap' : Nat) (w : World) :
    Calls Tryd.prog 50 #[.slice A 0 cap, .slice A' 0 cap'] w fun e w' => e = .returned (.bool true) ∧ Below w.heap.size w w' := by
  go_enter Tryd.func50, Tryd.ntmps50
  go_wp2
  go_rounds 1
  go_ret
  exact ⟨rfl, Below.refl _ _⟩
theorem eqIntS_same {B B' : Nat} {v v' : Value} {xs : List Int} {w : World} (h : Nums w B v xs) (h2 : Nums w B' v' xs) (hl : xs.length ≤ 4611686018427387904) :
    Calls Tryd.prog 50 #[v, v'] w fun e w' => e = .returned (.bool true) ∧ Below w.heap.size w w' := by
  rcases h.shape with ⟨rfl, rfl⟩ | ⟨g, cap, rfl, _, _, hr, _⟩
  · rcases h2.shape with ⟨rfl, _⟩ | ⟨g', cap', rfl, _⟩
    · exact eqIntS_none _ _ _ _ _
    · exact eqIntS_none _ _ _ _ _
  · rcases h2.shape with ⟨rfl, rfl⟩ | ⟨g', cap', rfl, _, _, hr2, _⟩
    · exact eqIntS_none _ _ _ _ _
    · exact eqIntS_some xs g g' cap cap' w hl hr hr2

set_option maxHeartbeats 400000 in
theorem markIntS_some (xs : List Int) (K : Int) (g cap B : Nat) (w : World) (hl : xs.length ≤ 1000000000000000) (hK0 : 0 ≤ K) (hK1 : K ≤ 1000000000000000)
    (hown : Nums w B (.slice (some ⟨g, 0, none⟩) xs.length cap) xs) :
    Calls Tryd.prog 51 #[.slice (some ⟨g, 0, none⟩) xs.length cap, .int .i64 K] w fun e w' => e = .returned (.int .i64 (K + (xs.length : Int))) ∧
      Nums w' B (.slice (some ⟨g, 0, none⟩) xs.length cap) (marks K xs.length) ∧ w.grownBy w' (some g) := by
  have H0 := Lib.hid hown
  clear hown
  go_enter Tryd.func51, Tryd.ntmps51
  go_wp2
  go_loopw [1, 5] (fun m i wr => ∃ k : Nat, k ≤ xs.length ∧ i = .int .i64 k ∧ m = .int .i64 (K + (k : Int)) ∧ Hid (Nums wr B (.slice (some ⟨g, 0, none⟩) xs.length cap) (marked K k xs)) ∧ Hid (w.grownBy wr (some g))) (fun _ i _ => xs.length - (intOf i).toNat)
  case atStart => exact ⟨0, by omega, rfl, by simp, H0, World.grownBy.refl _ _⟩
  case round =>
    obtain ⟨k, hk, rfl, rfl, HN, HG⟩ := hrel
    by_cases hlt : k < xs.length
    · have b0 : (0 : Int) ≤ (k : Int) := by omega
      have b1 : (k : Int) < (xs.length : Int) := by omega
      have hn := HN.out
      have hlen : (marked K k xs).length = xs.length := marked_length hk
      obtain ⟨u, hu⟩ : ∃ u, (marked K k xs)[k]? = some u := ⟨_, List.getElem?_eq_getElem (by omega)⟩
      have hn2 : wr.ownsRow B 3 1 (.slice (some ⟨g, 0, none⟩) xs.length cap) xs.length ((marked K k xs).map (Value.int .i64)) := by
        have := hn; unfold Nums at this; rw [hlen] at this; exact this
      have hc : wr.cell? ⟨g, k, none⟩ = some (.int .i64 u) := by rw [hn2.cellAt k (by omega)]; simp [hu]
      have hf : wr.frozen? ⟨g, k, none⟩ = false := hn2.frozenAt k
      obtain ⟨s1, s2⟩ := hn2.stored k (.int .i64 (K + (k : Int)))
      have S1 : Hid (Nums (wr.setCell ⟨g, k, none⟩ (.int .i64 (K + (k : Int)))) B (.slice (some ⟨g, 0, none⟩) xs.length cap) (marked K (k + 1) xs)) := by
        show Nums _ _ _ _
        unfold Nums
        rw [marked_length (by omega), ← marked_next hlt, List.map_set]
        exact s1
      have S2 : Hid (w.grownBy (wr.setCell ⟨g, k, none⟩ (.int .i64 (K + (k : Int)))) (some g)) := by
        have hg := HG.out
        exact ⟨s2.os.trans hg.os, s2.tape.trans hg.tape, s2.output.trans hg.output, Nat.le_trans hg.size s2.size, fun j hj hne => (s2.block j (Nat.lt_of_lt_of_le hj hg.size) hne).trans (hg.block j hj hne)⟩
      clear hn hn2 s1 s2 hu
      go_wp2
      go_roundw
      case rel => exact ⟨k + 1, by omega, by go_num, by go_num, S1, S2⟩
      case measure => simp [intOf]; omega
    · obtain rfl : k = xs.length := by omega
      have HN2 : Hid (Nums wr B (.slice (some ⟨g, 0, none⟩) xs.length cap) (marks K xs.length)) := by
        have := HN.out; rw [marked_all] at this; exact this
      go_wp2
      go_ret
      exact ⟨rfl, HN2.out, HG.out⟩
theorem markIntS_none (K : Int) (w : World) :
    Calls Tryd.prog 51 #[.slice none 0 0, .int .i64 K] w fun e w' => e = .returned (.int .i64 K) ∧ w = w' := by
  go_enter Tryd.func51, Tryd.ntmps51
  go_wp2
  go_rounds 1
  go_ret
  exact ⟨rfl, rfl⟩
theorem markIntS_any {B : Nat} {v : Value} {xs : List Int} {w : World} (K : Int) (h : Nums w B v xs) (hl : xs.length ≤ 1000000000000000) (hK0 : 0 ≤ K) (hK1 : K ≤ 1000000000000000) :
    Calls Tryd.prog 51 #[v, .int .i64 K] w fun e w' => e = .returned (.int .i64 (K + (xs.length : Int))) ∧ Nums w' B v (marks K xs.length) ∧ w.grownBy w' v.ownBlock := by
  rcases h.shape with ⟨rfl, rfl⟩ | ⟨g, cap, rfl, _⟩
  · refine (markIntS_none K w).mono ?_
    rintro e w' ⟨rfl, rfl⟩
    exact ⟨by simp, Nums.nil _ _, World.grownBy.refl _ _⟩
  · exact markIntS_some xs K g cap B w hl hK0 hK1 h
theorem markIntS_row {B : Nat} {v : Value} {xs : List Int} {w : World} (K : Int) (h : Nums w B v xs) (hB : B ≤ w.heap.size) (hl : xs.length ≤ 1000000000000000) (hK0 : 0 ≤ K) (hK1 : K ≤ 1000000000000000) :
    Calls Tryd.prog 51 #[v, .int .i64 K] w fun e w' => e = .returned (.int .i64 (K + (xs.length : Int))) ∧ Nums w' B v (marks K xs.length) ∧ w.grownBy w' v.ownBlock ∧ Below B w w' :=
  (markIntS_any K h hl hK0 hK1).mono fun _ _ ⟨he, h1, h2⟩ => ⟨he, h1, h2, (Below.refl _ _).grown h2 hB fun k hk => (h.lt k hk).1⟩

set_option maxHeartbeats 400000 in
theorem heldIntS_some (n : Nat) (K : Int) (g cap : Nat) (w : World) (hl : n ≤ 1000000000000000) (hK0 : 0 ≤ K) (hK1 : K ≤ 1000000000000000)
    (hr : ∀ (k : Nat) (x : Int), (marks K n)[k]? = some x → w.cell? ⟨g, k, none⟩ = some (.int .i64 x)) :
    Calls Tryd.prog 52 #[.slice (some ⟨g, 0, none⟩) n cap, .int .i64 K] w fun e w' => e = .returned (.int .i64 (K + (n : Int))) ∧ w = w' := by
  have HR := Lib.hid hr
  clear hr
  go_enter Tryd.func52, Tryd.ntmps52
  go_wp2
  go_loop [1, 5] (fun m i => ∃ k : Nat, k ≤ n ∧ i = .int .i64 k ∧ m = .int .i64 (K + (k : Int))) (fun _ i => n - (intOf i).toNat)
  case atStart => exact ⟨0, by omega, rfl, by simp⟩
  case round =>
    obtain ⟨k, hk, rfl, rfl⟩ := hrel
    by_cases hlt : k < n
    · have hc := HR.out k _ (marks_at hlt)
      have b0 : (0 : Int) ≤ (k : Int) := by omega
      have b1 : (k : Int) < (n : Int) := by omega
      go_wp2
      go_round
      case rel => exact ⟨k + 1, by omega, by go_num, by go_num⟩
      case measure => simp [intOf]; omega
    · obtain rfl : k = n := by omega
      go_wp2
      go_ret
      exact ⟨rfl, rfl⟩
theorem heldIntS_none (K : Int) (w : World) :
    Calls Tryd.prog 52 #[.slice none 0 0, .int .i64 K] w fun e w' => e = .returned (.int .i64 K) ∧ w = w' := by
  go_enter Tryd.func52, Tryd.ntmps52
  go_wp2
  go_rounds 1
  go_ret
  exact ⟨rfl, rfl⟩
theorem heldIntS_any {B : Nat} {v : Value} {n : Nat} {w : World} (K : Int) (h : Nums w B v (marks K n)) (hl : n ≤ 1000000000000000) (hK0 : 0 ≤ K) (hK1 : K ≤ 1000000000000000) :
    Calls Tryd.prog 52 #[v, .int .i64 K] w fun e w' => e = .returned (.int .i64 (K + (n : Int))) ∧ w = w' := by
  have hlen := marks_length K n
  rcases h.shape with ⟨rfl, h0⟩ | ⟨g, cap, rfl, _, _, hr, _⟩
  · rw [h0] at hlen
    obtain rfl : n = 0 := hlen.symm
    refine (heldIntS_none K w).mono ?_
    rintro e w' ⟨rfl, rfl⟩
    exact ⟨by simp, rfl⟩
  · rw [hlen]
    exact heldIntS_some n K g cap w hl hK0 hK1 hr
end Go.Proofs.YtklhmaegpejdbaaDoor
