/- Reading a whole: what the walks of impl and spec share. -/
import Derived.Test.YtklhmaegpejdbaaDoorPzP
import Derived.Test.YtklhmaegpejdbaaDoorShelfC
import Derived.Test.YtklhmaegpejdbaaDoorWhMake
import Derived.Test.YtklhmaegpejdbaaDoorWhKit2
import Derived.Test.YtklhmaegpejdbaaDoorWhOf
import Derived.Lib.ConvBytes
import Derived.Lib.SmallJoins
import Derived.WalkSpells
namespace Go.Proofs.YtklhmaegpejdbaaDoor
open Go.RowKit
set_option linter.unusedVariables false
set_option linter.unusedSimpArgs false
set_option maxRecDepth 100000
theorem bsOf_list (a : ByteArray) : ∃ l, a = bsOf l := ⟨a.data.toList, by simp [bsOf]⟩
theorem str_same (a b : List UInt8) : ((bsOf a).toList == (bsOf b).toList) = decide (a = b) := by
  rw [Lib.toList_data, Lib.toList_data]
  simp only [bsOf, List.toList_toArray]
  by_cases h : a = b
  · subst h; simp
  · rw [decide_eq_false h]; simpa using h
theorem cut_prefix (s : List UInt8) (w : World) :
    Calls Tryd.prog 47 #[.string (bsOf s), .string ⟨#[45]⟩] w fun e w' => e = .returned (.tuple #[.string (bsOf (pwD s)), .bool (pwN s)]) ∧ w' = w := by
  have h := strings_CutPrefix (bsOf s) ⟨#[45]⟩ w
  have e1 : Lib.trimPrefix s [45] = pwD s ∧ Lib.hasPrefix s [45] = pwN s := by
    cases s with
    | nil => exact ⟨rfl, rfl⟩
    | cons b l =>
      unfold pwD pwN Lib.trimPrefix Lib.hasPrefix
      rw [cutM_cons]
      by_cases hb : b = 45
      · rw [if_pos hb, hb]; exact ⟨rfl, rfl⟩
      · rw [if_neg hb]
        have : ([45] : List UInt8).isPrefixOf (b :: l) = false := by
          simp [List.isPrefixOf]; intro e; exact hb e.symm
        rw [this]; exact ⟨rfl, rfl⟩
  rw [show (bsOf s).data.toList = s by simp [bsOf], show (⟨#[45]⟩ : ByteArray).data.toList = [45] from rfl, e1.1, e1.2] at h
  exact h
theorem sub_chunk (D : List UInt8) (e a : Nat) (ha : a = e - 4) : (bsOf D).extract a e = bsOf (chunk D e) := by
  subst ha
  apply ByteArray.ext
  apply Array.toList_inj.1
  unfold bsOf chunk
  rw [ByteArray.data_extract]
  simp [List.drop_take]
theorem conv_bytes (l : List UInt8) (X : ByteArray) (hX : X = bsOf l) (W : World) : ∃ w1 cp, (convert 9 51 (.string X)).run Tryd.prog W = .ok (.slice (some ⟨W.heap.size, 0, none⟩) l.length cp) w1 ∧
    Below W.heap.size W w1 ∧ w1.heap.size = W.heap.size + 1 ∧ ∀ (j : Nat) (b : UInt8), l[j]? = some b → w1.cell? ⟨W.heap.size, j, none⟩ = some (.int .u8 (b.toNat : Int)) := by
  subst hX
  have h := Lib.run_convert_string_bytes W 9 51 5 (bsOf l) stringU bytesU byteU
  rw [bsOf_size] at h
  refine ⟨_, _, h, Go.Joins.below_bytesWorld _ _ _ _ (Nat.le_refl _), Lib.bytesWorld_size _ _ _, fun j b hb => ?_⟩
  obtain ⟨hj, hb2⟩ := List.getElem?_eq_some_iff.1 hb
  rw [Lib.bytesWorld_cell _ _ _ j (by rw [bsOf_size]; exact hj)]
  simp [bsOf, List.getD, hb]
theorem index_at (D : List UInt8) (p : Nat) (b : UInt8) (hb : D[p]? = some b) (w : World) : (Instr.index 9 (.string (bsOf D)) (.int .i64 (p : Int))).run Tryd.prog w = .ok (.int .u8 (b.toNat : Int)) w := by
  obtain ⟨hp, hb2⟩ := List.getElem?_eq_some_iff.1 hb
  rw [run_index_string _ _ _ _ _ stringU, dif_pos ⟨by omega, by rw [bsOf_size]; omega⟩]
  have key : ∀ (n : Nat) (h : n < (bsOf D).size), n = p → (bsOf D)[n]'h = b := by
    intro n h e; subst e; rw [← hb2]; rfl
  rw [key _ _ (by omega)]
theorem fail_ret {s : List UInt8} (h : pwB s = false) {w w' : World} (hb : Below w.heap.size w w') {e : Ending} (he : e = .returned (.tuple #[.agg #[.bool false, .slice none 0 0], .bool false])) :
    ∃ A c, e = .returned (.tuple #[.agg #[.bool (wneg (pwZ s)), .slice A (wlimbs (pwZ s)).length c], .bool (pwB s)]) ∧ Nums w' w.heap.size (.slice A (wlimbs (pwZ s)).length c) (wlimbs (pwZ s)) ∧ Below w.heap.size w w' := by
  rw [pwZ_no h, h, wlimbs_zero]
  exact ⟨none, 0, he, Nums.nil _ _, hb⟩
theorem ok_ret {s : List UInt8} {neg : Bool} {xs : List Int} (h : pwB s = true) (h1 : neg = wneg (pwV s)) (h2 : xs = wlimbs (pwV s)) {w w' : World} {A : Option Addr} {c : Nat} (hn : Nums w' w.heap.size (.slice A xs.length c) xs) (hb : Below w.heap.size w w') {e : Ending}
    (he : e = .returned (.tuple #[.agg #[.bool neg, .slice A xs.length c], .bool true])) :
    ∃ A c, e = .returned (.tuple #[.agg #[.bool (wneg (pwZ s)), .slice A (wlimbs (pwZ s)).length c], .bool (pwB s)]) ∧ Nums w' w.heap.size (.slice A (wlimbs (pwZ s)).length c) (wlimbs (pwZ s)) ∧ Below w.heap.size w w' := by
  subst h1 h2
  rw [pwZ_yes h, h]
  exact ⟨A, c, he, hn, hb⟩
/-- From end z down: what has been read, and what is left. -/
def Reads (D : List UInt8) (ys : List Int) (z : Int) : Prop := ys ++ LB D z.toNat = LB D D.length ∧ AllDg (D.drop z.toNat)
theorem Reads.start (D : List UInt8) (z : Int) (h : z = (D.length : Int)) : Reads D [] z := by
  subst h
  exact ⟨by simp, by simp [AllDg]⟩
theorem Reads.next {D : List UInt8} {ys : List Int} {e : Nat} (h : Reads D ys (e : Int)) (h0 : e ≠ 0) (he : e ≤ D.length) (hd : AllDg (chunk D e)) : Reads D (ys ++ [numV (chunk D e)]) ((e : Int) - 4) := by
  obtain ⟨h1, h2⟩ := h
  have ez : ((e : Int) - 4).toNat = e - 4 := by omega
  unfold Reads
  rw [ez]
  rw [Int.toNat_natCast] at h1 h2
  rw [LB_pos D h0] at h1
  refine ⟨by rw [List.append_assoc]; exact h1, ?_⟩
  have : D.drop (e - 4) = chunk D e ++ D.drop e := by
    unfold chunk
    have h3 := List.take_append_drop e D
    have h4 : (D.take e ++ D.drop e).drop (e - 4) = (D.take e).drop (e - 4) ++ D.drop e := by
      rw [List.drop_append_of_le_length (by rw [List.length_take]; omega)]
    rw [h3] at h4
    exact h4
  rw [this]
  exact hd.append h2
theorem Reads.done {D : List UInt8} {ys : List Int} {z : Int} (h : Reads D ys z) (h0 : z ≤ 0) : ys = LB D D.length ∧ AllDg D := by
  obtain ⟨h1, h2⟩ := h
  rw [show z.toNat = 0 by omega] at h1 h2
  rw [LB_zero, List.append_nil] at h1
  exact ⟨h1, h2⟩
theorem Reads.len {D : List UInt8} {ys : List Int} {z : Int} (h : Reads D ys z) : 4 * ys.length ≤ D.length + 4 := by
  have h1 := congrArg List.length h.1
  have h2 := LB_length D D.length
  rw [List.length_append] at h1
  omega
theorem BoxAt.set0 {w : World} {b b' o : Nat} {u v v' : Value} (h : BoxAt w b u v) (hne : b ≠ b') : BoxAt (w.setCell ⟨b', o, none⟩ v') b u v := by
  obtain ⟨h0, h1, h2, h3⟩ := h
  exact ⟨by rw [set_far (.inl (Ne.symm hne))]; exact h0, by rw [set_far (.inl (Ne.symm hne))]; exact h1, by rw [World.frozen?_setCell]; exact h2, by rw [World.frozen?_setCell]; exact h3⟩
theorem BoxAt.set1 {w : World} {b : Nat} {u v v' : Value} (h : BoxAt w b u v) : BoxAt (w.setCell ⟨b, 1, none⟩ v') b u v' := by
  obtain ⟨h0, h1, h2, h3⟩ := h
  exact ⟨by rw [set_far (.inr (by decide))]; exact h0, set_near h1, by rw [World.frozen?_setCell]; exact h2, by rw [World.frozen?_setCell]; exact h3⟩
theorem not_dg_lt {b : UInt8} (h : (b.toNat : Int) < 48) : isDg b = false := by
  rw [Bool.eq_false_iff]; intro e; have := isDg_iff.1 e; omega
theorem not_dg_gt {b : UInt8} (h : 57 < (b.toNat : Int)) : isDg b = false := by
  rw [Bool.eq_false_iff]; intro e; have := isDg_iff.1 e; omega
theorem chunk_at {D : List UInt8} {e j : Nat} {b : UInt8} (he : e ≤ D.length) (h : (chunk D e)[j]? = some b) : D[e - 4 + j]? = some b := by
  have hj := (List.getElem?_eq_some_iff.1 h).1
  rw [chunk_length he] at hj
  unfold chunk at h
  rw [List.getElem?_drop, List.getElem?_take] at h
  rwa [if_pos (by omega)] at h
theorem take_snoc {l : List UInt8} {j : Nat} {b : UInt8} (h : l[j]? = some b) : l.take (j + 1) = l.take j ++ [b] := by rw [List.take_add_one, h]; rfl
end Go.Proofs.YtklhmaegpejdbaaDoor
