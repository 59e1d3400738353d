/- The text of a whole: plain words; contracts of impl.wholeText and spec.bgText. -/
import Derived.Test.YtklhmaegpejdbaaDoorShelfW
import Derived.Test.YtklhmaegpejdbaaDoorWhGood
import Derived.Deep.RegionHeld3
import Derived.Deep.DeepCutAuto
namespace Go.Proofs.YtklhmaegpejdbaaDoor
open Go.RowKit
set_option linter.unusedVariables false
set_option linter.unusedSimpArgs false
set_option maxRecDepth 100000
def bsOf (l : List UInt8) : ByteArray := ⟨l.toArray⟩
theorem bsOf_append (a b : List UInt8) : bsOf a ++ bsOf b = bsOf (a ++ b) := by
  apply ByteArray.ext; apply Array.toList_inj.1; simp [bsOf]
theorem bsOf_size (a : List UInt8) : (bsOf a).size = a.length := by simp [bsOf, ByteArray.size]
theorem strCells_bsOf (a : List UInt8) : Lib.strCells (bsOf a) = Lib.byteCells a := by rw [Lib.strCells_eq]; simp [bsOf]
theorem bsOf_inj {a b : List UInt8} (h : bsOf a = bsOf b) : a = b := by
  have := congrArg (fun s : ByteArray => s.data.toList) h
  simpa [bsOf] using this
/-- The decimal digits of a limb. -/
def decN (x : Int) : List UInt8 := Lib.decDigits x.toNat
def pad4 (d : List UInt8) : List UInt8 := List.replicate (4 - d.length) 48 ++ d
/-- The digits of limbs, the last one first and with no zeros ahead. -/
def hT : List Int → List UInt8
  | [] => []
  | [x] => decN x
  | x :: y :: zs => hT (y :: zs) ++ pad4 (decN x)
def sgL (neg : Bool) : List UInt8 := if neg then [45] else []
def wtL (neg : Bool) (xs : List Int) : List UInt8 := if xs = [] then [48] else sgL neg ++ hT xs
theorem hT_last {xs : List Int} {j : Nat} {x : Int} (hx : xs[j]? = some x) (hj : j + 1 = xs.length) : hT (xs.drop j) = decN x ∧ xs.drop (j + 1) = [] := by
  have e : xs.drop (j + 1) = [] := List.drop_eq_nil_of_le (by omega)
  obtain ⟨hlt, hx2⟩ := List.getElem?_eq_some_iff.1 hx
  rw [List.drop_eq_getElem_cons hlt, hx2, e]
  exact ⟨rfl, rfl⟩
theorem hT_more {xs : List Int} {j : Nat} {x : Int} (hx : xs[j]? = some x) (hj : j + 1 < xs.length) : hT (xs.drop j) = hT (xs.drop (j + 1)) ++ pad4 (decN x) := by
  obtain ⟨hlt, hx2⟩ := List.getElem?_eq_some_iff.1 hx
  rw [List.drop_eq_getElem_cons hlt, hx2, List.drop_eq_getElem_cons hj]
  rfl
theorem dec_len {u : Nat} (h : u ≤ 9999) : 1 ≤ (Lib.decDigits u).length ∧ (Lib.decDigits u).length ≤ 4 := by
  by_cases h1 : u < 10
  · rw [decDigits_small h1]; simp
  · rw [decDigits_big h1, List.length_append]
    by_cases h2 : u / 10 < 10
    · rw [decDigits_small h2]; simp
    · rw [decDigits_big h2, List.length_append]
      by_cases h3 : u / 10 / 10 < 10
      · rw [decDigits_small h3]; simp
      · rw [decDigits_big h3, List.length_append, decDigits_small (show u / 10 / 10 / 10 < 10 by omega)]; simp
theorem decN_len {x : Int} (h : 0 ≤ x ∧ x ≤ 9999) : 1 ≤ (decN x).length ∧ (decN x).length ≤ 4 := dec_len (by omega)
theorem pad4_len {d : List UInt8} (h : d.length ≤ 4) : (pad4 d).length = 4 := by simp [pad4]; omega
theorem hT_len : ∀ {xs : List Int}, Dig xs → (hT xs).length ≤ 4 * xs.length
  | [], _ => by simp [hT]
  | [x], h => by have := (decN_len (h x (by simp))).2; simp [hT]; omega
  | x :: y :: zs, h => by
    have h1 := hT_len (xs := y :: zs) h.tail
    have h2 := pad4_len (decN_len h.head).2
    simp only [hT, List.length_append, h2, List.length_cons] at h1 ⊢
    omega
theorem hT_drop_len {xs : List Int} (h : Dig xs) (k : Nat) : (hT (xs.drop k)).length ≤ 4 * xs.length := by
  have := hT_len (h.drop k)
  rw [List.length_drop] at this
  omega
theorem repeat_zeros : ∀ c : Nat, Lib.repeatL [48] c = List.replicate c 48
  | 0 => rfl
  | c + 1 => by rw [Lib.repeatL, repeat_zeros c]; rfl
theorem itoS_decN {x : Int} (h : 0 ≤ x) : itoS x = bsOf (decN x) := by
  rw [itoS_pos (by omega)]; rfl
/-- A builder at block b, of the block B and behind. -/
theorem IsBuilder_kept {B b : Nat} {bs : List Value} {w w' : World} (h : Lib.IsBuilder 99 5 B b bs w) (hb : Below w.heap.size w w') : Lib.IsBuilder 99 5 B b bs w' := by
  have key : ∀ p, Lib.BuilderAt 99 5 B b p bs w → Lib.BuilderAt 99 5 B b p bs w' := by
    rintro p ⟨h0, v, h1, h2, h3⟩
    refine ⟨h0, v, ?_, ?_, h3⟩
    · rw [hb.block b (Array.getElem?_eq_some_iff.1 h1).1]; exact h1
    · refine ⟨h2.1, ?_⟩
      rcases h2.2 with h4 | ⟨g, cap, cur, k1, k2, hg, k3⟩
      · exact .inl h4
      · exact .inr ⟨g, cap, cur, k1, k2, (hb.block g (Array.getElem?_eq_some_iff.1 hg).1).trans hg, k3⟩
  exact h.elim (fun x => .inl (key _ x)) (fun x => .inr (key _ x))
theorem builder_new (W : World) (B : Nat) (h : B ≤ W.heap.size) {o : Obj} (ho : o = .cells #[.pointer none, .slice none 0 0] 99) : Lib.IsBuilder 99 5 B W.heap.size (Lib.byteCells []) (W.alloc o) := by
  subst ho
  refine .inl ⟨h, .slice none 0 0, ?_, World.ownsRow_nil _ _ _ _, by simp [Value.ownBlock]⟩
  exact Array.getElem?_push_size
theorem builder_newAt (W : World) (B b : Nat) (hB : B ≤ b) (hb : b = W.heap.size) {o : Obj} (ho : o = .cells #[.pointer none, .slice none 0 0] 99) : Lib.IsBuilder 99 5 B b (Lib.byteCells []) (W.alloc o) := by
  subst hb; exact builder_new W B hB ho
theorem write_more {B b : Nat} {l m : List UInt8} {p : Value} {w : World} (h : Lib.BuilderAt 99 5 B b (.pointer (some ⟨b, 0, none⟩)) (Lib.byteCells l ++ Lib.strCells (bsOf m)) w) : Lib.IsBuilder 99 5 B b (Lib.byteCells (l ++ m)) w := by
  rw [Lib.byteCells_append, ← strCells_bsOf m]; exact .inr h
theorem write_call {B b : Nat} {l m : List UInt8} {w : World} (h : Lib.IsBuilder 99 5 B b (Lib.byteCells l) w) (hl : l.length + m.length ≤ 140737488355328) (hB : B ≤ w.heap.size) :
    Calls Tryd.prog 91 #[.pointer (some ⟨b, 0, none⟩), .string (bsOf m)] w fun e w' => e = .returned (.tuple #[.int .i64 m.length, .nilIface]) ∧ Lib.IsBuilder 99 5 B b (Lib.byteCells (l ++ m)) w' ∧ Below B w w' := by
  refine (Builder_WriteString B b _ (bsOf m) w h (by rw [Lib.byteCells_length, bsOf_size]; exact hl) hB).mono ?_
  rintro e w' ⟨rfl, h1, h2⟩
  exact ⟨by rw [bsOf_size], write_more (p := .nilIface) h1, h2⟩
theorem write_start {w : World} {o0 o1 : Obj} (ho : o1 = .cells #[.pointer none, .slice none 0 0] 99) (b : Nat) (hb : b = w.heap.size + 1) :
    Calls Tryd.prog 91 #[.pointer (some ⟨b, 0, none⟩), .string ⟨#[45]⟩] ((w.alloc o0).alloc o1) fun e w' => e = .returned (.tuple #[.int .i64 1, .nilIface]) ∧ Lib.IsBuilder 99 5 (w.heap.size + 1) b (Lib.byteCells [45]) w' ∧ Below (w.heap.size + 1) ((w.alloc o0).alloc o1) w' :=
  write_call (l := []) (m := [45]) (builder_newAt (w.alloc o0) (w.heap.size + 1) b (by omega) (by simp [hb]) ho) (by simp) (by simp)
theorem string_call {B b : Nat} {l : List UInt8} {w : World} (h : Lib.IsBuilder 99 5 B b (Lib.byteCells l) w) (hB : B ≤ w.heap.size) :
    Calls Tryd.prog 94 #[.pointer (some ⟨b, 0, none⟩)] w fun e w' => e = .returned (.string (bsOf l)) ∧ Below B w w' := Builder_String_any B b l w h hB
theorem repeat_call (c : Nat) (hc : c ≤ 4) (w : World) :
    Calls Tryd.prog 93 #[.string ⟨#[48]⟩, .int .i64 (c : Int)] w fun e w' => e = .returned (.string (bsOf (List.replicate c 48))) ∧ Below w.heap.size w w' := by
  have := strings_Repeat ⟨#[48]⟩ c w (by omega) (by show 1 * c ≤ _; omega)
  rw [show ((⟨#[48]⟩ : ByteArray).data.toList) = [48] from rfl, repeat_zeros] at this
  exact this
set_option maxHeartbeats 8000000 in
theorem wholeText_some (neg : Bool) (xs : List Int) (g c : Nat) (w : World) (hl : xs.length ≤ 1048576) (h0 : 0 < xs.length) (hd : Dig xs) (hg : g < w.heap.size)
    (hr : ∀ (k : Nat) (x : Int), xs[k]? = some x → w.cell? ⟨g, k, none⟩ = some (.int .i64 x)) (ht : Tab w) :
    Calls Tryd.prog 49 #[.agg #[.bool neg, .slice (some ⟨g, 0, none⟩) xs.length c]] w fun e w' => e = .returned (.string (bsOf (sgL neg ++ hT xs))) ∧ Below w.heap.size w w' := by
  have HR := Lib.hid hr
  have HT := Lib.hid ht
  have HD := Lib.hid hd
  clear hr ht hd
  cases neg
  · go_enter Tryd.func49, Tryd.ntmps49
    go_wp2_with fail
    go_wp2
    go_loopw [4] (fun i wr => ∃ (z : Int) (k : Nat), k ≤ xs.length ∧ z = (k : Int) - 1 ∧ i = .int .i64 z ∧ Hid (Lib.IsBuilder 99 5 (w.heap.size + 1) (w.heap.size + 1) (Lib.byteCells ([] ++ hT (xs.drop k))) wr) ∧ Hid (wr.cell? ⟨w.heap.size, 1, none⟩ = some (.slice (some ⟨g, 0, none⟩) xs.length c)) ∧ Hid (Below w.heap.size w wr) ∧ Hid (w.heap.size + 2 ≤ wr.heap.size)) (fun i _ => (intOf i + 1).toNat)
    case atStart => exact ⟨_, xs.length, Nat.le_refl _, rfl, by go_num, by rw [List.drop_length]; exact Lib.hid (builder_newAt _ _ _ (Nat.le_refl _) (by simp) rfl), Lib.hid (by simp [go_sem]), Lib.hid (by (repeat' (first | (with_reducible exact Below.refl _ _) | (with_reducible assumption) | (with_reducible refine Below.alloc ?_ ?_ _) | (with_reducible refine Below.drew ?_) | (with_reducible refine below_drewN ?_ _) | (with_reducible refine Below.setCell ?_ ?_ _) | go_size))), Lib.hid (by simp)⟩
    case round =>
      obtain ⟨z, k, hk, hz, rfl, HN, HX, HB, HZ⟩ := hrel
      have hx1 := HX.out
      have hsz := HZ.out
      by_cases h : 0 ≤ z
      · obtain ⟨j, rfl⟩ : ∃ j, k = j + 1 := ⟨k - 1, by omega⟩
        obtain rfl : z = (j : Int) := by omega
        obtain ⟨x, HXj⟩ : ∃ x, Hid (xs[j]? = some x) := ⟨_, Lib.hid (List.getElem?_eq_getElem (by omega))⟩
        have hcx : wr.cell? ⟨g, j, none⟩ = some (.int .i64 x) := by rw [HB.out.cell (p := ⟨g, j, none⟩) hg]; exact HR.out j x HXj.out
        have hxr := HD.out.at HXj.out
        obtain ⟨d, HDx⟩ : ∃ d, Hid (decN x = d) := ⟨_, Lib.hid rfl⟩
        have hdl := decN_len hxr
        rw [HDx.out] at hdl
        have HI : Hid (∀ w : World, Tab w → Calls Tryd.prog 92 #[.int .i64 x] w fun e w' => e = .returned (.string (bsOf d)) ∧ Below w.heap.size w w') := Lib.hid (fun w hw => by rw [← HDx.out, ← itoS_decN hxr.1]; exact itoa_any x (by omega) (by omega) w hw)
        have hlen := hT_drop_len HD.out (j + 1)
        have hds : ((bsOf d).size : Int) = (d.length : Int) := by rw [bsOf_size]
        obtain ⟨lt, HLt⟩ : ∃ lt, Hid (hT (xs.drop (j + 1)) = lt) := ⟨_, Lib.hid rfl⟩
        rw [HLt.out] at HN hlen
        have b0 : (0 : Int) ≤ (j : Int) := by omega
        have b1 : (j : Int) < (xs.length : Int) := by omega
        clear h hz
        go_wp2_with fail
        (go_at_call 92; refine (HI.out _ (HT.out.below HB.out)).mono ?_; rintro e w2 ⟨rfl, hb2⟩)
        have HN2 := Lib.hid (IsBuilder_kept HN.out hb2)
        have hx2 : w2.cell? ⟨w.heap.size, 1, none⟩ = some (.slice (some ⟨g, 0, none⟩) xs.length c) := by rw [hb2.cell (p := ⟨w.heap.size, 1, none⟩) (by show w.heap.size < _; omega)]; exact hx1
        have HB2 := Lib.hid (HB.out.trans (hb2.mono HB.out.size))
        have hsz2 : w.heap.size + 2 ≤ w2.heap.size := by have := hb2.size; omega
        clear hb2
        by_cases hj : (j : Int) < (xs.length : Int) - 1
        · obtain ⟨c4, hc4⟩ : ∃ c4, 4 - d.length = c4 := ⟨_, rfl⟩
          have e4 : IntKind.i64.wrap (4 - (d.length : Int)) = (c4 : Int) := by rw [IntWalk.i64_in _ (by omega)]; omega
          have HE := Lib.hid (show ([] ++ lt) ++ List.replicate c4 48 ++ d = [] ++ hT (xs.drop j) by rw [hT_more HXj.out (by omega), HLt.out, HDx.out, ← hc4]; simp [pad4])
          have hc4b : c4 ≤ 4 := by omega
          clear hc4
          go_wp2_with fail
          (go_at_call 93; refine (repeat_call c4 hc4b _).mono ?_; rintro e w3 ⟨rfl, hb3⟩)
          have HN3 := Lib.hid (IsBuilder_kept HN2.out hb3)
          have hx3 : w3.cell? ⟨w.heap.size, 1, none⟩ = some (.slice (some ⟨g, 0, none⟩) xs.length c) := by rw [hb3.cell (p := ⟨w.heap.size, 1, none⟩) (by show w.heap.size < _; omega)]; exact hx2
          have HB3 := Lib.hid (HB2.out.trans (hb3.mono HB2.out.size))
          have hsz3 : w.heap.size + 2 ≤ w3.heap.size := by have := hb3.size; omega
          clear hb3
          go_wp2_with fail
          (go_at_call 91; refine (write_call HN3.out (by simp; omega) (by omega)).mono ?_; rintro e w4 ⟨rfl, N4, hb4⟩)
          have HN4 := Lib.hid N4
          have hx4 : w4.cell? ⟨w.heap.size, 1, none⟩ = some (.slice (some ⟨g, 0, none⟩) xs.length c) := by rw [hb4.cell (p := ⟨w.heap.size, 1, none⟩) (by show w.heap.size < _; omega)]; exact hx3
          have HB4 := Lib.hid (HB3.out.trans (hb4.mono (by omega)))
          have hsz4 : w.heap.size + 2 ≤ w4.heap.size := by have := hb4.size; omega
          clear hb4 N4
          go_wp2_with fail
          (go_at_call 91; refine (write_call HN4.out (by simp; omega) (by omega)).mono ?_; rintro e w5 ⟨rfl, N5, hb5⟩)
          have HN5 := Lib.hid N5
          have hx5 : w5.cell? ⟨w.heap.size, 1, none⟩ = some (.slice (some ⟨g, 0, none⟩) xs.length c) := by rw [hb5.cell (p := ⟨w.heap.size, 1, none⟩) (by show w.heap.size < _; omega)]; exact hx4
          have HB5 := Lib.hid (HB4.out.trans (hb5.mono (by omega)))
          have hsz5 : w.heap.size + 2 ≤ w5.heap.size := by have := hb5.size; omega
          clear hb5 N5
          go_wp2
          go_roundw
          case rel => exact ⟨_, j, by omega, rfl, by go_num, by rw [← HE.out]; exact HN5, Lib.hid hx5, HB5, Lib.hid hsz5⟩
          case measure => first | (simp [intOf]; done) | (simp [intOf]; omega)
        · have HE := Lib.hid (show ([] ++ lt) ++ d = [] ++ hT (xs.drop j) by have hh := hT_last HXj.out (by omega); rw [hh.1, ← HLt.out, hh.2, HDx.out]; simp [hT])
          go_wp2_with fail
          (go_at_call 91; refine (write_call HN2.out (by simp; omega) (by omega)).mono ?_; rintro e w5 ⟨rfl, N5, hb5⟩)
          have HN5 := Lib.hid N5
          have hx5 : w5.cell? ⟨w.heap.size, 1, none⟩ = some (.slice (some ⟨g, 0, none⟩) xs.length c) := by rw [hb5.cell (p := ⟨w.heap.size, 1, none⟩) (by show w.heap.size < _; omega)]; exact hx2
          have HB5 := Lib.hid (HB2.out.trans (hb5.mono (by omega)))
          have hsz5 : w.heap.size + 2 ≤ w5.heap.size := by have := hb5.size; omega
          clear hb5 N5
          go_wp2
          go_roundw
          case rel => exact ⟨_, j, by omega, rfl, by go_num, by rw [← HE.out]; exact HN5, Lib.hid hx5, HB5, Lib.hid hsz5⟩
          case measure => first | (simp [intOf]; done) | (simp [intOf]; omega)
      · obtain rfl : k = 0 := by omega
        have hn0 : ((xs.length : Int) == 0) = false := beq_false_of_ne (by omega)
        go_wp2_with fail
        (go_at_call 94; refine (string_call HN.out (by omega)).mono ?_; rintro e w2 ⟨rfl, hb2⟩)
        have HB2 := Lib.hid (HB.out.trans (hb2.mono (by omega)))
        go_wp2
        go_ret
        exact ⟨by first | rfl | (rw [List.drop_zero]; rfl), HB2.out⟩
  · go_enter Tryd.func49, Tryd.ntmps49
    go_wp2_with fail
    (go_at_call 91; (with_reducible refine (write_start rfl _ rfl).mono ?_); rintro e w1 ⟨rfl, N1, b1⟩)
    have HN := Lib.hid N1
    have HB := Lib.hid (show Below w.heap.size w w1 from Below.trans (by (repeat' (first | (with_reducible exact Below.refl _ _) | (with_reducible assumption) | (with_reducible refine Below.alloc ?_ ?_ _) | (with_reducible refine Below.drew ?_) | (with_reducible refine below_drewN ?_ _) | (with_reducible refine Below.setCell ?_ ?_ _) | go_size))) (b1.mono (by omega)))
    have HX := Lib.hid (show w1.cell? ⟨w.heap.size, 1, none⟩ = some (.slice (some ⟨g, 0, none⟩) xs.length c) by rw [b1.cell (p := ⟨w.heap.size, 1, none⟩) (by simp)]; simp [go_sem])
    have HX0 := HX.out
    have HZ := Lib.hid (show w.heap.size + 2 ≤ w1.heap.size by have := b1.size; simp at this; omega)
    clear N1 b1
    go_wp2
    go_loopw [4] (fun i wr => ∃ (z : Int) (k : Nat), k ≤ xs.length ∧ z = (k : Int) - 1 ∧ i = .int .i64 z ∧ Hid (Lib.IsBuilder 99 5 (w.heap.size + 1) (w.heap.size + 1) (Lib.byteCells ([45] ++ hT (xs.drop k))) wr) ∧ Hid (wr.cell? ⟨w.heap.size, 1, none⟩ = some (.slice (some ⟨g, 0, none⟩) xs.length c)) ∧ Hid (Below w.heap.size w wr) ∧ Hid (w.heap.size + 2 ≤ wr.heap.size)) (fun i _ => (intOf i + 1).toNat)
    case atStart => exact ⟨_, xs.length, Nat.le_refl _, rfl, by go_num, by rw [List.drop_length]; exact HN, HX, HB, HZ⟩
    case round =>
      clear HN HX HX0 HB HZ
      obtain ⟨z, k, hk, hz, rfl, HN, HX, HB, HZ⟩ := hrel
      have hx1 := HX.out
      have hsz := HZ.out
      by_cases h : 0 ≤ z
      · obtain ⟨j, rfl⟩ : ∃ j, k = j + 1 := ⟨k - 1, by omega⟩
        obtain rfl : z = (j : Int) := by omega
        obtain ⟨x, HXj⟩ : ∃ x, Hid (xs[j]? = some x) := ⟨_, Lib.hid (List.getElem?_eq_getElem (by omega))⟩
        have hcx : wr.cell? ⟨g, j, none⟩ = some (.int .i64 x) := by rw [HB.out.cell (p := ⟨g, j, none⟩) hg]; exact HR.out j x HXj.out
        have hxr := HD.out.at HXj.out
        obtain ⟨d, HDx⟩ : ∃ d, Hid (decN x = d) := ⟨_, Lib.hid rfl⟩
        have hdl := decN_len hxr
        rw [HDx.out] at hdl
        have HI : Hid (∀ w : World, Tab w → Calls Tryd.prog 92 #[.int .i64 x] w fun e w' => e = .returned (.string (bsOf d)) ∧ Below w.heap.size w w') := Lib.hid (fun w hw => by rw [← HDx.out, ← itoS_decN hxr.1]; exact itoa_any x (by omega) (by omega) w hw)
        have hlen := hT_drop_len HD.out (j + 1)
        have hds : ((bsOf d).size : Int) = (d.length : Int) := by rw [bsOf_size]
        obtain ⟨lt, HLt⟩ : ∃ lt, Hid (hT (xs.drop (j + 1)) = lt) := ⟨_, Lib.hid rfl⟩
        rw [HLt.out] at HN hlen
        have b0 : (0 : Int) ≤ (j : Int) := by omega
        have b1 : (j : Int) < (xs.length : Int) := by omega
        clear h hz
        go_wp2_with fail
        (go_at_call 92; refine (HI.out _ (HT.out.below HB.out)).mono ?_; rintro e w2 ⟨rfl, hb2⟩)
        have HN2 := Lib.hid (IsBuilder_kept HN.out hb2)
        have hx2 : w2.cell? ⟨w.heap.size, 1, none⟩ = some (.slice (some ⟨g, 0, none⟩) xs.length c) := by rw [hb2.cell (p := ⟨w.heap.size, 1, none⟩) (by show w.heap.size < _; omega)]; exact hx1
        have HB2 := Lib.hid (HB.out.trans (hb2.mono HB.out.size))
        have hsz2 : w.heap.size + 2 ≤ w2.heap.size := by have := hb2.size; omega
        clear hb2
        by_cases hj : (j : Int) < (xs.length : Int) - 1
        · obtain ⟨c4, hc4⟩ : ∃ c4, 4 - d.length = c4 := ⟨_, rfl⟩
          have e4 : IntKind.i64.wrap (4 - (d.length : Int)) = (c4 : Int) := by rw [IntWalk.i64_in _ (by omega)]; omega
          have HE := Lib.hid (show ([45] ++ lt) ++ List.replicate c4 48 ++ d = [45] ++ hT (xs.drop j) by rw [hT_more HXj.out (by omega), HLt.out, HDx.out, ← hc4]; simp [pad4])
          have hc4b : c4 ≤ 4 := by omega
          clear hc4
          go_wp2_with fail
          (go_at_call 93; refine (repeat_call c4 hc4b _).mono ?_; rintro e w3 ⟨rfl, hb3⟩)
          have HN3 := Lib.hid (IsBuilder_kept HN2.out hb3)
          have hx3 : w3.cell? ⟨w.heap.size, 1, none⟩ = some (.slice (some ⟨g, 0, none⟩) xs.length c) := by rw [hb3.cell (p := ⟨w.heap.size, 1, none⟩) (by show w.heap.size < _; omega)]; exact hx2
          have HB3 := Lib.hid (HB2.out.trans (hb3.mono HB2.out.size))
          have hsz3 : w.heap.size + 2 ≤ w3.heap.size := by have := hb3.size; omega
          clear hb3
          go_wp2_with fail
          (go_at_call 91; refine (write_call HN3.out (by simp; omega) (by omega)).mono ?_; rintro e w4 ⟨rfl, N4, hb4⟩)
          have HN4 := Lib.hid N4
          have hx4 : w4.cell? ⟨w.heap.size, 1, none⟩ = some (.slice (some ⟨g, 0, none⟩) xs.length c) := by rw [hb4.cell (p := ⟨w.heap.size, 1, none⟩) (by show w.heap.size < _; omega)]; exact hx3
          have HB4 := Lib.hid (HB3.out.trans (hb4.mono (by omega)))
          have hsz4 : w.heap.size + 2 ≤ w4.heap.size := by have := hb4.size; omega
          clear hb4 N4
          go_wp2_with fail
          (go_at_call 91; refine (write_call HN4.out (by simp; omega) (by omega)).mono ?_; rintro e w5 ⟨rfl, N5, hb5⟩)
          have HN5 := Lib.hid N5
          have hx5 : w5.cell? ⟨w.heap.size, 1, none⟩ = some (.slice (some ⟨g, 0, none⟩) xs.length c) := by rw [hb5.cell (p := ⟨w.heap.size, 1, none⟩) (by show w.heap.size < _; omega)]; exact hx4
          have HB5 := Lib.hid (HB4.out.trans (hb5.mono (by omega)))
          have hsz5 : w.heap.size + 2 ≤ w5.heap.size := by have := hb5.size; omega
          clear hb5 N5
          go_wp2
          go_roundw
          case rel => exact ⟨_, j, by omega, rfl, by go_num, by rw [← HE.out]; exact HN5, Lib.hid hx5, HB5, Lib.hid hsz5⟩
          case measure => first | (simp [intOf]; done) | (simp [intOf]; omega)
        · have HE := Lib.hid (show ([45] ++ lt) ++ d = [45] ++ hT (xs.drop j) by have hh := hT_last HXj.out (by omega); rw [hh.1, ← HLt.out, hh.2, HDx.out]; simp [hT])
          go_wp2_with fail
          (go_at_call 91; refine (write_call HN2.out (by simp; omega) (by omega)).mono ?_; rintro e w5 ⟨rfl, N5, hb5⟩)
          have HN5 := Lib.hid N5
          have hx5 : w5.cell? ⟨w.heap.size, 1, none⟩ = some (.slice (some ⟨g, 0, none⟩) xs.length c) := by rw [hb5.cell (p := ⟨w.heap.size, 1, none⟩) (by show w.heap.size < _; omega)]; exact hx2
          have HB5 := Lib.hid (HB2.out.trans (hb5.mono (by omega)))
          have hsz5 : w.heap.size + 2 ≤ w5.heap.size := by have := hb5.size; omega
          clear hb5 N5
          go_wp2
          go_roundw
          case rel => exact ⟨_, j, by omega, rfl, by go_num, by rw [← HE.out]; exact HN5, Lib.hid hx5, HB5, Lib.hid hsz5⟩
          case measure => first | (simp [intOf]; done) | (simp [intOf]; omega)
      · obtain rfl : k = 0 := by omega
        have hn0 : ((xs.length : Int) == 0) = false := beq_false_of_ne (by omega)
        go_wp2_with fail
        (go_at_call 94; refine (string_call HN.out (by omega)).mono ?_; rintro e w2 ⟨rfl, hb2⟩)
        have HB2 := Lib.hid (HB.out.trans (hb2.mono (by omega)))
        go_wp2
        go_ret
        exact ⟨by first | rfl | (rw [List.drop_zero]; rfl), HB2.out⟩
end Go.Proofs.YtklhmaegpejdbaaDoor
