/- Contracts of slices.Clone, spec.l1Own, impl.trimmed, spec.bgMake, impl.wholeOf, spec.bgOf, impl.negated, spec.bgMinus, impl.wholeResult, spec.bgIf. -/
import Derived.Test.YtklhmaegpejdbaaDoorWhole
import Derived.Laws.AppendOwnNone
namespace Go.Proofs.YtklhmaegpejdbaaDoor
open Go.RowKit
set_option linter.unusedVariables false
set_option linter.unusedSimpArgs false
theorem row_lit (w : World) : Row (w.alloc (.cells #[] 3)) w.heap.size w.heap.size 0 0 [] :=
  ⟨rfl, World.ownsRow_lit w #[] 0 (Nat.le_refl _) (by unfold maxLen; omega) (by simp)⟩
theorem news_at {w : World} {g : Nat} {xs : List Int} (h : ∀ (k : Nat) (x : Int), xs[k]? = some x → w.cell? ⟨g, k, none⟩ = some (.int .i64 x)) :
    ∀ (j : Nat) (u : Value), (xs.map (Value.int .i64))[j]? = some u → w.cell? ((⟨g, 0, none⟩ : Addr).add j) = some u := by
  intro j u hu
  rw [List.getElem?_map] at hu
  cases hx : xs[j]? with
  | none => rw [hx] at hu; cases hu
  | some x =>
    rw [hx] at hu
    cases hu
    have := h j x hx
    unfold Addr.add
    split
    · rename_i h0; have : j = 0 := by simpa using h0
      subst this; exact h 0 x hx
    · simpa using this
theorem own_none (w : World) :
    Calls Tryd.prog 87 #[.slice none 0 0] w fun e w' => ∃ A c, e = .returned (.slice A 0 c) ∧ Nums w' w.heap.size (.slice A 0 c) [] ∧ Below w.heap.size w w' := by
  obtain ⟨i0, hi, hz0, hz1, hz2⟩ := info_parts infoInt
  go_enter Tryd.func87, Tryd.ntmps87
  go_wp2_with (at_builtin; refine wpList_append_own_none rfl _ _ 22 rfl w.heap.size 3 i0 1 underInts hi _ 0 _ rfl (row_lit w).2 rfl ?_)
  go_ret
  exact ⟨_, _, rfl, (row_lit w).nums, by repeat' (first | (with_reducible exact Below.refl _ _) | (with_reducible assumption) | (with_reducible refine Below.alloc ?_ ?_ _) | (with_reducible refine Below.drew ?_) | (with_reducible refine below_drewN ?_ _) | (with_reducible refine Below.setCell ?_ ?_ _) | go_size)⟩
theorem own_some (xs : List Int) (a : Addr) (c : Nat) (w : World) (hl : xs.length ≤ 1048576)
    (hr : ∀ (w' : World) (j : Nat) (u : Value), Below w.heap.size w w' → (xs.map (Value.int .i64))[j]? = some u → w'.cell? (a.add j) = some u) :
    Calls Tryd.prog 87 #[.slice (some a) xs.length c] w fun e w' => ∃ A c, e = .returned (.slice A xs.length c) ∧ Nums w' w.heap.size (.slice A xs.length c) xs ∧ Below w.heap.size w w' := by
  have HR := Lib.hid hr
  clear hr
  obtain ⟨i0, hi, hz0, hz1, hz2⟩ := info_parts infoInt
  go_enter Tryd.func87, Tryd.ntmps87
  go_wp2_with (at_builtin; refine wpList_append_own _ rfl _ _ 22 rfl w.heap.size 3 i0 (.int .i64 0) 1 8 underInts hi hz0 hz1 hz2 rfl (by decide) _ _ _ rfl (row_lit w).2 a xs.length c (xs.map (Value.int .i64)) rfl (by simp) (fun j u hj => HR.out _ j u (by repeat' (first | (with_reducible exact Below.refl _ _) | (with_reducible assumption) | (with_reducible refine Below.alloc ?_ ?_ _) | (with_reducible refine Below.drew ?_) | (with_reducible refine below_drewN ?_ _) | (with_reducible refine Below.setCell ?_ ?_ _) | go_size)) hj) (ints_oneCell _ _) (by unfold maxLen; omega) (by omega) (by simp) ?_; intro v' w1 hown' hgrow _)
  have n1 : Nums w1 w.heap.size v' xs := by
    unfold Nums
    have h := hown'
    rw [Nat.zero_add, List.map_nil, List.nil_append] at h
    exact h
  have b1 : Below w.heap.size w w1 := ((Below.refl _ _).alloc (Nat.le_refl _) _).grown hgrow (by simp) (fun j hj => by cases hj; exact Nat.le_refl _)
  have N1 := Lib.hid n1
  have B1 := Lib.hid b1
  clear n1 b1 hown' hgrow
  go_wp2
  go_ret
  obtain ⟨A, c', hv⟩ := N1.out.slice
  exact ⟨A, c', by rw [hv]; rfl, by rw [← hv]; exact N1.out, B1.out⟩
theorem reads_later {w : World} {g : Nat} {xs : List Int} (hg : g < w.heap.size) (h : ∀ (k : Nat) (x : Int), xs[k]? = some x → w.cell? ⟨g, k, none⟩ = some (.int .i64 x)) :
    ∀ (w' : World) (j : Nat) (u : Value), Below w.heap.size w w' → (xs.map (Value.int .i64))[j]? = some u → w'.cell? ((⟨g, 0, none⟩ : Addr).add j) = some u := fun w' j u hb hj =>
  news_at (fun k x hx => (hb.cell (p := ⟨g, k, none⟩) hg).trans (h k x hx)) j u hj
theorem own_any {A : Option Addr} {c : Nat} {xs : List Int} {w : World} (h : Holds w (.slice A xs.length c) xs) (hl : xs.length ≤ 1048576) :
    Calls Tryd.prog 87 #[.slice A xs.length c] w fun e w' => ∃ A c, e = .returned (.slice A xs.length c) ∧ Nums w' w.heap.size (.slice A xs.length c) xs ∧ Below w.heap.size w w' := by
  rcases h with ⟨rfl, A', c', hv, hn⟩ | ⟨g, c', hv, h1, h2, h3, h4⟩
  · cases hv
    cases A with
    | none =>
      obtain rfl := hn rfl
      exact own_none w
    | some a => exact own_some [] a c w (by simp) (fun w' j u _ hj => by simp at hj)
  · cases hv
    exact own_some xs _ c w hl (reads_later h3 h4)
/-- The length of a slice. -/
def lenOf : Value → Nat
  | .slice _ n _ => n
  | _ => 0
/-- The first k numbers have the whole's value. -/
def PreOf (xs : List Int) (k : Nat) : Prop := k ≤ xs.length ∧ dv (xs.take k) = dv xs
theorem PreOf.start (xs : List Int) : PreOf xs xs.length := ⟨Nat.le_refl _, by rw [List.take_length]⟩
theorem PreOf.next {xs : List Int} {k : Nat} (h : PreOf xs (k + 1)) (hx : xs[k]? = some 0) : PreOf xs k :=
  ⟨by have := h.1; omega, by rw [← h.2, dv_take_succ hx]; omega⟩
theorem PreOf.done {xs : List Int} {k : Nat} {x : Int} {neg : Bool} {z : Int} (hd : Dig xs) (hz : z = if neg then - dv xs else dv xs) (h : PreOf xs (k + 1)) (hx : xs[k]? = some x) (h0 : x ≠ 0) :
    xs.take (k + 1) = wlimbs z ∧ k + 1 = (wlimbs z).length ∧ wneg z = neg := by
  have h1 := digs_of (hd.take (k + 1)) (by
    intro y hy
    rw [List.length_take, Nat.min_eq_left h.1, Nat.add_sub_cancel, List.getElem?_take, if_pos (by omega), hx] at hy
    cases hy; exact h0)
  have h2 := signed_neg hd hz
  rw [h.2, ← h2.2] at h1
  have h3 : k + 1 = (wlimbs z).length := by rw [← h1, List.length_take, Nat.min_eq_left h.1]
  refine ⟨h1, h3, ?_⟩
  rw [h2.1, ← h2.2, ← h3]
  simp
theorem PreOf.none {xs : List Int} {neg : Bool} {z : Int} (hd : Dig xs) (hz : z = if neg then - dv xs else dv xs) (h : PreOf xs 0) : wlimbs z = [] ∧ wneg z = false := by
  have h2 := signed_neg hd hz
  have h3 : dv xs = 0 := by rw [← h.2]; rfl
  have h4 : digs (dv xs).toNat = [] := by rw [h3]; exact digs_zero
  rw [h4] at h2
  exact ⟨h2.2, by rw [h2.1]; simp⟩
theorem holds_take {w : World} {xs : List Int} {g c k : Nat} (hc : xs.length ≤ c) (hk : k ≤ xs.length) (hg : g < w.heap.size) (h : ∀ (k : Nat) (x : Int), xs[k]? = some x → w.cell? ⟨g, k, none⟩ = some (.int .i64 x)) :
    Holds w (.slice (some ⟨g, 0, none⟩) (xs.take k).length c) (xs.take k) := by
  by_cases h0 : (xs.take k) = []
  · rw [h0]; exact .inl ⟨rfl, _, _, rfl, fun h => by cases h⟩
  · have hl : (xs.take k).length = k := by rw [List.length_take]; omega
    refine .inr ⟨g, c, rfl, List.length_pos_iff.2 h0, by omega, hg, fun j x hx => ?_⟩
    have hj := (List.getElem?_eq_some_iff.1 hx).1
    rw [List.getElem?_take, if_pos (by omega)] at hx
    exact h j x hx
theorem whole_nil {neg : Bool} {z : Int} (hz : z = if neg then - dv [] else dv []) : z = 0 := by rw [hz]; cases neg <;> rfl
set_option maxHeartbeats 1000000 in
theorem bgMake_some (neg : Bool) (xs : List Int) (g c : Nat) (z : Int) (w : World) (hl : xs.length ≤ 1048576) (h0 : 0 < xs.length) (hcap : xs.length ≤ c) (hg : g < w.heap.size)
    (hr : ∀ (k : Nat) (x : Int), xs[k]? = some x → w.cell? ⟨g, k, none⟩ = some (.int .i64 x)) (hd : Dig xs) (hz : z = if neg then - dv xs else dv xs) :
    Calls Tryd.prog 45 #[.bool neg, .slice (some ⟨g, 0, none⟩) xs.length c] w fun e w' => ∃ A c, e = .returned (.agg #[.bool (wneg z), .slice A (wlimbs z).length c]) ∧ Nums w' w.heap.size (.slice A (wlimbs z).length c) (wlimbs z) ∧ Below w.heap.size w w' := by
  have HR := Lib.hid hr
  have HD := Lib.hid hd
  have HZ := Lib.hid hz
  clear hr hd hz
  go_enter Tryd.func45, Tryd.ntmps45
  go_wp2
  go_loop [5] (fun t => ∃ k : Nat, t = .int .i64 k ∧ Hid (PreOf xs k)) (fun t => (intOf t).toNat)
  case atStart => exact ⟨_, rfl, PreOf.start xs⟩
  case round =>
    obtain ⟨k, rfl, HP⟩ := hrel
    have hk := HP.out.1
    match k, HP, hk with
    | 0, HP, hk =>
      obtain ⟨e1, e2⟩ := HP.out.none HD.out HZ.out
      have E1 := Lib.hid e1
      have E2 := Lib.hid e2
      clear e1 e2
      go_wp2_with (go_at_call 87; refine (own_any (xs := []) (.inl ⟨rfl, _, _, rfl, fun h => by cases h⟩) (by simp)).mono ?_; rintro e w2 ⟨A2, d2, rfl, n2, hb2⟩; have N2 := Lib.hid n2; clear n2; obtain ⟨hc2, hf2⟩ := bcell hb2; have hB2 : Below w.heap.size w w2 := Below.trans (by repeat' (first | (with_reducible exact Below.refl _ _) | (with_reducible assumption) | (with_reducible refine Below.alloc ?_ ?_ _) | (with_reducible refine Below.drew ?_) | (with_reducible refine below_drewN ?_ _) | (with_reducible refine Below.setCell ?_ ?_ _) | go_size)) (hb2.mono (by go_size)); (have hs2 := hb2.size); (try simp at hs2); (try (have hl2 := Nat.lt_of_succ_le hs2)); (first | (have hz2 : w.heap.size < w2.heap.size := by omega) | (have hz2 : w.heap.size ≤ w2.heap.size := by omega)); (try (have hz1_2 : w1.heap.size < w2.heap.size := by omega)); (try (have hz3_2 : w3.heap.size < w2.heap.size := by omega)); (try (have hz4_2 : w4.heap.size < w2.heap.size := by omega)); (try (have hz5_2 : w5.heap.size < w2.heap.size := by omega)); (try (have hzc_2 : wc.heap.size < w2.heap.size := by omega)); (try (have hy1_2 : w.heap.size + 1 < w2.heap.size := by omega)); (try (have hy2_2 : w.heap.size + 2 < w2.heap.size := by omega)); (try (have hy3_2 : w.heap.size + 3 < w2.heap.size := by omega)); (have k2_0 : w2.cell? ⟨w.heap.size, 0, none⟩ = some (.bool false) := by (rw [hb2.cell (by first | (simp; done) | (simp; omega) | omega)]; first | assumption | (simp [go_sem]; done) | (simp [*, go_sem]; done))); (have k2_1 : w2.cell? ⟨w.heap.size, 1, none⟩ = some (.slice none 0 0) := by (rw [hb2.cell (by first | (simp; done) | (simp; omega) | omega)]; first | assumption | (simp [go_sem]; done) | (simp [*, go_sem]; done))); (have k2_2 : w2.frozen? ⟨w.heap.size, 0, none⟩ = false := by (rw [hb2.frozen (by first | (simp; done) | (simp; omega) | omega)]; first | assumption | (simp [go_sem]; done) | (simp [*, go_sem]; done))); (have k2_3 : w2.frozen? ⟨w.heap.size, 1, none⟩ = false := by (rw [hb2.frozen (by first | (simp; done) | (simp; omega) | omega)]; first | assumption | (simp [go_sem]; done) | (simp [*, go_sem]; done))))
      all_goals
        refine bodyPost_ret (by simp [results, Tryd.results45, go_sem, *]; try rfl) rfl ?_
        exact ⟨A2, d2, by rw [E1.out, E2.out]; rfl, by rw [E1.out]; exact ((N2.out.setBelow (by simp) _).setBelow (by simp) _).mono (by simp), by repeat' (first | (with_reducible exact Below.refl _ _) | (with_reducible assumption) | (with_reducible refine Below.alloc ?_ ?_ _) | (with_reducible refine Below.drew ?_) | (with_reducible refine below_drewN ?_ _) | (with_reducible refine Below.setCell ?_ ?_ _) | go_size)⟩
    | k + 1, HP, hk =>
      obtain ⟨x, hx⟩ : ∃ x, xs[k]? = some x := ⟨_, List.getElem?_eq_getElem (by omega)⟩
      have hc := HR.out k x hx
      have HX := Lib.hid hx
      clear hx
      have ek : ((k + 1 : Nat) : Int) = (k : Int) + 1 := by omega
      by_cases hx0 : x = 0
      · subst hx0
        have HP2 : Hid (PreOf xs k) := HP.out.next HX.out
        rw [ek]
        clear ek
        go_wp2
        go_round
        case rel => exact ⟨k, by go_num, HP2⟩
        case measure => simp [intOf]
      · have hx1 : (x == 0) = false := beq_eq_false_iff_ne.2 hx0
        obtain ⟨e1, e2, e3⟩ := HP.out.done HD.out HZ.out HX.out hx0
        have hh := holds_take hcap hk hg HR.out
        rw [e1] at hh
        have HH := Lib.hid hh
        have E3 := Lib.hid e3
        have hk2 : (wlimbs z).length ≤ 1048576 := by omega
        have hp : 0 < (wlimbs z).length := by omega
        have hk3 : (wlimbs z).length ≤ c := by omega
        have hk4 : (wlimbs z).length ≤ xs.length := by omega
        have hk5 : (0 : Int) < ((wlimbs z).length : Int) := by omega
        have hc2 : w.cell? ⟨g, (wlimbs z).length - 1, none⟩ = some (.int .i64 x) := by rw [← e2]; exact hc
        rw [e2]
        clear e1 e2 e3 hh hc ek
        go_wp2_with (go_at_call 87; refine (own_any (HH.out.below (by (repeat' (first | (with_reducible exact Below.refl _ _) | (with_reducible assumption) | (with_reducible refine Below.alloc ?_ ?_ _) | (with_reducible refine Below.drew ?_) | (with_reducible refine below_drewN ?_ _) | (with_reducible refine Below.setCell ?_ ?_ _) | go_size)))) hk2).mono ?_; rintro e w2 ⟨A2, d2, rfl, n2, hb2⟩; have N2 := Lib.hid n2; clear n2; obtain ⟨hc2, hf2⟩ := bcell hb2; have hB2 : Below w.heap.size w w2 := Below.trans (by repeat' (first | (with_reducible exact Below.refl _ _) | (with_reducible assumption) | (with_reducible refine Below.alloc ?_ ?_ _) | (with_reducible refine Below.drew ?_) | (with_reducible refine below_drewN ?_ _) | (with_reducible refine Below.setCell ?_ ?_ _) | go_size)) (hb2.mono (by go_size)); (have hs2 := hb2.size); (try simp at hs2); (try (have hl2 := Nat.lt_of_succ_le hs2)); (first | (have hz2 : w.heap.size < w2.heap.size := by omega) | (have hz2 : w.heap.size ≤ w2.heap.size := by omega)); (try (have hz1_2 : w1.heap.size < w2.heap.size := by omega)); (try (have hz3_2 : w3.heap.size < w2.heap.size := by omega)); (try (have hz4_2 : w4.heap.size < w2.heap.size := by omega)); (try (have hz5_2 : w5.heap.size < w2.heap.size := by omega)); (try (have hzc_2 : wc.heap.size < w2.heap.size := by omega)); (try (have hy1_2 : w.heap.size + 1 < w2.heap.size := by omega)); (try (have hy2_2 : w.heap.size + 2 < w2.heap.size := by omega)); (try (have hy3_2 : w.heap.size + 3 < w2.heap.size := by omega)); (have k2_0 : w2.cell? ⟨w.heap.size, 0, none⟩ = some (.bool false) := by (rw [hb2.cell (by first | (simp; done) | (simp; omega) | omega)]; first | assumption | (simp [go_sem]; done) | (simp [*, go_sem]; done))); (have k2_1 : w2.cell? ⟨w.heap.size, 1, none⟩ = some (.slice none 0 0) := by (rw [hb2.cell (by first | (simp; done) | (simp; omega) | omega)]; first | assumption | (simp [go_sem]; done) | (simp [*, go_sem]; done))); (have k2_2 : w2.frozen? ⟨w.heap.size, 0, none⟩ = false := by (rw [hb2.frozen (by first | (simp; done) | (simp; omega) | omega)]; first | assumption | (simp [go_sem]; done) | (simp [*, go_sem]; done))); (have k2_3 : w2.frozen? ⟨w.heap.size, 1, none⟩ = false := by (rw [hb2.frozen (by first | (simp; done) | (simp; omega) | omega)]; first | assumption | (simp [go_sem]; done) | (simp [*, go_sem]; done))))
        all_goals
          refine bodyPost_ret (by simp [results, Tryd.results45, go_sem, *]; try rfl) rfl ?_
          exact ⟨A2, d2, by rw [E3.out]; cases neg <;> first | rfl | contradiction, ((N2.out.setBelow (by simp) _).setBelow (by simp) _).mono (by simp), by repeat' (first | (with_reducible exact Below.refl _ _) | (with_reducible assumption) | (with_reducible refine Below.alloc ?_ ?_ _) | (with_reducible refine Below.drew ?_) | (with_reducible refine below_drewN ?_ _) | (with_reducible refine Below.setCell ?_ ?_ _) | go_size)⟩
theorem bgMake_nil (neg : Bool) (A : Option Addr) (c : Nat) (w : World) (hA : A = none → c = 0) :
    Calls Tryd.prog 45 #[.bool neg, .slice A 0 c] w fun e w' => ∃ A c, e = .returned (.agg #[.bool false, .slice A 0 c]) ∧ Nums w' w.heap.size (.slice A 0 c) [] ∧ Below w.heap.size w w' := by
  cases A with
  | none =>
    obtain rfl := hA rfl
    go_enter Tryd.func45, Tryd.ntmps45
    go_wp2
    refine wp_loop_rounds 1 ?_
    rw [rounds_succ]
    go_wp2_with (go_at_call 87; refine (own_any (xs := []) (.inl ⟨rfl, _, _, rfl, fun _ => rfl⟩) (by simp)).mono ?_; rintro e w2 ⟨A2, d2, rfl, n2, hb2⟩; have N2 := Lib.hid n2; clear n2; obtain ⟨hc2, hf2⟩ := bcell hb2; have hB2 : Below w.heap.size w w2 := Below.trans (by repeat' (first | (with_reducible exact Below.refl _ _) | (with_reducible assumption) | (with_reducible refine Below.alloc ?_ ?_ _) | (with_reducible refine Below.drew ?_) | (with_reducible refine below_drewN ?_ _) | (with_reducible refine Below.setCell ?_ ?_ _) | go_size)) (hb2.mono (by go_size)); (have hs2 := hb2.size); (try simp at hs2); (try (have hl2 := Nat.lt_of_succ_le hs2)); (first | (have hz2 : w.heap.size < w2.heap.size := by omega) | (have hz2 : w.heap.size ≤ w2.heap.size := by omega)); (try (have hz1_2 : w1.heap.size < w2.heap.size := by omega)); (try (have hz3_2 : w3.heap.size < w2.heap.size := by omega)); (try (have hz4_2 : w4.heap.size < w2.heap.size := by omega)); (try (have hz5_2 : w5.heap.size < w2.heap.size := by omega)); (try (have hzc_2 : wc.heap.size < w2.heap.size := by omega)); (try (have hy1_2 : w.heap.size + 1 < w2.heap.size := by omega)); (try (have hy2_2 : w.heap.size + 2 < w2.heap.size := by omega)); (try (have hy3_2 : w.heap.size + 3 < w2.heap.size := by omega)); (have k2_0 : w2.cell? ⟨w.heap.size, 0, none⟩ = some (.bool false) := by (rw [hb2.cell (by first | (simp; done) | (simp; omega) | omega)]; first | assumption | (simp [go_sem]; done) | (simp [*, go_sem]; done))); (have k2_1 : w2.cell? ⟨w.heap.size, 1, none⟩ = some (.slice none 0 0) := by (rw [hb2.cell (by first | (simp; done) | (simp; omega) | omega)]; first | assumption | (simp [go_sem]; done) | (simp [*, go_sem]; done))); (have k2_2 : w2.frozen? ⟨w.heap.size, 0, none⟩ = false := by (rw [hb2.frozen (by first | (simp; done) | (simp; omega) | omega)]; first | assumption | (simp [go_sem]; done) | (simp [*, go_sem]; done))); (have k2_3 : w2.frozen? ⟨w.heap.size, 1, none⟩ = false := by (rw [hb2.frozen (by first | (simp; done) | (simp; omega) | omega)]; first | assumption | (simp [go_sem]; done) | (simp [*, go_sem]; done))))
    all_goals
      refine bodyPost_ret (by simp [results, Tryd.results45, go_sem, *]; try rfl) rfl ?_
      exact ⟨A2, d2, rfl, ((N2.out.setBelow (by simp) _).setBelow (by simp) _).mono (by simp), by repeat' (first | (with_reducible exact Below.refl _ _) | (with_reducible assumption) | (with_reducible refine Below.alloc ?_ ?_ _) | (with_reducible refine Below.drew ?_) | (with_reducible refine below_drewN ?_ _) | (with_reducible refine Below.setCell ?_ ?_ _) | go_size)⟩
  | some a =>
    go_enter Tryd.func45, Tryd.ntmps45
    go_wp2
    refine wp_loop_rounds 1 ?_
    rw [rounds_succ]
    go_wp2_with (go_at_call 87; refine (own_any (xs := []) (.inl ⟨rfl, _, _, rfl, fun h => by cases h⟩) (by simp)).mono ?_; rintro e w2 ⟨A2, d2, rfl, n2, hb2⟩; have N2 := Lib.hid n2; clear n2; obtain ⟨hc2, hf2⟩ := bcell hb2; have hB2 : Below w.heap.size w w2 := Below.trans (by repeat' (first | (with_reducible exact Below.refl _ _) | (with_reducible assumption) | (with_reducible refine Below.alloc ?_ ?_ _) | (with_reducible refine Below.drew ?_) | (with_reducible refine below_drewN ?_ _) | (with_reducible refine Below.setCell ?_ ?_ _) | go_size)) (hb2.mono (by go_size)); (have hs2 := hb2.size); (try simp at hs2); (try (have hl2 := Nat.lt_of_succ_le hs2)); (first | (have hz2 : w.heap.size < w2.heap.size := by omega) | (have hz2 : w.heap.size ≤ w2.heap.size := by omega)); (try (have hz1_2 : w1.heap.size < w2.heap.size := by omega)); (try (have hz3_2 : w3.heap.size < w2.heap.size := by omega)); (try (have hz4_2 : w4.heap.size < w2.heap.size := by omega)); (try (have hz5_2 : w5.heap.size < w2.heap.size := by omega)); (try (have hzc_2 : wc.heap.size < w2.heap.size := by omega)); (try (have hy1_2 : w.heap.size + 1 < w2.heap.size := by omega)); (try (have hy2_2 : w.heap.size + 2 < w2.heap.size := by omega)); (try (have hy3_2 : w.heap.size + 3 < w2.heap.size := by omega)); (have k2_0 : w2.cell? ⟨w.heap.size, 0, none⟩ = some (.bool false) := by (rw [hb2.cell (by first | (simp; done) | (simp; omega) | omega)]; first | assumption | (simp [go_sem]; done) | (simp [*, go_sem]; done))); (have k2_1 : w2.cell? ⟨w.heap.size, 1, none⟩ = some (.slice none 0 0) := by (rw [hb2.cell (by first | (simp; done) | (simp; omega) | omega)]; first | assumption | (simp [go_sem]; done) | (simp [*, go_sem]; done))); (have k2_2 : w2.frozen? ⟨w.heap.size, 0, none⟩ = false := by (rw [hb2.frozen (by first | (simp; done) | (simp; omega) | omega)]; first | assumption | (simp [go_sem]; done) | (simp [*, go_sem]; done))); (have k2_3 : w2.frozen? ⟨w.heap.size, 1, none⟩ = false := by (rw [hb2.frozen (by first | (simp; done) | (simp; omega) | omega)]; first | assumption | (simp [go_sem]; done) | (simp [*, go_sem]; done))))
    all_goals
      refine bodyPost_ret (by simp [results, Tryd.results45, go_sem, *]; try rfl) rfl ?_
      exact ⟨A2, d2, rfl, ((N2.out.setBelow (by simp) _).setBelow (by simp) _).mono (by simp), by repeat' (first | (with_reducible exact Below.refl _ _) | (with_reducible assumption) | (with_reducible refine Below.alloc ?_ ?_ _) | (with_reducible refine Below.drew ?_) | (with_reducible refine below_drewN ?_ _) | (with_reducible refine Below.setCell ?_ ?_ _) | go_size)⟩
theorem bgMake_any (neg : Bool) {A : Option Addr} {c : Nat} {xs : List Int} {w : World} (z : Int) (h : Holds w (.slice A xs.length c) xs) (hl : xs.length ≤ 1048576) (hd : Dig xs) (hz : z = if neg then - dv xs else dv xs) :
    Calls Tryd.prog 45 #[.bool neg, .slice A xs.length c] w fun e w' => ∃ A c, e = .returned (.agg #[.bool (wneg z), .slice A (wlimbs z).length c]) ∧ Nums w' w.heap.size (.slice A (wlimbs z).length c) (wlimbs z) ∧ Below w.heap.size w w' := by
  rcases h with ⟨rfl, A', c', hv, hn⟩ | ⟨g, c', hv, h1, h2, h3, h4⟩
  · cases hv
    obtain rfl := whole_nil hz
    rw [show wlimbs 0 = [] from digs_zero]
    exact bgMake_nil neg A c w hn
  · cases hv
    exact bgMake_some neg xs g c z w hl h1 h2 h3 h4 hd hz
end Go.Proofs.YtklhmaegpejdbaaDoor
