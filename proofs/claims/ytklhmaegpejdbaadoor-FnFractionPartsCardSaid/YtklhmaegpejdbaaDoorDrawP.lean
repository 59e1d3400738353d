/- The draws of FnFractionParts' fractions: what they may hold. -/
import Derived.Test.YtklhmaegpejdbaaDoorDrawF
import Derived.Test.YtklhmaegpejdbaaDoorFrLaw
namespace Go.Proofs.YtklhmaegpejdbaaDoor.Dp
open Go.RowKit
set_option linter.unusedVariables false
set_option linter.unusedSimpArgs false
set_option maxRecDepth 100000
def ElemsP (w : World) (g m : Nat) (P : Int → Prop) : Prop := ∀ k : Nat, k < m → ∃ x : Int, P x ∧ w.cell? ⟨g, k, none⟩ = some (.int .i64 x)
set_option maxHeartbeats 4000000 in
theorem amongP_any {W w : World} {b : Nat} {A : Option Addr} {l c n : Nat} (h : Cu W b A l c n w) (hn : n ≤ 999999990) (g : Nat) (m cap : Nat) (m0 : 1 ≤ m) (m1 : m ≤ 1000000) (P : Int → Prop) (he : ElemsP w g m P) (hg : g < w.heap.size) (hgb : g ≠ b) :
    Calls Tryd.prog 77 #[.pointer (some ⟨b, 0, none⟩), .slice (some ⟨g, 0, none⟩) m cap] w fun e w' => (∃ x : Int, P x ∧ e = .returned (.int .i64 x)) ∧ Cu W b A l c (n + 2) w' := by
  have H := Lib.hid h
  have HE := Lib.hid he
  clear h he
  go_enter Tryd.func77, Tryd.ntmps77
  go_wp2_with fail
  (go_at_call 84; refine (pick_any H.out.start (by omega) (m : Int) (by omega) (by omega)).mono ?_; rintro e w1 ⟨⟨x, x0, x1, rfl⟩, C1⟩)
  have HC := Lib.hid C1
  clear C1
  obtain ⟨k, rfl⟩ := Int.eq_ofNat_of_zero_le x0
  obtain ⟨y, y0, hy⟩ := HE.out k (by omega)
  have hc : w1.cell? ⟨g, k, none⟩ = some (.int .i64 y) := by
    rw [← hy]; exact World.cell?_of_block (HC.out.2.block g hg (by simp; exact hgb))
  go_wp2
  go_ret
  exact ⟨⟨_, y0, rfl⟩, H.out.trans HC.out⟩
theorem elemsP_new {w : World} (vs : List Int) {o : Obj} {T : TypeId} (ho : o = .cells (vs.map (Value.int .i64)).toArray T) {P : Int → Prop} (hall : ∀ x ∈ vs, P x) {m : Nat} (hm : m = vs.length) : ElemsP (w.alloc o) w.heap.size m P := by
  subst ho hm
  intro k hk
  refine ⟨vs[k], hall _ (List.getElem_mem hk), ?_⟩
  have hg : (w.alloc (Obj.cells (List.map (Value.int IntKind.i64) vs).toArray T)).heap[w.heap.size]? = some (Obj.cells (List.map (Value.int IntKind.i64) vs).toArray T) := Array.getElem?_push_size
  simp only [World.cell?, hg]
  simp [hk]
theorem amongP_new {W w : World} {b : Nat} {A : Option Addr} {l c n : Nat} (h : Cu W b A l c n w) (hn : n ≤ 999999990) (vs : List Int) {o : Obj} {T : TypeId} (ho : o = .cells (vs.map (Value.int .i64)).toArray T) {m cap : Nat} (hm : m = vs.length) (hv : 1 ≤ vs.length) (hv2 : vs.length ≤ 1000)
    (P : Int → Prop) (hall : ∀ x ∈ vs, P x) :
    Calls Tryd.prog 77 #[.pointer (some ⟨b, 0, none⟩), .slice (some ⟨w.heap.size, 0, none⟩) m cap] (w.alloc o) fun e w' => (∃ x : Int, P x ∧ e = .returned (.int .i64 x)) ∧ Cu W b A l c (n + 2) w' :=
  amongP_any (h.alloc o) hn w.heap.size m cap (by omega) (by omega) P (elemsP_new vs ho hall hm) (by simp) (by have := h.1.1; omega)
/-- What a drawn fraction may be. -/
def FrAny (x y : Int) : Prop := (-1 ≤ y ∧ y ≤ 1000000001) ∧ ((-1000000001 ≤ x ∧ x ≤ 1000000001) ∨ (x = -9223372036854775808 ∧ 1 ≤ y ∧ y ≤ 1000000000))
theorem frAny_of {x y : Int} (h : fracB x y = true) : FrAny x y := by
  obtain ⟨a, b, c, d, _⟩ := fracB_range h
  exact ⟨⟨by omega, by omega⟩, .inl ⟨by omega, by omega⟩⟩
theorem FrAny.i64 {x y : Int} (h : FrAny x y) : I64 x ∧ I64 y := by
  obtain ⟨⟨h0, h1⟩, h2⟩ := h
  refine ⟨⟨?_, ?_⟩, ⟨by omega, by omega⟩⟩ <;> rcases h2 with ⟨a, b⟩ | ⟨a, b, c⟩ <;> omega
set_option maxHeartbeats 8000000 in
theorem anyFraction2 {W w : World} {b : Nat} {A : Option Addr} {l c n : Nat} (h : Cu W b A l c n w) (hn : n ≤ 999990000) :
    Calls Tryd.prog 72 #[.pointer (some ⟨b, 0, none⟩)] w fun e w' => (∃ x y : Int, Hid (FrAny x y) ∧ e = .returned (.agg #[.int .i64 x, .int .i64 y])) ∧ Cu W b A l c (n + 20) w' := by
  have H := Lib.hid h
  have hbw := h.1.1
  have hWw := h.2.size
  clear h
  go_enter Tryd.func72, Tryd.ntmps72
  go_wp2_with fail
  (go_at_call 83; refine (fraction_any (H.out.alloc _).start (by omega)).mono ?_; rintro e w1 ⟨⟨x, y, HF, rfl⟩, C1⟩)
  have HC1 := Lib.hid C1
  clear C1
  have HXY := Lib.hid (frAny_of HF.out)
  obtain ⟨r0, r1, r2, r3, _⟩ := fracB_range HF.out
  have g0 : w1.cell? ⟨w.heap.size, 0, none⟩ = some (.int .i64 0) := HC1.out.keeps (by simp) (by omega) (by simp [go_sem])
  have g1 : w1.cell? ⟨w.heap.size, 1, none⟩ = some (.int .i64 0) := HC1.out.keeps (by simp) (by omega) (by simp [go_sem])
  have g2 : w1.frozen? ⟨w.heap.size, 0, none⟩ = false := HC1.out.free (by simp) (by omega) (by simp [go_sem])
  have g3 : w1.frozen? ⟨w.heap.size, 1, none⟩ = false := HC1.out.free (by simp) (by omega) (by simp [go_sem])
  have s1 : w.heap.size < w1.heap.size := by have := HC1.out.2.size; simp at this; omega
  go_wp2_with fail
  (go_at_call 84; refine (pick_any (HC1.out.alloc _).start (by omega) 36 (by omega) (by omega)).mono ?_; rintro e w2 ⟨⟨z, z0, z1, rfl⟩, C2⟩)
  have HC2 := Lib.hid C2
  clear C2
  have s2 : w1.heap.size < w2.heap.size := by have := HC2.out.2.size; simp at this; omega
  have s2' : w.heap.size < w2.heap.size := by omega
  have kw2_0 : w2.cell? ⟨w.heap.size, 0, none⟩ = some (.int .i64 0) := HC2.out.keeps (by first | omega | (simp; done) | (simp; omega)) (by omega) (by simp [go_sem, *])
  have fw2_0 : w2.frozen? ⟨w.heap.size, 0, none⟩ = false := HC2.out.free (by first | omega | (simp; done) | (simp; omega)) (by omega) (by simp [go_sem, *])
  have kw2_1 : w2.cell? ⟨w.heap.size, 1, none⟩ = some (.int .i64 0) := HC2.out.keeps (by first | omega | (simp; done) | (simp; omega)) (by omega) (by simp [go_sem, *])
  have fw2_1 : w2.frozen? ⟨w.heap.size, 1, none⟩ = false := HC2.out.free (by first | omega | (simp; done) | (simp; omega)) (by omega) (by simp [go_sem, *])
  have kw2_2 : w2.cell? ⟨w1.heap.size, 0, none⟩ = some (.int .i64 x) := HC2.out.keeps (by first | omega | (simp; done) | (simp; omega)) (by omega) (by simp [go_sem, *])
  have fw2_2 : w2.frozen? ⟨w1.heap.size, 0, none⟩ = false := HC2.out.free (by first | omega | (simp; done) | (simp; omega)) (by omega) (by simp [go_sem, *])
  have kw2_3 : w2.cell? ⟨w1.heap.size, 1, none⟩ = some (.int .i64 y) := HC2.out.keeps (by first | omega | (simp; done) | (simp; omega)) (by omega) (by simp [go_sem, *])
  have fw2_3 : w2.frozen? ⟨w1.heap.size, 1, none⟩ = false := HC2.out.free (by first | omega | (simp; done) | (simp; omega)) (by omega) (by simp [go_sem, *])
  by_cases hz : z = 0
  · subst hz
    go_wp2_with fail
    (go_at_call 77; refine (among_new HC2.out (by omega) [0, -1, 1000000001] rfl rfl (by simp) (by simp) (-1) 1000000001 (by simp only [List.forall_mem_cons, List.not_mem_nil, false_implies, implies_true, and_true]; omega)).mono ?_; rintro e w3 ⟨⟨u, u0, u1, rfl⟩, C3⟩)
    have HC3 := Lib.hid C3
    clear C3
    have s3 : w1.heap.size < w3.heap.size := by have := HC3.out.2.size; simp at this; omega
    have s3' : w.heap.size < w3.heap.size := by omega
    have kw3_0 : w3.cell? ⟨w.heap.size, 0, none⟩ = some (.int .i64 0) := HC3.out.keeps (by first | omega | (simp; done) | (simp; omega)) (by omega) (by simp [go_sem, *])
    have fw3_0 : w3.frozen? ⟨w.heap.size, 0, none⟩ = false := HC3.out.free (by first | omega | (simp; done) | (simp; omega)) (by omega) (by simp [go_sem, *])
    have kw3_1 : w3.cell? ⟨w.heap.size, 1, none⟩ = some (.int .i64 0) := HC3.out.keeps (by first | omega | (simp; done) | (simp; omega)) (by omega) (by simp [go_sem, *])
    have fw3_1 : w3.frozen? ⟨w.heap.size, 1, none⟩ = false := HC3.out.free (by first | omega | (simp; done) | (simp; omega)) (by omega) (by simp [go_sem, *])
    have kw3_2 : w3.cell? ⟨w1.heap.size, 0, none⟩ = some (.int .i64 x) := HC3.out.keeps (by first | omega | (simp; done) | (simp; omega)) (by omega) (by simp [go_sem, *])
    have fw3_2 : w3.frozen? ⟨w1.heap.size, 0, none⟩ = false := HC3.out.free (by first | omega | (simp; done) | (simp; omega)) (by omega) (by simp [go_sem, *])
    have kw3_3 : w3.cell? ⟨w1.heap.size, 1, none⟩ = some (.int .i64 y) := HC3.out.keeps (by first | omega | (simp; done) | (simp; omega)) (by omega) (by simp [go_sem, *])
    have fw3_3 : w3.frozen? ⟨w1.heap.size, 1, none⟩ = false := HC3.out.free (by first | omega | (simp; done) | (simp; omega)) (by omega) (by simp [go_sem, *])
    have HW := Lib.hid (((((H.out.alloc _).trans HC1.out).alloc _).trans HC3.out).le (show _ ≤ n + 20 by omega))
    have hw := HW.out
    go_wp2
    refine bodyPost_ret (by simp [results, Tryd.results72, go_sem, *]; try rfl) rfl ?_
    exact ⟨⟨x, u, Lib.hid ⟨⟨by omega, by omega⟩, .inl ⟨by omega, by omega⟩⟩, rfl⟩, by (repeat' (first | (with_reducible assumption) | (with_reducible refine Cu.write ?_ _ _ _ (by first | omega | (simp; omega)) (by first | omega | (simp; omega))) | (with_reducible refine Cu.alloc ?_ _)))⟩
  by_cases hz1 : z = 1
  · subst hz1
    go_wp2_with fail
    (go_at_call 77; refine (amongP_new HC2.out (by omega) [1000000001, -1000000001, -9223372036854775808] rfl rfl (by simp) (by simp) (fun u => u = 1000000001 ∨ u = -1000000001 ∨ u = -9223372036854775808) (by simp)).mono ?_; rintro e w3 ⟨⟨u, hu, rfl⟩, C3⟩)
    have HC3 := Lib.hid C3
    clear C3
    have s3 : w1.heap.size < w3.heap.size := by have := HC3.out.2.size; simp at this; omega
    have s3' : w.heap.size < w3.heap.size := by omega
    have kw3_0 : w3.cell? ⟨w.heap.size, 0, none⟩ = some (.int .i64 0) := HC3.out.keeps (by first | omega | (simp; done) | (simp; omega)) (by omega) (by simp [go_sem, *])
    have fw3_0 : w3.frozen? ⟨w.heap.size, 0, none⟩ = false := HC3.out.free (by first | omega | (simp; done) | (simp; omega)) (by omega) (by simp [go_sem, *])
    have kw3_1 : w3.cell? ⟨w.heap.size, 1, none⟩ = some (.int .i64 0) := HC3.out.keeps (by first | omega | (simp; done) | (simp; omega)) (by omega) (by simp [go_sem, *])
    have fw3_1 : w3.frozen? ⟨w.heap.size, 1, none⟩ = false := HC3.out.free (by first | omega | (simp; done) | (simp; omega)) (by omega) (by simp [go_sem, *])
    have kw3_2 : w3.cell? ⟨w1.heap.size, 0, none⟩ = some (.int .i64 x) := HC3.out.keeps (by first | omega | (simp; done) | (simp; omega)) (by omega) (by simp [go_sem, *])
    have fw3_2 : w3.frozen? ⟨w1.heap.size, 0, none⟩ = false := HC3.out.free (by first | omega | (simp; done) | (simp; omega)) (by omega) (by simp [go_sem, *])
    have kw3_3 : w3.cell? ⟨w1.heap.size, 1, none⟩ = some (.int .i64 y) := HC3.out.keeps (by first | omega | (simp; done) | (simp; omega)) (by omega) (by simp [go_sem, *])
    have fw3_3 : w3.frozen? ⟨w1.heap.size, 1, none⟩ = false := HC3.out.free (by first | omega | (simp; done) | (simp; omega)) (by omega) (by simp [go_sem, *])
    have HW := Lib.hid (((((H.out.alloc _).trans HC1.out).alloc _).trans HC3.out).le (show _ ≤ n + 20 by omega))
    have hw := HW.out
    go_wp2
    refine bodyPost_ret (by simp [results, Tryd.results72, go_sem, *]; try rfl) rfl ?_
    exact ⟨⟨u, y, Lib.hid ⟨⟨by omega, by omega⟩, by rcases hu with rfl | rfl | rfl; exact .inl ⟨by omega, by omega⟩; exact .inl ⟨by omega, by omega⟩; exact .inr ⟨rfl, by omega, by omega⟩⟩, rfl⟩, by (repeat' (first | (with_reducible assumption) | (with_reducible refine Cu.write ?_ _ _ _ (by first | omega | (simp; omega)) (by first | omega | (simp; omega))) | (with_reducible refine Cu.alloc ?_ _)))⟩
  have hzb : (z == 0) = false := by simp; omega
  have hzb1 : (z == 1) = false := by simp; omega
  by_cases hz2 : z = 2
  · subst hz2
    go_wp2_with fail
    (go_at_call 77; refine (among_new HC2.out (by omega) [2, 0, -6] rfl rfl (by simp) (by simp) (-6) 2 (by simp only [List.forall_mem_cons, List.not_mem_nil, false_implies, implies_true, and_true]; omega)).mono ?_; rintro e w3 ⟨⟨u, u0, u1, rfl⟩, C3⟩)
    have HC3 := Lib.hid C3
    clear C3
    go_wp2_with fail
    (go_at_call 77; refine (among_new HC3.out (by omega) [2, 4, 9] rfl rfl (by simp) (by simp) 2 9 (by simp only [List.forall_mem_cons, List.not_mem_nil, false_implies, implies_true, and_true]; omega)).mono ?_; rintro e w4 ⟨⟨v, v0, v1, rfl⟩, C4⟩)
    have HC4 := Lib.hid C4
    clear C4
    have s4 : w1.heap.size < w4.heap.size := by have := HC4.out.2.size; simp at this; omega
    have s4' : w.heap.size < w4.heap.size := by omega
    have kw4_0 : w4.cell? ⟨w.heap.size, 0, none⟩ = some (.int .i64 0) := HC4.out.keeps (by first | omega | (simp; done) | (simp; omega)) (by omega) (by simp [go_sem, *])
    have fw4_0 : w4.frozen? ⟨w.heap.size, 0, none⟩ = false := HC4.out.free (by first | omega | (simp; done) | (simp; omega)) (by omega) (by simp [go_sem, *])
    have kw4_1 : w4.cell? ⟨w.heap.size, 1, none⟩ = some (.int .i64 0) := HC4.out.keeps (by first | omega | (simp; done) | (simp; omega)) (by omega) (by simp [go_sem, *])
    have fw4_1 : w4.frozen? ⟨w.heap.size, 1, none⟩ = false := HC4.out.free (by first | omega | (simp; done) | (simp; omega)) (by omega) (by simp [go_sem, *])
    have kw4_2 : w4.cell? ⟨w1.heap.size, 0, none⟩ = some (.int .i64 x) := HC4.out.keeps (by first | omega | (simp; done) | (simp; omega)) (by omega) (by simp [go_sem, *])
    have fw4_2 : w4.frozen? ⟨w1.heap.size, 0, none⟩ = false := HC4.out.free (by first | omega | (simp; done) | (simp; omega)) (by omega) (by simp [go_sem, *])
    have kw4_3 : w4.cell? ⟨w1.heap.size, 1, none⟩ = some (.int .i64 y) := HC4.out.keeps (by first | omega | (simp; done) | (simp; omega)) (by omega) (by simp [go_sem, *])
    have fw4_3 : w4.frozen? ⟨w1.heap.size, 1, none⟩ = false := HC4.out.free (by first | omega | (simp; done) | (simp; omega)) (by omega) (by simp [go_sem, *])
    have HW := Lib.hid (((((H.out.alloc _).trans HC1.out).alloc _).trans HC4.out).le (show _ ≤ n + 20 by omega))
    have hw := HW.out
    go_wp2
    refine bodyPost_ret (by simp [results, Tryd.results72, go_sem, *]; try rfl) rfl ?_
    exact ⟨⟨u, v, Lib.hid ⟨⟨by omega, by omega⟩, .inl ⟨by omega, by omega⟩⟩, rfl⟩, by (repeat' (first | (with_reducible assumption) | (with_reducible refine Cu.write ?_ _ _ _ (by first | omega | (simp; omega)) (by first | omega | (simp; omega))) | (with_reducible refine Cu.alloc ?_ _)))⟩
  · have hzb2 : (z == 2) = false := by simp; omega
    have HW := Lib.hid (((((H.out.alloc _).trans HC1.out).alloc _).trans HC2.out).le (show _ ≤ n + 20 by omega))
    have hw := HW.out
    go_wp2
    refine bodyPost_ret (by simp [results, Tryd.results72, go_sem, *]; try rfl) rfl ?_
    exact ⟨⟨x, y, HXY, rfl⟩, by (repeat' (first | (with_reducible assumption) | (with_reducible refine Cu.write ?_ _ _ _ (by first | omega | (simp; omega)) (by first | omega | (simp; omega))) | (with_reducible refine Cu.alloc ?_ _)))⟩
set_option maxHeartbeats 4000000 in
theorem DrawIsFraction_any {A : Option Addr} {l c : Nat} {w : World} (hB : Bytes w A l) :
    Calls Tryd.prog 67 #[.slice A l c] w fun e w' => (∃ x y : Int, Hid (I64 x ∧ I64 y) ∧ e = .returned (.agg #[.int .i64 x, .int .i64 y])) ∧ Below w.heap.size w w' := by
  have HB := Lib.hid hB
  clear hB
  go_enter Tryd.func67, Tryd.ntmps67
  go_wp2_with fail
  (go_at_call 72; refine (anyFraction2 ((HB.out.below (by (repeat' (first | (with_reducible exact Below.refl _ _) | (with_reducible assumption) | (with_reducible refine Below.alloc ?_ ?_ _) | (with_reducible refine Below.drew ?_) | (with_reducible refine below_drewN ?_ _) | (with_reducible refine Below.setCell ?_ ?_ _) | go_size)))).cursorAt (b := w.heap.size + 1) (by simp) rfl) (by omega)).mono ?_; rintro e w1 ⟨⟨x, y, HXY, rfl⟩, C1⟩)
  have HC1 := Lib.hid C1
  clear C1
  have s1 : w.heap.size + 1 < w1.heap.size := by have := HC1.out.2.size; simp at this; omega
  have s1a : w.heap.size < w1.heap.size := by omega
  have k0 : w1.cell? ⟨w.heap.size, 0, none⟩ = some (.int .i64 0) := HC1.out.keeps (by first | omega | (simp; done) | (simp; omega)) (by omega) (by simp [go_sem, *])
  have f0 : w1.frozen? ⟨w.heap.size, 0, none⟩ = false := HC1.out.free (by first | omega | (simp; done) | (simp; omega)) (by omega) (by simp [go_sem, *])
  have k1 : w1.cell? ⟨w.heap.size, 1, none⟩ = some (.int .i64 0) := HC1.out.keeps (by first | omega | (simp; done) | (simp; omega)) (by omega) (by simp [go_sem, *])
  have f1 : w1.frozen? ⟨w.heap.size, 1, none⟩ = false := HC1.out.free (by first | omega | (simp; done) | (simp; omega)) (by omega) (by simp [go_sem, *])
  have hB1 : Below w.heap.size w w1 := HC1.out.belowOf (by (repeat' (first | (with_reducible exact Below.refl _ _) | (with_reducible assumption) | (with_reducible refine Below.alloc ?_ ?_ _) | (with_reducible refine Below.drew ?_) | (with_reducible refine below_drewN ?_ _) | (with_reducible refine Below.setCell ?_ ?_ _) | go_size))) (by omega) (by simp; omega)
  go_wp2
  refine bodyPost_ret (by simp [results, Tryd.results67, go_sem, *]; try rfl) rfl ?_
  exact ⟨⟨x, y, Lib.hid HXY.out.i64, rfl⟩, by repeat' (first | (with_reducible exact Below.refl _ _) | (with_reducible assumption) | (with_reducible refine Below.alloc ?_ ?_ _) | (with_reducible refine Below.drew ?_) | (with_reducible refine below_drewN ?_ _) | (with_reducible refine Below.setCell ?_ ?_ _) | go_size)⟩
theorem DrawFloorAndRest_any {A : Option Addr} {l c : Nat} {w : World} (hB : Bytes w A l) :
    Calls Tryd.prog 27 #[.slice A l c] w fun e w' => (∃ x y : Int, Hid (I64 x ∧ I64 y) ∧ e = .returned (.agg #[.int .i64 x, .int .i64 y])) ∧ Below w.heap.size w w' := by
  have HB := Lib.hid hB
  clear hB
  go_enter Tryd.func27, Tryd.ntmps27
  go_wp2_with fail
  (go_at_call 67; refine (DrawIsFraction_any (HB.out.below (by (repeat' (first | (with_reducible exact Below.refl _ _) | (with_reducible assumption) | (with_reducible refine Below.alloc ?_ ?_ _) | (with_reducible refine Below.drew ?_) | (with_reducible refine below_drewN ?_ _) | (with_reducible refine Below.setCell ?_ ?_ _) | go_size))))).mono ?_; rintro e w1 ⟨⟨x, y, HXY, rfl⟩, hb1⟩)
  have s1 := hb1.size
  simp at s1
  have s1a : w.heap.size < w1.heap.size := by omega
  have k0 : w1.cell? ⟨w.heap.size, 0, none⟩ = some (.int .i64 0) := by rw [hb1.cell (p := ⟨w.heap.size, 0, none⟩) (by simp)]; simp [go_sem]
  have f0 : w1.frozen? ⟨w.heap.size, 0, none⟩ = false := by rw [hb1.frozen (p := ⟨w.heap.size, 0, none⟩) (by simp)]; simp [go_sem]
  have k1 : w1.cell? ⟨w.heap.size, 1, none⟩ = some (.int .i64 0) := by rw [hb1.cell (p := ⟨w.heap.size, 1, none⟩) (by simp)]; simp [go_sem]
  have f1 : w1.frozen? ⟨w.heap.size, 1, none⟩ = false := by rw [hb1.frozen (p := ⟨w.heap.size, 1, none⟩) (by simp)]; simp [go_sem]
  have hB1 : Below w.heap.size w w1 := Below.trans (by (repeat' (first | (with_reducible exact Below.refl _ _) | (with_reducible assumption) | (with_reducible refine Below.alloc ?_ ?_ _) | (with_reducible refine Below.drew ?_) | (with_reducible refine below_drewN ?_ _) | (with_reducible refine Below.setCell ?_ ?_ _) | go_size))) (hb1.mono (by go_size))
  go_wp2
  refine bodyPost_ret (by simp [results, Tryd.results27, go_sem, *]; try rfl) rfl ?_
  exact ⟨⟨x, y, HXY, rfl⟩, by repeat' (first | (with_reducible exact Below.refl _ _) | (with_reducible assumption) | (with_reducible refine Below.alloc ?_ ?_ _) | (with_reducible refine Below.drew ?_) | (with_reducible refine below_drewN ?_ _) | (with_reducible refine Below.setCell ?_ ?_ _) | go_size)⟩
theorem mul_bd {x y X Y M : Int} (hx0 : -X ≤ x) (hx1 : x ≤ X) (hy0 : -Y ≤ y) (hy1 : y ≤ Y) (hX : 0 ≤ X) (hY : 0 ≤ Y) (hM : X * Y ≤ M) : -M ≤ x * y ∧ x * y ≤ M := by
  have h : (x * y).natAbs ≤ (X * Y).natAbs := by
    rw [Int.natAbs_mul, Int.natAbs_mul]
    exact Nat.mul_le_mul (by omega) (by omega)
  have h0 : 0 ≤ X * Y := Int.mul_nonneg hX hY
  omega
set_option maxHeartbeats 8000000 in
theorem DrawSquareRootOf_any {A : Option Addr} {l c : Nat} {w : World} (hB : Bytes w A l) :
    Calls Tryd.prog 32 #[.slice A l c] w fun e w' => (∃ x y : Int, Hid (I64 x ∧ I64 y) ∧ e = .returned (.agg #[.int .i64 x, .int .i64 y])) ∧ Below w.heap.size w w' := by
  have HB := Lib.hid hB
  clear hB
  go_enter Tryd.func32, Tryd.ntmps32
  go_wp2_with fail
  (go_at_call 72; refine (anyFraction2 ((HB.out.below (by (repeat' (first | (with_reducible exact Below.refl _ _) | (with_reducible assumption) | (with_reducible refine Below.alloc ?_ ?_ _) | (with_reducible refine Below.drew ?_) | (with_reducible refine below_drewN ?_ _) | (with_reducible refine Below.setCell ?_ ?_ _) | go_size)))).cursorAt (b := w.heap.size + 1) (by simp) rfl) (by omega)).mono ?_; rintro e w1 ⟨⟨x, y, HXY, rfl⟩, C1⟩)
  have HC1 := Lib.hid C1
  clear C1
  have HI := Lib.hid HXY.out.i64
  have s1 : w.heap.size + 1 < w1.heap.size := by have := HC1.out.2.size; simp at this; omega
  have s1a : w.heap.size < w1.heap.size := by omega
  have k1_0 : w1.cell? ⟨w.heap.size, 0, none⟩ = some (.int .i64 0) := HC1.out.keeps (by first | omega | (simp; done) | (simp; omega)) (by omega) (by simp [go_sem, *])
  have f1_0 : w1.frozen? ⟨w.heap.size, 0, none⟩ = false := HC1.out.free (by first | omega | (simp; done) | (simp; omega)) (by omega) (by simp [go_sem, *])
  have k1_1 : w1.cell? ⟨w.heap.size, 1, none⟩ = some (.int .i64 0) := HC1.out.keeps (by first | omega | (simp; done) | (simp; omega)) (by omega) (by simp [go_sem, *])
  have f1_1 : w1.frozen? ⟨w.heap.size, 1, none⟩ = false := HC1.out.free (by first | omega | (simp; done) | (simp; omega)) (by omega) (by simp [go_sem, *])
  have hB1 : Below w.heap.size w w1 := HC1.out.belowOf (by (repeat' (first | (with_reducible exact Below.refl _ _) | (with_reducible assumption) | (with_reducible refine Below.alloc ?_ ?_ _) | (with_reducible refine Below.drew ?_) | (with_reducible refine below_drewN ?_ _) | (with_reducible refine Below.setCell ?_ ?_ _) | go_size))) (by omega) (by simp; omega)
  go_wp2_with fail
  (go_at_call 61; refine (frGood_any x y _).mono ?_; rintro e w2 ⟨rfl, hb2⟩)
  have HC2 := Lib.hid ((HC1.out.alloc _).below hb2)
  have hB2 : Below w.heap.size w w2 := Below.trans (by (repeat' (first | (with_reducible exact Below.refl _ _) | (with_reducible assumption) | (with_reducible refine Below.alloc ?_ ?_ _) | (with_reducible refine Below.drew ?_) | (with_reducible refine below_drewN ?_ _) | (with_reducible refine Below.setCell ?_ ?_ _) | go_size))) (hb2.mono (by go_size))
  have s2 := hb2.size
  simp at s2
  have s2a : w1.heap.size < w2.heap.size := by omega
  have s2b : w.heap.size < w2.heap.size := by omega
  have k2_0 : w2.cell? ⟨w.heap.size, 0, none⟩ = some (.int .i64 0) := by rw [hb2.cell (p := ⟨w.heap.size, 0, none⟩) (by simp; omega)]; simp [go_sem, *]
  have f2_0 : w2.frozen? ⟨w.heap.size, 0, none⟩ = false := by rw [hb2.frozen (p := ⟨w.heap.size, 0, none⟩) (by simp; omega)]; simp [go_sem, *]
  have g2_0 : w2.cell? ⟨w1.heap.size, 0, none⟩ = some (.int .i64 x) := by rw [hb2.cell (p := ⟨w1.heap.size, 0, none⟩) (by simp)]; simp [go_sem, *]
  have k2_1 : w2.cell? ⟨w.heap.size, 1, none⟩ = some (.int .i64 0) := by rw [hb2.cell (p := ⟨w.heap.size, 1, none⟩) (by simp; omega)]; simp [go_sem, *]
  have f2_1 : w2.frozen? ⟨w.heap.size, 1, none⟩ = false := by rw [hb2.frozen (p := ⟨w.heap.size, 1, none⟩) (by simp; omega)]; simp [go_sem, *]
  have g2_1 : w2.cell? ⟨w1.heap.size, 1, none⟩ = some (.int .i64 y) := by rw [hb2.cell (p := ⟨w1.heap.size, 1, none⟩) (by simp)]; simp [go_sem, *]
  clear hb2
  rcases Bool.eq_false_or_eq_true (fracB x y) with hfr | hfr
  · obtain ⟨y0, y1, x0, x1, _⟩ := fracB_range hfr
    rw [hfr]
    rcases Bool.eq_false_or_eq_true (inB x (-30000) 30000) with hin | hin
    · obtain ⟨i0, i1⟩ := inB_iff.1 hin
      by_cases hy : y ≤ 30000
      · have HZ := Lib.hid (show I64 (x * x) ∧ I64 (y * y) from ⟨by have := mul_bd (x := x) (y := x) (X := 30000) (Y := 30000) (M := 900000000) i0 i1 i0 i1 (by omega) (by omega) (by omega); exact ⟨by omega, by omega⟩, by have := mul_bd (x := y) (y := y) (X := 30000) (Y := 30000) (M := 900000000) (by omega) hy (by omega) hy (by omega) (by omega) (by omega); exact ⟨by omega, by omega⟩⟩)
        have q0 := mul_bd (x := x) (y := x) (X := 30000) (Y := 30000) (M := 900000000) i0 i1 i0 i1 (by omega) (by omega) (by omega)
        have q1 := mul_bd (x := y) (y := y) (X := 30000) (Y := 30000) (M := 900000000) (by omega) hy (by omega) hy (by omega) (by omega) (by omega)
        have e0 : IntKind.i64.wrap (x * x) = x * x := IntWalk.i64_in _ (by omega)
        have e1 : IntKind.i64.wrap (y * y) = y * y := IntWalk.i64_in _ (by omega)
        go_wp2_with (go_at_call 43; refine (l1In_any _ _ _ _).mono ?_; rintro e w' ⟨rfl, rfl⟩)
        (go_at_call 73; refine (one_any HC2.out.start (by omega) 4 (by omega) (by omega)).mono ?_; rintro e w3 ⟨⟨z, rfl⟩, C3⟩)
        have HC3 := Lib.hid C3
        clear C3
        have hB3 : Below w.heap.size w w3 := HC3.out.belowOf hB2 (by omega) (by omega)
        have s3 : w2.heap.size ≤ w3.heap.size := HC3.out.2.size
        have s3a : w.heap.size < w3.heap.size := by omega
        have k3_0 : w3.cell? ⟨w.heap.size, 0, none⟩ = some (.int .i64 0) := HC3.out.keeps (by omega) (by omega) k2_0
        have f3_0 : w3.frozen? ⟨w.heap.size, 0, none⟩ = false := HC3.out.free (by omega) (by omega) f2_0
        have g3_0 : w3.cell? ⟨w1.heap.size, 0, none⟩ = some (.int .i64 x) := HC3.out.keeps (by omega) (by omega) g2_0
        have k3_1 : w3.cell? ⟨w.heap.size, 1, none⟩ = some (.int .i64 0) := HC3.out.keeps (by omega) (by omega) k2_1
        have f3_1 : w3.frozen? ⟨w.heap.size, 1, none⟩ = false := HC3.out.free (by omega) (by omega) f2_1
        have g3_1 : w3.cell? ⟨w1.heap.size, 1, none⟩ = some (.int .i64 y) := HC3.out.keeps (by omega) (by omega) g2_1
        cases z
        · skip
          go_wp2
          refine bodyPost_ret (by simp [results, Tryd.results32, go_sem, *]; try rfl) rfl ?_
          exact ⟨⟨_, _, HZ, rfl⟩, by repeat' (first | (with_reducible exact Below.refl _ _) | (with_reducible assumption) | (with_reducible refine Below.alloc ?_ ?_ _) | (with_reducible refine Below.drew ?_) | (with_reducible refine below_drewN ?_ _) | (with_reducible refine Below.setCell ?_ ?_ _) | go_size)⟩
        · skip
          go_wp2
          refine bodyPost_ret (by simp [results, Tryd.results32, go_sem, *]; try rfl) rfl ?_
          exact ⟨⟨_, _, HI, rfl⟩, by repeat' (first | (with_reducible exact Below.refl _ _) | (with_reducible assumption) | (with_reducible refine Below.alloc ?_ ?_ _) | (with_reducible refine Below.drew ?_) | (with_reducible refine below_drewN ?_ _) | (with_reducible refine Below.setCell ?_ ?_ _) | go_size)⟩
      · go_wp2_with (go_at_call 43; refine (l1In_any _ _ _ _).mono ?_; rintro e w' ⟨rfl, rfl⟩)
        refine bodyPost_ret (by simp [results, Tryd.results32, go_sem, *]; try rfl) rfl ?_
        exact ⟨⟨_, _, HI, rfl⟩, by repeat' (first | (with_reducible exact Below.refl _ _) | (with_reducible assumption) | (with_reducible refine Below.alloc ?_ ?_ _) | (with_reducible refine Below.drew ?_) | (with_reducible refine below_drewN ?_ _) | (with_reducible refine Below.setCell ?_ ?_ _) | go_size)⟩
    · go_wp2_with (go_at_call 43; refine (l1In_any _ _ _ _).mono ?_; rintro e w' ⟨rfl, rfl⟩)
      refine bodyPost_ret (by simp [results, Tryd.results32, go_sem, *]; try rfl) rfl ?_
      exact ⟨⟨_, _, HI, rfl⟩, by repeat' (first | (with_reducible exact Below.refl _ _) | (with_reducible assumption) | (with_reducible refine Below.alloc ?_ ?_ _) | (with_reducible refine Below.drew ?_) | (with_reducible refine below_drewN ?_ _) | (with_reducible refine Below.setCell ?_ ?_ _) | go_size)⟩
  · rw [hfr]
    go_wp2
    refine bodyPost_ret (by simp [results, Tryd.results32, go_sem, *]; try rfl) rfl ?_
    exact ⟨⟨_, _, HI, rfl⟩, by repeat' (first | (with_reducible exact Below.refl _ _) | (with_reducible assumption) | (with_reducible refine Below.alloc ?_ ?_ _) | (with_reducible refine Below.drew ?_) | (with_reducible refine below_drewN ?_ _) | (with_reducible refine Below.setCell ?_ ?_ _) | go_size)⟩
end Go.Proofs.YtklhmaegpejdbaaDoor.Dp
