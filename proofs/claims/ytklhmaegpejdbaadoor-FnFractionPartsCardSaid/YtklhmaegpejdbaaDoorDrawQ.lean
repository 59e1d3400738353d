/- The draw of two bounds: DrawSimplestIn. -/
import Derived.Test.YtklhmaegpejdbaaDoorDrawP
import Derived.Deep.RegionHeld3
import Derived.Deep.DeepCutAuto
namespace Go.Proofs.YtklhmaegpejdbaaDoor.Dq
open Go.RowKit
open Go.Proofs.YtklhmaegpejdbaaDoor.Dp
set_option linter.unusedVariables false
set_option linter.unusedSimpArgs false
set_option maxRecDepth 100000
/-- A box of two cells that is free. -/
def Bx (w : World) (b : Nat) (u0 u1 : Value) : Prop := b < w.heap.size ∧ w.cell? ⟨b, 0, none⟩ = some u0 ∧ w.cell? ⟨b, 1, none⟩ = some u1 ∧ w.frozen? ⟨b, 0, none⟩ = false ∧ w.frozen? ⟨b, 1, none⟩ = false
theorem Bx.same {w w' : World} {b : Nat} {u0 u1 : Value} (h : Bx w b u0 u1) (he : w'.heap[b]? = w.heap[b]?) (hs : w.heap.size ≤ w'.heap.size) : Bx w' b u0 u1 :=
  ⟨by have := h.1; omega, (World.cell?_of_block (a := ⟨b, 0, none⟩) he).trans h.2.1, (World.cell?_of_block (a := ⟨b, 1, none⟩) he).trans h.2.2.1, (World.frozen?_of_block (a := ⟨b, 0, none⟩) he).trans h.2.2.2.1, (World.frozen?_of_block (a := ⟨b, 1, none⟩) he).trans h.2.2.2.2⟩
theorem Bx.below {w w' : World} {b : Nat} {u0 u1 : Value} (h : Bx w b u0 u1) (hb : Below w.heap.size w w') : Bx w' b u0 u1 := h.same (hb.block b h.1) hb.size
theorem Bx.cu {W w : World} {b g : Nat} {A : Option Addr} {l c n : Nat} {u0 u1 : Value} (h : Bx W g u0 u1) (hc : Cu W b A l c n w) (hne : g ≠ b) : Bx w g u0 u1 :=
  h.same (hc.2.block g h.1 (by simp; exact hne)) hc.2.size
theorem Bx.alloc {w : World} {b : Nat} {u0 u1 : Value} (h : Bx w b u0 u1) (o : Obj) : Bx (w.alloc o) b u0 u1 := h.below (alloc_below w o)
theorem Bx.newAt {b : Nat} (w : World) (u0 u1 : Value) (t : TypeId) (h : b = w.heap.size) : Bx (w.alloc (.cells #[u0, u1] t)) b u0 u1 := by
  subst h; exact ⟨by simp, by simp [go_sem], by simp [go_sem], by simp [go_sem], by simp [go_sem]⟩
theorem Bx.set {w : World} {b : Nat} {u0 u1 : Value} (h : Bx w b u0 u1) (v0 v1 : Value) : Bx ((w.setCell ⟨b, 0, none⟩ v0).setCell ⟨b, 1, none⟩ v1) b v0 v1 := by
  obtain ⟨h0, h1, h2, h3, h4⟩ := h
  refine ⟨by simpa using h0, ?_, ?_, by simpa using h3, by simpa using h4⟩
  · rw [curs_far (by omega)]; exact curs_near h1
  · exact curs_near ((curs_far (by omega)).trans h2)
theorem ElemsP.below {w w' : World} {g m : Nat} {P : Int → Prop} (h : ElemsP w g m P) (hg : g < w.heap.size) (hb : Below w.heap.size w w') : ElemsP w' g m P := fun k hk => by
  obtain ⟨x, hx, hc⟩ := h k hk
  exact ⟨x, hx, by rw [hb.cell (p := ⟨g, k, none⟩) hg]; exact hc⟩
theorem frMake_zero (n : Int) (w : World) : Calls Tryd.prog 78 #[.int .i64 n, .int .i64 0] w fun e w' => e = .returned (.tuple #[.agg #[.int .i64 0, .int .i64 0], .bool false]) ∧ Below w.heap.size w w' := by
  go_enter Tryd.func78, Tryd.ntmps78
  go_wp2
  refine bodyPost_ret (by simp [results, Tryd.results78, go_sem, *]; try rfl) rfl ?_
  exact ⟨rfl, by repeat' (first | (with_reducible exact Below.refl _ _) | (with_reducible assumption) | (with_reducible refine Below.alloc ?_ ?_ _) | (with_reducible refine Below.drew ?_) | (with_reducible refine below_drewN ?_ _) | (with_reducible refine Below.setCell ?_ ?_ _) | go_size)⟩
theorem mk64 (n d : Int) : I64 (mkN n d) ∧ I64 (mkE n d) := by
  rcases Bool.eq_false_or_eq_true (mkB n d) with h | h
  · exact frac64 (mk_frac h)
  · unfold mkN mkE; rw [h]; exact ⟨⟨by simp, by simp⟩, ⟨by simp, by simp⟩⟩
theorem amongP_drew {W w : World} {b : Nat} {A : Option Addr} {l c n : Nat} (h : Cu W b A l c n w) (hn : n ≤ 999999990) (vs : List Int) {o : Obj} {T : TypeId} (ho : o = .cells (vs.map (Value.int .i64)).toArray T) {g m cap : Nat} (hg : g = w.heap.size) (hm : m = vs.length) (hv : 1 ≤ vs.length) (hv2 : vs.length ≤ 1000)
    (P : Int → Prop) (hall : ∀ x ∈ vs, P x) :
    Calls Tryd.prog 77 #[.pointer (some ⟨b, 0, none⟩), .slice (some ⟨g, 0, none⟩) m cap] (w.alloc o).drew fun e w' => (∃ x : Int, P x ∧ e = .returned (.int .i64 x)) ∧ Cu W b A l c (n + 2) w' := by
  subst hg
  exact amongP_any ((h.alloc o).below (Below.drew (Below.refl _ _))) hn w.heap.size m cap (by omega) (by omega) P (ElemsP.below (elemsP_new vs ho hall hm) (by simp) (Below.drew (Below.refl _ _))) (by simp) (by have := h.1.1; omega)
theorem amongP_two {W w : World} {b : Nat} {A : Option Addr} {l c n : Nat} (h : Cu W b A l c n w) (hn : n ≤ 999999990) (vs : List Int) {o : Obj} {T : TypeId} (ho : o = .cells (vs.map (Value.int .i64)).toArray T) {g m cap : Nat} (hg : g = w.heap.size) (hm : m = vs.length) (hv : 1 ≤ vs.length) (hv2 : vs.length ≤ 1000)
    (P : Int → Prop) (hall : ∀ x ∈ vs, P x) {u0 u1 : Value} {t : TypeId} :
    Calls Tryd.prog 77 #[.pointer (some ⟨b, 0, none⟩), .slice (some ⟨g, 0, none⟩) m cap] ((w.alloc o).alloc (.cells #[u0, u1] t)).drew fun e w' => (∃ x : Int, P x ∧ e = .returned (.int .i64 x)) ∧ Cu W b A l c (n + 2) w' ∧ Bx w' (w.heap.size + 1) u0 u1 := by
  subst hg
  have hb0 : Below (w.heap.size + 1) (w.alloc o) ((w.alloc o).alloc (.cells #[u0, u1] t)).drew := Below.drew (by have := alloc_below (w.alloc o) (.cells #[u0, u1] t); simpa using this)
  have h1 : Cu W b A l c n ((w.alloc o).alloc (.cells #[u0, u1] t)).drew := ((h.alloc o).alloc _).below (Below.drew (Below.refl _ _))
  have hbx : Bx ((w.alloc o).alloc (.cells #[u0, u1] t)).drew (w.heap.size + 1) u0 u1 := (Bx.newAt (w.alloc o) u0 u1 t (by simp)).below (Below.drew (Below.refl _ _))
  refine (amongP_any h1.start hn w.heap.size m cap (by omega) (by omega) P (ElemsP.below (elemsP_new vs ho hall hm) (by simp) (by simpa using hb0)) (by simp; omega) (by have := h.1.1; omega)).mono ?_
  rintro e w' ⟨hx, C⟩
  exact ⟨hx, ⟨C.1, h1.2.trans C.2⟩, Bx.cu hbx C (by have := h.1.1; omega)⟩
theorem among4 {W w : World} {b : Nat} {A : Option Addr} {l c n : Nat} (h : Cu W b A l c n w) (hn : n ≤ 999999990) {T : TypeId} :
    Calls Tryd.prog 77 #[.pointer (some ⟨b, 0, none⟩), .slice (some ⟨w.heap.size, 0, none⟩) 4 4] (w.alloc (.cells #[.int .i64 2, .int .i64 10, .int .i64 100, .int .i64 700] T)).drew fun e w' => (∃ D : Int, (D = 2 ∨ D = 10 ∨ D = 100 ∨ D = 700) ∧ e = .returned (.int .i64 D)) ∧ Cu W b A l c (n + 2) w' :=
  amongP_drew h hn [2, 10, 100, 700] rfl rfl rfl (by simp) (by simp) _ (by simp)
theorem among4b {W w : World} {b : Nat} {A : Option Addr} {l c n : Nat} (h : Cu W b A l c n w) (hn : n ≤ 999999990) {T t : TypeId} {u0 u1 : Value} :
    Calls Tryd.prog 77 #[.pointer (some ⟨b, 0, none⟩), .slice (some ⟨w.heap.size, 0, none⟩) 4 4] ((w.alloc (.cells #[.int .i64 2, .int .i64 10, .int .i64 100, .int .i64 700] T)).alloc (.cells #[u0, u1] t)).drew fun e w' => (∃ D : Int, (D = 2 ∨ D = 10 ∨ D = 100 ∨ D = 700) ∧ e = .returned (.int .i64 D)) ∧ Cu W b A l c (n + 2) w' ∧ Bx w' (w.heap.size + 1) u0 u1 :=
  amongP_two h hn [2, 10, 100, 700] rfl rfl rfl (by simp) (by simp) _ (by simp)
theorem among4c {W w : World} {b : Nat} {A : Option Addr} {l c n : Nat} (h : Cu W b A l c n w) (hn : n ≤ 999999990) {T t : TypeId} {u0 u1 : Value} :
    Calls Tryd.prog 77 #[.pointer (some ⟨b, 0, none⟩), .slice (some ⟨w.heap.size + 1, 0, none⟩) 4 4] ((w.alloc (.cells #[u0, u1] t)).alloc (.cells #[.int .i64 2, .int .i64 10, .int .i64 100, .int .i64 700] T)).drew fun e w' => (∃ D : Int, (D = 2 ∨ D = 10 ∨ D = 100 ∨ D = 700) ∧ e = .returned (.int .i64 D)) ∧ Cu W b A l c (n + 2) w' ∧ Bx w' w.heap.size u0 u1 := by
  have h1 := h.alloc (.cells #[u0, u1] t)
  refine (amongP_drew h1.start hn [2, 10, 100, 700] rfl (by simp) rfl (by simp) (by simp) (fun D => (D = 2 ∨ D = 10 ∨ D = 100 ∨ D = 700)) (by simp)).mono ?_
  rintro e w' ⟨hx, C⟩
  exact ⟨hx, ⟨C.1, h1.2.trans C.2⟩, Bx.cu (Bx.newAt w u0 u1 t rfl) C (by have := h.1.1; omega)⟩
set_option maxHeartbeats 4000000 in
theorem frAdd_loose {x y D : Int} (h : FrAny x y) (hD : D = 2 ∨ D = 10 ∨ D = 100 ∨ D = 700) (w : World) :
    Calls Tryd.prog 79 #[.agg #[.int .i64 x, .int .i64 y], .agg #[.int .i64 1, .int .i64 D]] w fun e w' => (∃ u v : Int, ∃ bb : Bool, Hid (I64 u ∧ I64 v) ∧ e = .returned (.tuple #[.agg #[.int .i64 u, .int .i64 v], .bool bb])) ∧ Below w.heap.size w w' := by
  obtain ⟨⟨y0, y1⟩, hx⟩ := h
  obtain ⟨M, hM⟩ : ∃ M, IntKind.i64.wrap (y * D) = M := ⟨_, rfl⟩
  obtain ⟨K, hK⟩ : ∃ K, IntKind.i64.wrap (x * D) = K := ⟨_, rfl⟩
  have m0 : M = y * D ∧ -700 ≤ y * D ∧ y * D ≤ 700000000700 := by
    rcases hD with rfl | rfl | rfl | rfl <;> (rw [← hM, IntWalk.i64_in _ (by omega)]; omega)
  have k0 : -700000000700 ≤ K ∧ K ≤ 700000000700 := by
    rcases hx with ⟨a, b⟩ | ⟨rfl, _⟩
    · rcases hD with rfl | rfl | rfl | rfl <;> (rw [← hK, IntWalk.i64_in _ (by omega)]; omega)
    · rcases hD with rfl | rfl | rfl | rfl <;> (rw [← hK]; decide)
  have e1 : IntKind.i64.wrap (1 * y) = y := by rw [Int.one_mul]; exact IntWalk.i64_in _ (by omega)
  have e2 : IntKind.i64.wrap (K + y) = K + y := IntWalk.i64_in _ (by omega)
  have e3 : IntKind.i64.wrap y = y := IntWalk.i64_in _ (by omega)
  obtain ⟨m0, m1, m2⟩ := m0
  rw [← m0] at m1 m2
  clear m0
  by_cases hz : M = 0
  · subst hz
    go_enter Tryd.func79, Tryd.ntmps79
    go_wp2_with (go_at_call 78; refine (frMake_zero _ _).mono ?_; rintro e w1 ⟨rfl, hb1⟩; obtain ⟨hc1, hf1⟩ := bcell hb1; have hB1 : Below w.heap.size w w1 := Below.trans (by repeat' (first | (with_reducible exact Below.refl _ _) | (with_reducible assumption) | (with_reducible refine Below.alloc ?_ ?_ _) | (with_reducible refine Below.drew ?_) | (with_reducible refine below_drewN ?_ _) | (with_reducible refine Below.setCell ?_ ?_ _) | go_size)) (hb1.mono (by go_size)); (have hs1 := hb1.size); (try simp at hs1); (try (have hl1 := Nat.lt_of_succ_le hs1)); (first | (have hz1 : w.heap.size < w1.heap.size := by omega) | (have hz1 : w.heap.size ≤ w1.heap.size := by omega)); (try (have hz2_1 : w2.heap.size < w1.heap.size := by omega)); (try (have hz3_1 : w3.heap.size < w1.heap.size := by omega)); (try (have hz4_1 : w4.heap.size < w1.heap.size := by omega)); (try (have hz5_1 : w5.heap.size < w1.heap.size := by omega)); (try (have hzc_1 : wc.heap.size < w1.heap.size := by omega)); (try (have hy1_1 : w.heap.size + 1 < w1.heap.size := by omega)); (try (have hy2_1 : w.heap.size + 2 < w1.heap.size := by omega)); (try (have hy3_1 : w.heap.size + 3 < w1.heap.size := by omega)))
    refine bodyPost_ret (by simp [results, Tryd.results79, go_sem, *]; try rfl) rfl ?_
    exact ⟨⟨_, _, _, Lib.hid ⟨⟨by omega, by omega⟩, ⟨by omega, by omega⟩⟩, rfl⟩, by repeat' (first | (with_reducible exact Below.refl _ _) | (with_reducible assumption) | (with_reducible refine Below.alloc ?_ ?_ _) | (with_reducible refine Below.drew ?_) | (with_reducible refine below_drewN ?_ _) | (with_reducible refine Below.setCell ?_ ?_ _) | go_size)⟩
  · go_enter Tryd.func79, Tryd.ntmps79
    go_wp2_with (go_at_call 78; refine (frMake_any _ _ hz (by omega) (by omega) (by omega) (by omega) _).mono ?_; rintro e w1 ⟨rfl, hb1⟩; obtain ⟨hc1, hf1⟩ := bcell hb1; have hB1 : Below w.heap.size w w1 := Below.trans (by repeat' (first | (with_reducible exact Below.refl _ _) | (with_reducible assumption) | (with_reducible refine Below.alloc ?_ ?_ _) | (with_reducible refine Below.drew ?_) | (with_reducible refine below_drewN ?_ _) | (with_reducible refine Below.setCell ?_ ?_ _) | go_size)) (hb1.mono (by go_size)); (have hs1 := hb1.size); (try simp at hs1); (try (have hl1 := Nat.lt_of_succ_le hs1)); (first | (have hz1 : w.heap.size < w1.heap.size := by omega) | (have hz1 : w.heap.size ≤ w1.heap.size := by omega)); (try (have hz2_1 : w2.heap.size < w1.heap.size := by omega)); (try (have hz3_1 : w3.heap.size < w1.heap.size := by omega)); (try (have hz4_1 : w4.heap.size < w1.heap.size := by omega)); (try (have hz5_1 : w5.heap.size < w1.heap.size := by omega)); (try (have hzc_1 : wc.heap.size < w1.heap.size := by omega)); (try (have hy1_1 : w.heap.size + 1 < w1.heap.size := by omega)); (try (have hy2_1 : w.heap.size + 2 < w1.heap.size := by omega)); (try (have hy3_1 : w.heap.size + 3 < w1.heap.size := by omega)))
    refine bodyPost_ret (by simp [results, Tryd.results79, go_sem, *]; try rfl) rfl ?_
    exact ⟨⟨_, _, _, Lib.hid (mk64 _ _), rfl⟩, by repeat' (first | (with_reducible exact Below.refl _ _) | (with_reducible assumption) | (with_reducible refine Below.alloc ?_ ?_ _) | (with_reducible refine Below.drew ?_) | (with_reducible refine below_drewN ?_ _) | (with_reducible refine Below.setCell ?_ ?_ _) | go_size)⟩
set_option maxHeartbeats 8000000 in
theorem DrawSimplestIn_any {A : Option Addr} {l c : Nat} {w : World} (hB : Bytes w A l) :
    Calls Tryd.prog 35 #[.slice A l c] w fun e w' => (∃ x0 y0 x1 y1 : Int, Hid (I64 x0 ∧ I64 y0 ∧ I64 x1 ∧ I64 y1) ∧ e = .returned (.tuple #[.agg #[.int .i64 x0, .int .i64 y0], .agg #[.int .i64 x1, .int .i64 y1]])) ∧ Below w.heap.size w w' := by
  have HB := Lib.hid hB
  clear hB
  go_enter Tryd.func35, Tryd.ntmps35
  go_wp2_with fail
  (go_at_call 73; refine (one_any ((HB.out.below (by (repeat' (first | (with_reducible exact Below.refl _ _) | (with_reducible assumption) | (with_reducible refine Below.alloc ?_ ?_ _) | (with_reducible refine Below.drew ?_) | (with_reducible refine below_drewN ?_ _) | (with_reducible refine Below.setCell ?_ ?_ _) | go_size)))).cursorAt (b := w.heap.size + 1 + 1) (by simp) rfl) (by omega) 6 (by omega) (by omega)).mono ?_; rintro e w1 ⟨⟨z, rfl⟩, C1⟩)
  have HC1 := Lib.hid C1
  have X0 : Hid (Bx w1 (w.heap.size) (.int .i64 0) (.int .i64 0)) := Lib.hid (Bx.cu (((Bx.newAt w _ _ 37 rfl).alloc _).alloc _) C1 (by omega))
  have X1 : Hid (Bx w1 (w.heap.size + 1) (.int .i64 0) (.int .i64 0)) := Lib.hid (Bx.cu ((Bx.newAt (b := w.heap.size + 1) (w.alloc _) _ _ 37 (by simp)).alloc _) C1 (by omega))
  clear C1
  have s1 : w.heap.size + 1 + 1 < w1.heap.size := by have := HC1.out.2.size; simp at this; omega
  have hB1 : Below w.heap.size w w1 := HC1.out.belowOf (by (repeat' (first | (with_reducible exact Below.refl _ _) | (with_reducible assumption) | (with_reducible refine Below.alloc ?_ ?_ _) | (with_reducible refine Below.drew ?_) | (with_reducible refine below_drewN ?_ _) | (with_reducible refine Below.setCell ?_ ?_ _) | go_size))) (by omega) (by simp; omega)
  cases z
  · skip
    go_wp2_with fail
    (go_at_call 72; refine (anyFraction2 HC1.out.start (by omega)).mono ?_; rintro e w2 ⟨⟨x, y, HXY, rfl⟩, C2⟩)
    have HC2 := Lib.hid C2
    clear C2
    go_wp2_with fail
    (go_at_call 72; refine (anyFraction2 HC2.out.start (by omega)).mono ?_; rintro e w3 ⟨⟨u, v, HUV, rfl⟩, C3⟩)
    have HC3 := Lib.hid C3
    clear C3
    have s2 : w1.heap.size ≤ w2.heap.size := HC2.out.2.size
    have s3 : w2.heap.size ≤ w3.heap.size := HC3.out.2.size
    have hB3 : Below w.heap.size w w3 := HC3.out.belowOf (HC2.out.belowOf hB1 (by omega) (by omega)) (by omega) (by omega)
    replace X0 := Lib.hid ((X0.out.cu HC2.out (by omega)).cu HC3.out (by omega))
    replace X1 := Lib.hid ((X1.out.cu HC2.out (by omega)).cu HC3.out (by omega))
    go_wp2_with fail
    (go_at_call 73; refine (one_any ((HC3.out.alloc _).alloc _).start (by omega) 3 (by omega) (by omega)).mono ?_; rintro e w4 ⟨⟨z2, rfl⟩, C4⟩)
    have HC4 := Lib.hid C4
    have X8 : Hid (Bx w4 w3.heap.size (.int .i64 x) (.int .i64 y)) := Lib.hid (Bx.cu ((Bx.newAt w3 _ _ 37 rfl).alloc _) C4 (by omega))
    have X9 : Hid (Bx w4 (w3.heap.size + 1) (.int .i64 u) (.int .i64 v)) := Lib.hid (Bx.cu (Bx.newAt (b := w3.heap.size + 1) (w3.alloc _) _ _ 37 (by simp)) C4 (by omega))
    replace X0 := Lib.hid (((X0.out.alloc _).alloc _).cu C4 (by omega))
    replace X1 := Lib.hid (((X1.out.alloc _).alloc _).cu C4 (by omega))
    have s4 : w3.heap.size + 1 < w4.heap.size := by have := HC4.out.2.size; simp at this; omega
    have hB4 : Below w.heap.size w w4 := HC4.out.belowOf (by (repeat' (first | (with_reducible exact Below.refl _ _) | (with_reducible assumption) | (with_reducible refine Below.alloc ?_ ?_ _) | (with_reducible refine Below.drew ?_) | (with_reducible refine below_drewN ?_ _) | (with_reducible refine Below.setCell ?_ ?_ _) | go_size))) (by omega) (by simp; omega)
    clear C4
    go_upto_if 35 with fail
    go_cut [] from 1 to 0 (fun wx => Hid (Cu w4 (w.heap.size + 1 + 1) A l c 100 wx))
    case first =>
      cases z2
      · go_wp2
        go_meet
        exact Lib.hid (HC4.out.start.le (by omega))
      · skip
        go_upto_region 8 with fail
        go_cut [10, 11] from 1 to 0 (fun sa sb wx => ∃ (g : Nat) (p q : Int) (bb : Bool), sa = .pointer (some ⟨g, 0, none⟩) ∧ sb = .bool bb ∧ Hid (I64 p ∧ I64 q) ∧ Hid (Cu w4 (w.heap.size + 1 + 1) A l c 60 wx) ∧ Hid (Bx wx g (.int .i64 p) (.int .i64 q)) ∧ w4.heap.size ≤ g)
        case first =>
          obtain ⟨oX80, oX81, oX82, oX83, oX84⟩ := X8.out
          go_wp2_with fail
          go_region_held3 (fun w' => w'.cell? ⟨w3.heap.size, 0, none⟩ = some (.int .i64 x) ∧ w'.cell? ⟨w3.heap.size, 1, none⟩ = some (.int .i64 y)) ((first | exact ⟨by with_reducible assumption, by with_reducible assumption⟩ | ((try dsimp only); (repeat' apply And.intro); all_goals (first | (with_reducible assumption) | (go_keep; done) | (simp [go_sem]; done) | (simp [go_sem, *]; done))))) (first | (go_at_call 77; (have K4 := fun T => among4 (T := T) HC4.out.start (by omega)); (with_reducible refine (K4 _).mono ?_); clear K4; rintro e w5 ⟨⟨D, hD, rfl⟩, C5⟩; (have HC5 := Lib.hid C5); (have s5 : w4.heap.size ≤ w5.heap.size := C5.2.size); clear C5; obtain ⟨p50, p51, p52, p53, p54⟩ := X8.out.cu HC5.out (by omega)) | (go_at_call 77; (have K4 := fun T t u0 u1 => among4b (T := T) (t := t) (u0 := u0) (u1 := u1) HC4.out.start (by omega)); (with_reducible refine (K4 _ _ _ _).mono ?_); clear K4; rintro e w5 ⟨⟨D, hD, rfl⟩, C5, B5⟩; (have HC5 := Lib.hid C5); (have s5 : w4.heap.size ≤ w5.heap.size := C5.2.size); clear C5; obtain ⟨p50, p51, p52, p53, p54⟩ := X8.out.cu HC5.out (by omega); (have bx := Lib.hid B5); clear B5) | (go_at_call 77; (have K4 := fun T t u0 u1 => among4c (T := T) (t := t) (u0 := u0) (u1 := u1) HC4.out.start (by omega)); (with_reducible refine (K4 _ _ _ _).mono ?_); clear K4; rintro e w5 ⟨⟨D, hD, rfl⟩, C5, B5⟩; (have HC5 := Lib.hid C5); (have s5 : w4.heap.size ≤ w5.heap.size := C5.2.size); clear C5; obtain ⟨p50, p51, p52, p53, p54⟩ := X8.out.cu HC5.out (by omega); (have bx := Lib.hid B5); clear B5) | (go_at_call 77; trace_state; fail) | (go_at_call 79; refine (frAdd_loose HXY.out hD _).mono ?_; rintro e w6 ⟨⟨p, q, bb, HPQ, rfl⟩, hb6⟩; (have HC6 := Lib.hid ((HC5.out.below (by (repeat' (first | (with_reducible exact Below.refl _ _) | (with_reducible assumption) | (with_reducible refine Below.alloc ?_ ?_ _) | (with_reducible refine Below.drew ?_) | (with_reducible refine below_drewN ?_ _) | (with_reducible refine Below.setCell ?_ ?_ _) | go_size)))).below hb6)); (have s6 : w5.heap.size ≤ w6.heap.size := by have := hb6.size; (try simp at this); omega); (first | (have bx6 := Lib.hid ((bx.out.below (by (repeat' (first | (with_reducible exact Below.refl _ _) | (with_reducible assumption) | (with_reducible refine Below.alloc ?_ ?_ _) | (with_reducible refine Below.drew ?_) | (with_reducible refine below_drewN ?_ _) | (with_reducible refine Below.setCell ?_ ?_ _) | go_size)))).below hb6)) | (have bx6 : Hid (Bx w6 w5.heap.size (.int .i64 0) (.int .i64 0)) := Lib.hid (Bx.below ⟨by first | omega | (simp; done) | (simp; omega), by simp [go_sem], by simp [go_sem], by simp [go_sem], by simp [go_sem]⟩ hb6)) | skip); (try (obtain ⟨r60, r61, r62, r63, r64⟩ := bx6.out)); obtain ⟨p60, p61, p62, p63, p64⟩ := X8.out.cu HC6.out (by omega)))
          all_goals (go_wp2_with fail; go_meet; (first | exact ⟨_, p, q, bb, rfl, rfl, HPQ, Lib.hid ((HC6.out.alloc _).le (by omega)), Lib.hid (Bx.newAt _ _ _ _ rfl), by omega⟩ | exact ⟨_, p, q, bb, rfl, rfl, HPQ, Lib.hid ((Cu.write (Cu.write HC6.out _ _ _ (by omega) (by omega)) _ _ _ (by omega) (by omega)).le (by omega)), Lib.hid (bx6.out.set _ _), by omega⟩))
        case rest =>
          rename World => w7
          obtain ⟨g, p, q, bb, rfl, rfl, HPQ, HC7, XG, hgw⟩ := hcut
          replace X0 := Lib.hid (X0.out.cu HC7.out (by omega))
          replace X1 := Lib.hid (X1.out.cu HC7.out (by omega))
          replace X8 := Lib.hid (X8.out.cu HC7.out (by omega))
          have hB7 : Below w.heap.size w w7 := HC7.out.belowOf hB4 (by omega) (by omega)
          have s7 : w4.heap.size ≤ w7.heap.size := HC7.out.2.size
          cases bb
          · go_wp2
            go_meet
            exact Lib.hid (HC7.out.le (by omega))
          · skip
            obtain ⟨oX80, oX81, oX82, oX83, oX84⟩ := X8.out
            go_wp2_with fail
            (go_at_call 61; refine (frGood_any x y _).mono ?_; rintro e w8 ⟨rfl, hb8⟩)
            clear oX80 oX81 oX82 oX83 oX84
            replace X0 := Lib.hid (X0.out.below hb8)
            replace X1 := Lib.hid (X1.out.below hb8)
            replace X8 := Lib.hid (X8.out.below hb8)
            replace XG := Lib.hid (XG.out.below hb8)
            have HC8 := Lib.hid (HC7.out.below hb8)
            have hB8 : Below w.heap.size w w8 := hB7.trans (hb8.mono (by omega))
            have s8 := hb8.size
            clear hb8
            rcases Bool.eq_false_or_eq_true (fracB x y) with hfr | hfr
            · rw [hfr]
              obtain ⟨oX00, oX01, oX02, oX03, oX04⟩ := X0.out
              obtain ⟨oX10, oX11, oX12, oX13, oX14⟩ := X1.out
              obtain ⟨oX80, oX81, oX82, oX83, oX84⟩ := X8.out
              obtain ⟨oXG0, oXG1, oXG2, oXG3, oXG4⟩ := XG.out
              go_wp2_with fail
              go_region
              all_goals
                go_wp2
                refine bodyPost_ret (by simp [results, Tryd.results35, go_sem, *]; try rfl) rfl ?_
                exact ⟨⟨x, y, p, q, Lib.hid ⟨HXY.out.i64.1, HXY.out.i64.2, HPQ.out.1, HPQ.out.2⟩, rfl⟩, by repeat' (first | (with_reducible exact Below.refl _ _) | (with_reducible assumption) | (with_reducible refine Below.alloc ?_ ?_ _) | (with_reducible refine Below.drew ?_) | (with_reducible refine below_drewN ?_ _) | (with_reducible refine Below.setCell ?_ ?_ _) | go_size)⟩
            · rw [hfr]
              go_wp2
              go_meet
              exact Lib.hid (HC8.out.le (by omega))
    case rest =>
      rename World => w5
      have HC5 := hcut
      replace X0 := Lib.hid (X0.out.cu HC5.out (by omega))
      replace X1 := Lib.hid (X1.out.cu HC5.out (by omega))
      replace X8 := Lib.hid (X8.out.cu HC5.out (by omega))
      replace X9 := Lib.hid (X9.out.cu HC5.out (by omega))
      have hB5 : Below w.heap.size w w5 := HC5.out.belowOf hB4 (by omega) (by omega)
      have s5 : w4.heap.size ≤ w5.heap.size := HC5.out.2.size
      obtain ⟨oX80, oX81, oX82, oX83, oX84⟩ := X8.out
      obtain ⟨oX90, oX91, oX92, oX93, oX94⟩ := X9.out
      go_wp2_with fail
      (go_at_call 80; refine (frTwo_any x y u v _).mono ?_; rintro e w6 ⟨rfl, hb6⟩)
      clear oX80 oX81 oX82 oX83 oX84 oX90 oX91 oX92 oX93 oX94
      replace X0 := Lib.hid (X0.out.below hb6)
      replace X1 := Lib.hid (X1.out.below hb6)
      replace X8 := Lib.hid (X8.out.below hb6)
      replace X9 := Lib.hid (X9.out.below hb6)
      have HC6 := Lib.hid (HC5.out.below hb6)
      have hB6 : Below w.heap.size w w6 := hB5.trans (hb6.mono (by omega))
      have s6 := hb6.size
      clear hb6
      rcases Bool.eq_false_or_eq_true (twoB x y u v) with ht | ht
      · rw [ht]
        obtain ⟨oX80, oX81, oX82, oX83, oX84⟩ := X8.out
        obtain ⟨oX90, oX91, oX92, oX93, oX94⟩ := X9.out
        go_wp2_with fail
        (go_at_call 81; refine (frLess_any u v x y _).mono ?_; rintro e w7 ⟨rfl, hb7⟩)
        clear oX80 oX81 oX82 oX83 oX84 oX90 oX91 oX92 oX93 oX94
        replace X0 := Lib.hid (X0.out.below hb7)
        replace X1 := Lib.hid (X1.out.below hb7)
        replace X8 := Lib.hid (X8.out.below hb7)
        replace X9 := Lib.hid (X9.out.below hb7)
        have HC7 := Lib.hid (HC6.out.below hb7)
        have hB7 : Below w.heap.size w w7 := hB6.trans (hb7.mono (by omega))
        have s7 := hb7.size
        clear hb7
        rcases Bool.eq_false_or_eq_true (lessB u v x y) with hl | hl
        · rw [hl]
          go_wp2_with fail
          (go_at_call 73; refine (one_any HC7.out.start (by omega) 12 (by omega) (by omega)).mono ?_; rintro e w8 ⟨⟨z3, rfl⟩, C8⟩)
          replace X0 := Lib.hid (X0.out.cu C8 (by omega))
          replace X1 := Lib.hid (X1.out.cu C8 (by omega))
          replace X8 := Lib.hid (X8.out.cu C8 (by omega))
          replace X9 := Lib.hid (X9.out.cu C8 (by omega))
          have hB8 : Below w.heap.size w w8 := C8.belowOf hB7 (by omega) (by omega)
          have s8 : w7.heap.size ≤ w8.heap.size := C8.2.size
          clear C8
          cases z3
          · skip
            obtain ⟨oX00, oX01, oX02, oX03, oX04⟩ := X0.out
            obtain ⟨oX10, oX11, oX12, oX13, oX14⟩ := X1.out
            obtain ⟨oX80, oX81, oX82, oX83, oX84⟩ := X8.out
            obtain ⟨oX90, oX91, oX92, oX93, oX94⟩ := X9.out
            go_wp2_with fail
            go_region
            all_goals
              go_wp2
              refine bodyPost_ret (by simp [results, Tryd.results35, go_sem, *]; try rfl) rfl ?_
              exact ⟨⟨u, v, x, y, Lib.hid ⟨HUV.out.i64.1, HUV.out.i64.2, HXY.out.i64.1, HXY.out.i64.2⟩, rfl⟩, by repeat' (first | (with_reducible exact Below.refl _ _) | (with_reducible assumption) | (with_reducible refine Below.alloc ?_ ?_ _) | (with_reducible refine Below.drew ?_) | (with_reducible refine below_drewN ?_ _) | (with_reducible refine Below.setCell ?_ ?_ _) | go_size)⟩
          · skip
            obtain ⟨oX00, oX01, oX02, oX03, oX04⟩ := X0.out
            obtain ⟨oX10, oX11, oX12, oX13, oX14⟩ := X1.out
            obtain ⟨oX80, oX81, oX82, oX83, oX84⟩ := X8.out
            obtain ⟨oX90, oX91, oX92, oX93, oX94⟩ := X9.out
            go_wp2_with fail
            go_region
            all_goals
              go_wp2
              refine bodyPost_ret (by simp [results, Tryd.results35, go_sem, *]; try rfl) rfl ?_
              exact ⟨⟨x, y, u, v, Lib.hid ⟨HXY.out.i64.1, HXY.out.i64.2, HUV.out.i64.1, HUV.out.i64.2⟩, rfl⟩, by repeat' (first | (with_reducible exact Below.refl _ _) | (with_reducible assumption) | (with_reducible refine Below.alloc ?_ ?_ _) | (with_reducible refine Below.drew ?_) | (with_reducible refine below_drewN ?_ _) | (with_reducible refine Below.setCell ?_ ?_ _) | go_size)⟩
        · rw [hl]
          obtain ⟨oX00, oX01, oX02, oX03, oX04⟩ := X0.out
          obtain ⟨oX10, oX11, oX12, oX13, oX14⟩ := X1.out
          obtain ⟨oX80, oX81, oX82, oX83, oX84⟩ := X8.out
          obtain ⟨oX90, oX91, oX92, oX93, oX94⟩ := X9.out
          go_wp2_with fail
          go_region
          all_goals
            go_wp2
            refine bodyPost_ret (by simp [results, Tryd.results35, go_sem, *]; try rfl) rfl ?_
            exact ⟨⟨x, y, u, v, Lib.hid ⟨HXY.out.i64.1, HXY.out.i64.2, HUV.out.i64.1, HUV.out.i64.2⟩, rfl⟩, by repeat' (first | (with_reducible exact Below.refl _ _) | (with_reducible assumption) | (with_reducible refine Below.alloc ?_ ?_ _) | (with_reducible refine Below.drew ?_) | (with_reducible refine below_drewN ?_ _) | (with_reducible refine Below.setCell ?_ ?_ _) | go_size)⟩
      · rw [ht]
        obtain ⟨oX00, oX01, oX02, oX03, oX04⟩ := X0.out
        obtain ⟨oX10, oX11, oX12, oX13, oX14⟩ := X1.out
        obtain ⟨oX80, oX81, oX82, oX83, oX84⟩ := X8.out
        obtain ⟨oX90, oX91, oX92, oX93, oX94⟩ := X9.out
        go_wp2_with fail
        go_region
        all_goals
          go_wp2
          refine bodyPost_ret (by simp [results, Tryd.results35, go_sem, *]; try rfl) rfl ?_
          exact ⟨⟨x, y, u, v, Lib.hid ⟨HXY.out.i64.1, HXY.out.i64.2, HUV.out.i64.1, HUV.out.i64.2⟩, rfl⟩, by repeat' (first | (with_reducible exact Below.refl _ _) | (with_reducible assumption) | (with_reducible refine Below.alloc ?_ ?_ _) | (with_reducible refine Below.drew ?_) | (with_reducible refine below_drewN ?_ _) | (with_reducible refine Below.setCell ?_ ?_ _) | go_size)⟩
  · skip
    go_wp2_with fail
    (go_at_call 77; refine (among_new HC1.out.start (by omega) [999, 1000, 1001, 1000000] rfl rfl (by simp) (by simp) 999 1000000 (by simp)).mono ?_; rintro e w2 ⟨⟨n, n0, n1, rfl⟩, C2⟩)
    have HC2 := Lib.hid C2
    replace X0 := Lib.hid (X0.out.cu C2 (by omega))
    replace X1 := Lib.hid (X1.out.cu C2 (by omega))
    have s2 : w1.heap.size ≤ w2.heap.size := C2.2.size
    have hB2 : Below w.heap.size w w2 := C2.belowOf hB1 (by omega) (by omega)
    clear C2
    have ht : n.tdiv 2 = n / 2 := Int.tdiv_eq_ediv_of_nonneg (by omega)
    go_wp2_with fail
    (go_at_call 78; refine (frMake_any _ n (by omega) (by omega) (by omega) (by omega) (by omega) _).mono ?_; rintro e w3 ⟨rfl, hb3⟩)
    replace X0 := Lib.hid (X0.out.below hb3)
    replace X1 := Lib.hid (X1.out.below hb3)
    have s3 := hb3.size
    have hB3 : Below w.heap.size w w3 := hB2.trans (hb3.mono (by omega))
    clear hb3
    obtain ⟨oX00, oX01, oX02, oX03, oX04⟩ := X0.out
    obtain ⟨oX10, oX11, oX12, oX13, oX14⟩ := X1.out
    go_wp2_with fail
    go_region
    all_goals
      go_wp2
      refine bodyPost_ret (by simp [results, Tryd.results35, go_sem, *]; try rfl) rfl ?_
      exact ⟨⟨_, _, _, _, Lib.hid ⟨(mk64 _ _).1, (mk64 _ _).2, (mk64 _ _).1, (mk64 _ _).2⟩, rfl⟩, by repeat' (first | (with_reducible exact Below.refl _ _) | (with_reducible assumption) | (with_reducible refine Below.alloc ?_ ?_ _) | (with_reducible refine Below.drew ?_) | (with_reducible refine below_drewN ?_ _) | (with_reducible refine Below.setCell ?_ ?_ _) | go_size)⟩
end Go.Proofs.YtklhmaegpejdbaaDoor.Dq
