/- The draws of a fraction's text: some string of at most 64 bytes. -/
import Derived.Test.YtklhmaegpejdbaaDoorDrawF
import Derived.Test.YtklhmaegpejdbaaDoorFtT
namespace Go.Proofs.YtklhmaegpejdbaaDoor.Dt
open Go.RowKit
set_option linter.unusedVariables false
set_option linter.unusedSimpArgs false
set_option maxRecDepth 100000
theorem conv_byte (b : UInt8) (x : Int) (hx : x = (b.toNat : Int)) (w : World) :
    (convert 51 9 (.slice (some ⟨w.heap.size, 0, none⟩) 1 1)).run Tryd.prog (w.alloc (.cells #[.int .u8 x] 5)) = .ok (.string ⟨#[b]⟩) (w.alloc (.cells #[.int .u8 x] 5)) := by
  refine Lib.run_convert_whole _ _ _ _ bytesU byteU stringU w.heap.size 0 ⟨#[b]⟩ (fun i hi => ?_) 1
  have hi2 : i < 1 := hi
  obtain rfl : i = 0 := by omega
  have h3 : (((⟨#[b]⟩ : ByteArray)[0]).toNat : Int) = x := hx.symm
  rw [h3]
  simp [go_sem]
theorem index_ba (S : ByteArray) (p : Nat) (hp : p < S.size) (w : World) : (Instr.index 9 (.string S) (.int .i64 (p : Int))).run Tryd.prog w = .ok (.int .u8 ((S[p]'hp).toNat : Int)) w := by
  rw [run_index_string _ _ _ _ _ stringU, dif_pos ⟨by omega, by omega⟩]
  rfl
def ElemsS (w : World) (g m : Nat) : Prop := ∀ k : Nat, k < m → ∃ x : ByteArray, x.size ≤ 64 ∧ w.cell? ⟨g, k, none⟩ = some (.string x)
theorem elemsS_new {w : World} (vs : List ByteArray) {o : Obj} {T : TypeId} (ho : o = .cells (vs.map Value.string).toArray T) (hall : ∀ x ∈ vs, x.size ≤ 64) {m : Nat} (hm : m = vs.length) : ElemsS (w.alloc o) w.heap.size m := by
  subst ho hm
  intro k hk
  refine ⟨vs[k], hall _ (List.getElem_mem hk), ?_⟩
  have hg : (w.alloc (Obj.cells (List.map Value.string vs).toArray T)).heap[w.heap.size]? = some (Obj.cells (List.map Value.string vs).toArray T) := Array.getElem?_push_size
  simp only [World.cell?, hg]
  simp [hk]
set_option maxHeartbeats 4000000 in
theorem of_any {W w : World} {b : Nat} {A : Option Addr} {l c n : Nat} (h : Cu W b A l c n w) (hn : n ≤ 999999990) (g : Nat) (m cap : Nat) (m0 : 1 ≤ m) (m1 : m ≤ 1000000) (he : ElemsS w g m) (hg : g < w.heap.size) (hgb : g ≠ b) :
    Calls Tryd.prog 86 #[.pointer (some ⟨b, 0, none⟩), .slice (some ⟨g, 0, none⟩) m cap] w fun e w' => (∃ x : ByteArray, x.size ≤ 64 ∧ e = .returned (.string x)) ∧ Cu W b A l c (n + 2) w' := by
  have H := Lib.hid h
  have HE := Lib.hid he
  clear h he
  go_enter Tryd.func86, Tryd.ntmps86
  go_wp2_with fail
  (go_at_call 84; refine (pick_any H.out.start (by omega) (m : Int) (by omega) (by omega)).mono ?_; rintro e w1 ⟨⟨x, x0, x1, rfl⟩, C1⟩)
  have HC := Lib.hid C1
  clear C1
  obtain ⟨k, rfl⟩ := Int.eq_ofNat_of_zero_le x0
  obtain ⟨y, y0, hy⟩ := HE.out k (by omega)
  have hc : w1.cell? ⟨g, k, none⟩ = some (.string y) := by
    rw [← hy]; exact World.cell?_of_block (HC.out.2.block g hg (by simp; exact hgb))
  go_wp2
  go_ret
  exact ⟨⟨_, y0, rfl⟩, H.out.trans HC.out⟩
theorem of_new {W w : World} {b : Nat} {A : Option Addr} {l c n : Nat} (h : Cu W b A l c n w) (hn : n ≤ 999999990) (vs : List ByteArray) {o : Obj} {T : TypeId} (ho : o = .cells (vs.map Value.string).toArray T) {m cap : Nat} (hm : m = vs.length) (hv : 1 ≤ vs.length) (hv2 : vs.length ≤ 1000)
    (hall : ∀ x ∈ vs, x.size ≤ 64) :
    Calls Tryd.prog 86 #[.pointer (some ⟨b, 0, none⟩), .slice (some ⟨w.heap.size, 0, none⟩) m cap] (w.alloc o) fun e w' => (∃ x : ByteArray, x.size ≤ 64 ∧ e = .returned (.string x)) ∧ Cu W b A l c (n + 2) w' :=
  of_any (h.alloc o) hn w.heap.size m cap (by omega) (by omega) (elemsS_new vs ho hall hm) (by simp) (by have := h.1.1; omega)
theorem size_ext (S : ByteArray) (a b : Nat) (hb : b ≤ S.size) : (S.extract a b).size = b - a := by
  rw [ByteArray.size_extract]; omega
set_option maxHeartbeats 8000000 in
theorem spoilt_any {W w : World} {b : Nat} {A : Option Addr} {l c n : Nat} (h : Cu W b A l c n w) (hn : n ≤ 999990000) (t p : ByteArray) (ht : t.size ≤ 1000) (hp0 : 1 ≤ p.size) (hp1 : p.size ≤ 200) :
    Calls Tryd.prog 85 #[.pointer (some ⟨b, 0, none⟩), .string t, .string p] w fun e w' => (∃ r : ByteArray, r.size ≤ t.size + 2 ∧ e = .returned (.string r)) ∧ Cu W b A l c (n + 14) w' := by
  have H := Lib.hid h
  clear h
  go_enter Tryd.func85, Tryd.ntmps85
  go_wp2_with fail
  (go_at_call 84; refine (pick_any H.out (by omega) 2 (by omega) (by omega)).mono ?_; rintro e w1 ⟨⟨x, x0, x1, rfl⟩, C1⟩)
  have HC1 := Lib.hid C1
  clear C1
  go_wp2
  go_loopw [1, 7] (fun tv i wr => ∃ (z : Int) (tt : ByteArray) (m : Nat), tv = .string tt ∧ i = .int .i64 z ∧ 0 ≤ z ∧ z ≤ 2 ∧ Hid ((m : Int) = 2 - z) ∧ Hid (tt.size ≤ t.size + m) ∧ Hid (Cu W b A l c (n + 2 + 6 * m) wr)) (fun _ i _ => (intOf i).toNat)
  case atStart => exact ⟨1 + x, t, (1 - x).toNat, rfl, by go_num, by omega, by omega, Lib.hid (by omega), Lib.hid (by omega), Lib.hid (HC1.out.le (by omega))⟩
  case round =>
    clear HC1 H
    obtain ⟨z, tt, m, rfl, rfl, z0, z1, hm, hts, HC⟩ := hrel
    have hm2 : m ≤ 2 := by have := hm.out; omega
    have htl : tt.size ≤ 1002 := by have := hts.out; omega
    by_cases hz : 0 < z
    · by_cases h0 : 0 < tt.size
      · have h0i : (0 : Int) < (tt.size : Int) := by omega
        go_wp2_with fail
        (go_at_call 84; refine (pick_any HC.out (by omega) (tt.size : Int) (by omega) (by omega)).mono ?_; rintro e w2 ⟨⟨i, i0, i1, rfl⟩, C2⟩)
        have HC2 := Lib.hid C2
        clear C2
        obtain ⟨i, rfl⟩ := Int.eq_ofNat_of_zero_le i0
        go_wp2_with fail
        (go_at_call 84; refine (pick_any HC2.out (by omega) (p.size : Int) (by omega) (by omega)).mono ?_; rintro e w3 ⟨⟨j, j0, j1, rfl⟩, C3⟩)
        have HC3 := Lib.hid C3
        clear C3
        obtain ⟨j, rfl⟩ := Int.eq_ofNat_of_zero_le j0
        obtain ⟨by0, hb0⟩ : ∃ by0, p[j]'(by omega) = by0 := ⟨_, rfl⟩
        have kx : ∀ w : World, (Instr.index 9 (.string p) (.int .i64 (j : Int))).run Tryd.prog w = .ok (.int .u8 (by0.toNat : Int)) w := fun w => by rw [index_ba p j (by omega) w, hb0]
        have kc := fun (w : World) => conv_byte by0 (by0.toNat : Int) rfl w
        obtain ⟨s1, HS1⟩ : ∃ s1 : ByteArray, Hid (⟨#[by0]⟩ = s1) := ⟨_, Lib.hid rfl⟩
        have hs1 : s1.size = 1 := by rw [← HS1.out]; rfl
        rw [HS1.out] at kc
        obtain ⟨P1, HP1⟩ : ∃ P, Hid (tt.extract 0 i = P) := ⟨_, Lib.hid rfl⟩
        obtain ⟨P2, HP2⟩ : ∃ P, Hid (tt.extract i tt.size = P) := ⟨_, Lib.hid rfl⟩
        obtain ⟨P3, HP3⟩ : ∃ P, Hid (tt.extract (i + 1) tt.size = P) := ⟨_, Lib.hid rfl⟩
        have n1 : P1.size = i := by rw [← HP1.out, size_ext _ _ _ (by omega)]; omega
        have n2 : P2.size = tt.size - i := by rw [← HP2.out, size_ext _ _ _ (by omega)]
        have n3 : P3.size = tt.size - (i + 1) := by rw [← HP3.out, size_ext _ _ _ (by omega)]
        have k1 : ∀ w : World, (Instr.slice 9 (.string tt) none (some (.int .i64 (i : Int))) none).run Tryd.prog w = .ok (.string P1) w := fun w => by
          rw [run_slice_string_h (ht := stringU) (h0 := by omega) (h2 := by omega), Int.toNat_natCast, HP1.out]
        have k2 : ∀ w : World, (Instr.slice 9 (.string tt) (some (.int .i64 (i : Int))) none none).run Tryd.prog w = .ok (.string P2) w := fun w => by
          rw [run_slice_string_l (ht := stringU) (h0 := by omega) (h1 := by omega), Int.toNat_natCast, HP2.out]
        have k3 : ∀ w : World, (Instr.slice 9 (.string tt) (some (.int .i64 ((i : Int) + 1))) none none).run Tryd.prog w = .ok (.string P3) w := fun w => by
          rw [run_slice_string_l (ht := stringU) (h0 := by omega) (h1 := by omega), show ((i : Int) + 1).toNat = i + 1 by omega, HP3.out]
        have ka := fun (w : World) => run_string_add_sum (P := Tryd.prog) (w := w) P1 s1 (by omega)
        obtain ⟨Q, HQ⟩ : ∃ Q, Hid (P1 ++ s1 = Q) := ⟨_, Lib.hid rfl⟩
        have n4 : Q.size = i + 1 := by rw [← HQ.out, ByteArray.size_append]; omega
        rw [HQ.out] at ka
        have kb2 := fun (w : World) => run_string_add_sum (P := Tryd.prog) (w := w) Q P2 (by omega)
        have kb3 := fun (w : World) => run_string_add_sum (P := Tryd.prog) (w := w) Q P3 (by omega)
        have kd := fun (w : World) => run_string_add_sum (P := Tryd.prog) (w := w) P1 P3 (by omega)
        obtain ⟨R2, HR2⟩ : ∃ R, Hid (Q ++ P2 = R) := ⟨_, Lib.hid rfl⟩
        obtain ⟨R3, HR3⟩ : ∃ R, Hid (Q ++ P3 = R) := ⟨_, Lib.hid rfl⟩
        obtain ⟨R4, HR4⟩ : ∃ R, Hid (P1 ++ P3 = R) := ⟨_, Lib.hid rfl⟩
        have g2 := Lib.hid (show R2.size ≤ tt.size + 1 by rw [← HR2.out, ByteArray.size_append]; omega)
        have g3 := Lib.hid (show R3.size ≤ tt.size + 1 by rw [← HR3.out, ByteArray.size_append]; omega)
        have g4 := Lib.hid (show R4.size ≤ tt.size + 1 by rw [← HR4.out, ByteArray.size_append]; omega)
        rw [HR2.out] at kb2
        rw [HR3.out] at kb3
        rw [HR4.out] at kd
        clear n1 n2 n3 n4 hs1 hb0
        go_wp2_with fail
        (go_at_call 84; refine (pick_any (HC3.out.alloc _) (by omega) 3 (by omega) (by omega)).mono ?_; rintro e w4 ⟨⟨q, q0, q1, rfl⟩, C4⟩)
        have HC4 := Lib.hid C4
        clear C4
        by_cases hq0 : q = 0
        · subst hq0
          go_wp2_with fail
          go_quiet (fail)
          have HC5 := Lib.hid (HC4.out.below (below_drewN2 w4 nq))
          go_wp2
          go_roundw
          case rel => exact ⟨z - 1, R2, m + 1, rfl, by go_num, by omega, by omega, Lib.hid (by have := hm.out; omega), Lib.hid (by have := hts.out; have := g2.out; omega), Lib.hid (HC5.out.le (by omega))⟩
          case measure => simp [intOf]; omega
        have hqb0 : (q == 0) = false := beq_false_of_ne hq0
        by_cases hq1 : q = 1
        · subst hq1
          go_wp2_with fail
          go_quiet (fail)
          have HC5 := Lib.hid (HC4.out.below (below_drewN2 w4 nq))
          go_wp2
          go_roundw
          case rel => exact ⟨z - 1, R3, m + 1, rfl, by go_num, by omega, by omega, Lib.hid (by have := hm.out; omega), Lib.hid (by have := hts.out; have := g3.out; omega), Lib.hid (HC5.out.le (by omega))⟩
          case measure => simp [intOf]; omega
        have hqb1 : (q == 1) = false := beq_false_of_ne hq1
        obtain rfl : q = 2 := by omega
        go_wp2_with fail
        go_quiet (fail)
        have HC5 := Lib.hid (HC4.out.below (below_drewN2 w4 nq))
        go_wp2
        go_roundw
        case rel => exact ⟨z - 1, R4, m + 1, rfl, by go_num, by omega, by omega, Lib.hid (by have := hm.out; omega), Lib.hid (by have := hts.out; have := g4.out; omega), Lib.hid (HC5.out.le (by omega))⟩
        case measure => simp [intOf]; omega
      · have h0i : ¬ (0 : Int) < (tt.size : Int) := by omega
        go_wp2
        go_ret
        exact ⟨⟨tt, by have := hts.out; omega, rfl⟩, HC.out.le (by omega)⟩
    · go_wp2
      go_ret
      exact ⟨⟨tt, by have := hts.out; omega, rfl⟩, HC.out.le (by omega)⟩
theorem ftS_size (n d : Int) (hn0 : -1000000000 ≤ n) (hn1 : n ≤ 1000000000) (hd0 : 1 ≤ d) (hd1 : d ≤ 1000000000) : (ftS n d).size ≤ 43 := by
  have h1 := itoS_size n (by omega) (by omega)
  have h2 := itoS_size d (by omega) (by omega)
  unfold ftS
  split
  · omega
  · rw [ByteArray.size_append, ByteArray.size_append]
    have : (⟨#[47]⟩ : ByteArray).size = 1 := rfl
    omega
set_option maxHeartbeats 8000000 in
theorem DrawParseFraction_any {A : Option Addr} {l c : Nat} {w : World} (hB : Bytes w A l) :
    Calls Tryd.prog 38 #[.slice A l c] w fun e w' => (∃ u : ByteArray, u.size ≤ 64 ∧ e = .returned (.string u)) ∧ Below w.heap.size w w' := by
  have HB := Lib.hid hB
  clear hB
  go_enter Tryd.func38, Tryd.ntmps38
  go_wp2_with fail
  (go_at_call 83; refine (fraction_any (HB.out.cursorAt (b := w.heap.size) (by simp) rfl) (by omega)).mono ?_; rintro e w1 ⟨⟨x, y, HXY, rfl⟩, C1⟩)
  have HC1 := Lib.hid C1
  clear C1
  have s1 : w.heap.size < w1.heap.size := by have := HC1.out.2.size; simp at this; omega
  obtain ⟨y0, y1, x0, x1, _⟩ := fracB_range HXY.out
  have hsz := ftS_size x y x0 x1 y0 y1
  obtain ⟨T, HT⟩ : ∃ T, Hid (ftS x y = T) := ⟨_, Lib.hid rfl⟩
  have HX : Hid (∀ w : World, Calls Tryd.prog 62 #[.agg #[.int .i64 x, .int .i64 y]] w fun e w' => e = .returned (.string T) ∧ Below w.heap.size w w') := Lib.hid (fun w => by rw [← HT.out]; exact frText_any x y x0 x1 y0 y1 w)
  rw [HT.out] at hsz
  go_wp2_with fail
  (go_at_call 62; refine (HX.out _).mono ?_; rintro e w2 ⟨rfl, hb2⟩)
  have HC2 := Lib.hid (HC1.out.below hb2)
  clear hb2
  go_wp2_with fail
  (go_at_call 84; refine (pick_any HC2.out (by omega) 6 (by omega) (by omega)).mono ?_; rintro e w3 ⟨⟨z, z0, z1, rfl⟩, C3⟩)
  have HC3 := Lib.hid C3
  clear C3
  by_cases hz0 : z = 0
  · subst hz0
    go_wp2_with fail
    (go_at_call 85; refine (spoilt_any HC3.out (by omega) T ⟨#[45, 47, 48, 49, 57, 32]⟩ (by omega) (by decide) (by decide)).mono ?_; rintro e w4 ⟨⟨r, hr, rfl⟩, C4⟩)
    have HC4 := Lib.hid C4
    clear C4
    go_wp2
    go_ret
    exact ⟨⟨r, by omega, rfl⟩, HC4.out.belowOf (by repeat' (first | (with_reducible exact Below.refl _ _) | (with_reducible assumption) | (with_reducible refine Below.alloc ?_ ?_ _) | (with_reducible refine Below.drew ?_) | (with_reducible refine below_drewN ?_ _) | (with_reducible refine Below.setCell ?_ ?_ _) | go_size)) (by omega) (by simp)⟩
  have hzb0 : (z == 0) = false := beq_false_of_ne hz0
  by_cases hz1 : z = 1
  · subst hz1
    go_wp2_with fail
    (go_at_call 85; refine (spoilt_any HC3.out (by omega) T ⟨#[45, 47, 48, 49, 57, 32]⟩ (by omega) (by decide) (by decide)).mono ?_; rintro e w4 ⟨⟨r, hr, rfl⟩, C4⟩)
    have HC4 := Lib.hid C4
    clear C4
    go_wp2
    go_ret
    exact ⟨⟨r, by omega, rfl⟩, HC4.out.belowOf (by repeat' (first | (with_reducible exact Below.refl _ _) | (with_reducible assumption) | (with_reducible refine Below.alloc ?_ ?_ _) | (with_reducible refine Below.drew ?_) | (with_reducible refine below_drewN ?_ _) | (with_reducible refine Below.setCell ?_ ?_ _) | go_size)) (by omega) (by simp)⟩
  have hzb1 : (z == 1) = false := beq_false_of_ne hz1
  by_cases hz2 : z = 2
  · subst hz2
    go_wp2_with fail
    (go_at_call 86; refine (of_new HC3.out (by omega) [⟨#[]⟩, ⟨#[45]⟩, ⟨#[48]⟩, ⟨#[45, 48]⟩, ⟨#[49, 47, 49]⟩, ⟨#[50, 47, 52]⟩, ⟨#[47, 50]⟩, ⟨#[49, 48, 48, 48, 48, 48, 48, 48, 48, 48]⟩, ⟨#[49, 48, 48, 48, 48, 48, 48, 48, 48, 49]⟩, ⟨#[49, 47, 45, 50]⟩] rfl rfl (by simp) (by simp) (by decide)).mono ?_; rintro e w4 ⟨⟨r, hr, rfl⟩, C4⟩)
    have HC4 := Lib.hid C4
    clear C4
    go_wp2
    go_ret
    exact ⟨⟨r, by omega, rfl⟩, HC4.out.belowOf (by repeat' (first | (with_reducible exact Below.refl _ _) | (with_reducible assumption) | (with_reducible refine Below.alloc ?_ ?_ _) | (with_reducible refine Below.drew ?_) | (with_reducible refine below_drewN ?_ _) | (with_reducible refine Below.setCell ?_ ?_ _) | go_size)) (by omega) (by simp)⟩
  · have hzb2 : (z == 2) = false := beq_false_of_ne hz2
    go_wp2
    go_ret
    exact ⟨⟨T, by omega, rfl⟩, HC3.out.belowOf (by repeat' (first | (with_reducible exact Below.refl _ _) | (with_reducible assumption) | (with_reducible refine Below.alloc ?_ ?_ _) | (with_reducible refine Below.drew ?_) | (with_reducible refine below_drewN ?_ _) | (with_reducible refine Below.setCell ?_ ?_ _) | go_size)) (by omega) (by simp)⟩
end Go.Proofs.YtklhmaegpejdbaaDoor.Dt
