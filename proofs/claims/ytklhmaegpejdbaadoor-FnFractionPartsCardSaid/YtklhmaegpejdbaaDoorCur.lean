/- spec.l1Cur: the cursor's next, pick, among, one. What is drawn is any number within bounds. -/
import Derived.Test.YtklhmaegpejdbaaDoorInts
import Derived.Deep.DeepCutAuto
import Derived.Maps.AppendAt
import Derived.Laws.BitsAllLaws
namespace Go.Proofs.YtklhmaegpejdbaaDoor
open Go.RowKit
set_option linter.unusedVariables false
set_option linter.unusedSimpArgs false
set_option maxRecDepth 100000
theorem curs_far {w : World} {b o b' o' : Nat} {u : Value} (h : b ≠ b' ∨ o ≠ o') : (w.setCell ⟨b, o, none⟩ u).cell? ⟨b', o', none⟩ = w.cell? ⟨b', o', none⟩ :=
  Go.World.cell?_setCell_other _ _ _ _ (fun e => by cases e; omega)
theorem curs_near {w : World} {b o : Nat} {u x : Value} (h : w.cell? ⟨b, o, none⟩ = some x) : (w.setCell ⟨b, o, none⟩ u).cell? ⟨b, o, none⟩ = some u := Go.World.cell?_setCell_same _ _ _ h
theorem grownBy_setC (w : World) (b o : Nat) (u : Value) : w.grownBy (w.setCell ⟨b, o, none⟩ u) (some b) :=
  ⟨rfl, rfl, rfl, by simp, fun k _ hk => Below.heap_setCell _ _ _ k (fun e => hk (by rw [e]))⟩
/-- Block b is a cursor over the bytes (A, l, c), which lie below b; at most n have been taken. -/
def Curs (w : World) (b : Nat) (A : Option Addr) (l c n : Nat) : Prop :=
  b < w.heap.size ∧ (∀ k : Nat, k < l → ∃ B O : Nat, A = some ⟨B, O, none⟩ ∧ B < b ∧ ∃ x : Int, 0 ≤ x ∧ x ≤ 255 ∧ w.cell? ⟨B, O + k, none⟩ = some (.int .u8 x)) ∧
  l ≤ 9223372036854775807 ∧ w.cell? ⟨b, 0, none⟩ = some (.slice A l c) ∧
  (∃ t : Nat, t ≤ n ∧ w.cell? ⟨b, 1, none⟩ = some (.int .i64 (t : Int))) ∧ (∃ s : Int, 0 ≤ s ∧ s ≤ 18446744073709551615 ∧ w.cell? ⟨b, 2, none⟩ = some (.int .u64 s)) ∧
  w.frozen? ⟨b, 0, none⟩ = false ∧ w.frozen? ⟨b, 1, none⟩ = false ∧ w.frozen? ⟨b, 2, none⟩ = false
/-- From the world W on only the cursor b has turned. -/
def Cu (W : World) (b : Nat) (A : Option Addr) (l c n : Nat) (w : World) : Prop := Curs w b A l c n ∧ W.grownBy w (some b)
theorem Curs.kept {w w' : World} {b : Nat} {A : Option Addr} {l c n : Nat} (h : Curs w b A l c n) (hb : Below w.heap.size w w') : Curs w' b A l c n := by
  obtain ⟨h0, h1, h2, h3, ⟨t, ht, h4⟩, ⟨s, s0, s1, h5⟩, f0, f1, f2⟩ := h
  have hc := fun (B o : Nat) (h : B < w.heap.size) => hb.cell (p := ⟨B, o, none⟩) h
  have hf := fun (B o : Nat) (h : B < w.heap.size) => hb.frozen (p := ⟨B, o, none⟩) h
  refine ⟨Nat.lt_of_lt_of_le h0 hb.size, fun k hk => ?_, h2, by rw [hc _ _ h0]; exact h3, ⟨t, ht, by rw [hc _ _ h0]; exact h4⟩, ⟨s, s0, s1, by rw [hc _ _ h0]; exact h5⟩, by rw [hf _ _ h0]; exact f0, by rw [hf _ _ h0]; exact f1, by rw [hf _ _ h0]; exact f2⟩
  obtain ⟨B, O, e, hlt, x, x0, x1, hx⟩ := h1 k hk
  exact ⟨B, O, e, hlt, x, x0, x1, by rw [hc _ _ (by omega)]; exact hx⟩
theorem Cu.below {W w w' : World} {b : Nat} {A : Option Addr} {l c n : Nat} (h : Cu W b A l c n w) (hb : Below w.heap.size w w') : Cu W b A l c n w' :=
  ⟨h.1.kept hb, h.2.trans ⟨hb.os, hb.tape, hb.output, hb.size, fun i hi _ => hb.block i hi⟩⟩
theorem Cu.le {W w : World} {b : Nat} {A : Option Addr} {l c n m : Nat} (h : Cu W b A l c n w) (hm : n ≤ m) : Cu W b A l c m w := by
  obtain ⟨⟨h0, h1, h2, h3, ⟨t, ht, h4⟩, h5⟩, hg⟩ := h
  exact ⟨⟨h0, h1, h2, h3, ⟨t, by omega, h4⟩, h5⟩, hg⟩
theorem Cu.start {W w : World} {b : Nat} {A : Option Addr} {l c n : Nat} (h : Cu W b A l c n w) : Cu w b A l c n w := ⟨h.1, World.grownBy.refl _ _⟩
theorem Cu.trans {W w w' : World} {b : Nat} {A : Option Addr} {l c n m : Nat} (h : Cu W b A l c n w) (k : Cu w b A l c m w') : Cu W b A l c m w' := ⟨k.1, h.2.trans k.2⟩
theorem Curs.set1 {w : World} {b : Nat} {A : Option Addr} {l c n : Nat} (h : Curs w b A l c n) (t : Nat) (ht : t ≤ n + 1) : Curs (w.setCell ⟨b, 1, none⟩ (.int .i64 (t : Int))) b A l c (n + 1) := by
  obtain ⟨h0, h1, h2, h3, ⟨t', ht', h4⟩, ⟨s, s0, s1, h5⟩, f0, f1, f2⟩ := h
  refine ⟨by simpa using h0, fun k hk => ?_, h2, ?_, ⟨t, ht, ?_⟩, ⟨s, s0, s1, ?_⟩, by simpa using f0, by simpa using f1, by simpa using f2⟩
  · obtain ⟨B, O, e, hlt, x, x0, x1, hx⟩ := h1 k hk
    exact ⟨B, O, e, hlt, x, x0, x1, by rw [curs_far (by omega)]; exact hx⟩
  · rw [curs_far (by omega)]; exact h3
  · exact curs_near h4
  · rw [curs_far (by omega)]; exact h5
theorem Curs.set2 {w : World} {b : Nat} {A : Option Addr} {l c n : Nat} (h : Curs w b A l c n) (x : Int) (x0 : 0 ≤ x) (x1 : x ≤ 18446744073709551615) : Curs (w.setCell ⟨b, 2, none⟩ (.int .u64 x)) b A l c n := by
  obtain ⟨h0, h1, h2, h3, ⟨t', ht', h4⟩, ⟨s, s0, s1, h5⟩, f0, f1, f2⟩ := h
  refine ⟨by simpa using h0, fun k hk => ?_, h2, ?_, ⟨t', ht', ?_⟩, ⟨x, x0, x1, ?_⟩, by simpa using f0, by simpa using f1, by simpa using f2⟩
  · obtain ⟨B, O, e, hlt, x, x0, x1, hx⟩ := h1 k hk
    exact ⟨B, O, e, hlt, x, x0, x1, by rw [curs_far (by omega)]; exact hx⟩
  · rw [curs_far (by omega)]; exact h3
  · rw [curs_far (by omega)]; exact h4
  · exact curs_near h5
theorem Cu.set {W w : World} {b : Nat} {A : Option Addr} {l c n : Nat} (h : Cu W b A l c n w) (t : Nat) (ht : t ≤ n + 1) (x : Int) (x0 : 0 ≤ x) (x1 : x ≤ 18446744073709551615) :
    Cu W b A l c (n + 1) ((w.setCell ⟨b, 1, none⟩ (.int .i64 (t : Int))).setCell ⟨b, 2, none⟩ (.int .u64 x)) := by
  refine ⟨(h.1.set1 t ht).set2 x x0 x1, (h.2.trans (grownBy_setC _ _ _ _)).trans (grownBy_setC _ _ _ _)⟩
theorem below_drewN2 (w : World) (k : Nat) : Below w.heap.size w (w.drewN k) := below_drewN (Below.refl _ _) k
theorem Cu.next {W w : World} {b : Nat} {A : Option Addr} {l c n : Nat} (h : Cu W b A l c n w) (t : Nat) (ht : t ≤ n) (x : Int) (x0 : 0 ≤ x) (x1 : x ≤ 18446744073709551615) (k m : Nat) :
    Cu W b A l c (n + 1) ((((w.drewN k).setCell ⟨b, 1, none⟩ (.int .i64 ((t : Int) + 1))).setCell ⟨b, 2, none⟩ (.int .u64 x)).drewN m) := by
  have h1 := (h.below (below_drewN2 w k)).set (t + 1) (by omega) x x0 x1
  rw [show ((t + 1 : Nat) : Int) = (t : Int) + 1 by omega] at h1
  exact h1.below (below_drewN2 _ m)
theorem u64_in (x : Int) : 0 ≤ IntKind.u64.wrap x ∧ IntKind.u64.wrap x ≤ 18446744073709551615 := by
  unfold IntKind.wrap
  simp [IntKind.signed, IntKind.bits]
  omega
theorem byte_of (s : Int) (h0 : 0 ≤ s) (h1 : s ≤ 18446744073709551615) : 0 ≤ wrap64 (bits BinOp.and IntKind.u64 (s / 1099511627776) 255) ∧ wrap64 (bits BinOp.and IntKind.u64 (s / 1099511627776) 255) ≤ 255 := by
  have hb := u64_and (s / 1099511627776) 255 (by omega) (by omega) (by omega) (by omega)
  have hle : (s / 1099511627776).toNat &&& (255 : Int).toNat ≤ (255 : Int).toNat := Nat.and_le_right
  rw [hb]
  rw [IntWalk.wrap64_in _ (by simp at hle ⊢; omega)]
  simp at hle ⊢
  omega
set_option maxHeartbeats 4000000 in
theorem next_any {W w : World} {b : Nat} {A : Option Addr} {l c n : Nat} (h : Cu W b A l c n w) (hn : n ≤ 1000000000) :
    Calls Tryd.prog 106 #[.pointer (some ⟨b, 0, none⟩)] w fun e w' => (∃ x : Int, 0 ≤ x ∧ x ≤ 255 ∧ e = .returned (.int .i64 x)) ∧ Cu W b A l c (n + 1) w' := by
  have H := Lib.hid h
  obtain ⟨⟨h0, h1, h2, h3, ⟨t, ht, h4⟩, ⟨s, s0, s1, h5⟩, f0, f1, f2⟩, hg⟩ := h
  clear hg
  by_cases hlt : t < l
  · obtain ⟨B, O, rfl, hB, x, x0, x1, hx⟩ := h1 t hlt
    have hBb : B ≠ b := by omega
    have q0 : (0 : Int) ≤ (t : Int) := by omega
    have q1 : (t : Int) < (l : Int) := by omega
    clear h1
    go_enter Tryd.func106, Tryd.ntmps106
    go_wp2
    go_quiet (fail)
    go_wp2
    go_quiet (fail)
    go_wp2
    go_quiet (fail)
    go_wp2
    go_ret
    exact ⟨⟨_, x0, x1, rfl⟩, H.out.next t ht _ (u64_in _).1 (u64_in _).2 _ _⟩
  · have q1 : ¬ (t : Int) < (l : Int) := by omega
    have q2 : ¬ (t : Int) + 1 ≤ (l : Int) := by omega
    clear h1
    go_enter Tryd.func106, Tryd.ntmps106
    go_wp2
    go_quiet (fail)
    go_wp2
    go_quiet (fail)
    go_wp2
    go_ret
    exact ⟨⟨_, (byte_of _ (u64_in _).1 (u64_in _).2).1, (byte_of _ (u64_in _).1 (u64_in _).2).2, rfl⟩, H.out.next t ht _ (u64_in _).1 (u64_in _).2 _ _⟩
/-- The elements of a slice of ints lie within bounds. -/
def Elems (w : World) (g m : Nat) (lo hi : Int) : Prop := ∀ k : Nat, k < m → ∃ x : Int, lo ≤ x ∧ x ≤ hi ∧ w.cell? ⟨g, k, none⟩ = some (.int .i64 x)
set_option maxHeartbeats 4000000 in
theorem pick_any {W w : World} {b : Nat} {A : Option Addr} {l c n : Nat} (h : Cu W b A l c n w) (hn : n ≤ 999999990) (k : Int) (k0 : 1 ≤ k) (k1 : k ≤ 1000000) :
    Calls Tryd.prog 84 #[.pointer (some ⟨b, 0, none⟩), .int .i64 k] w fun e w' => (∃ x : Int, 0 ≤ x ∧ x < k ∧ e = .returned (.int .i64 x)) ∧ Cu W b A l c (n + 2) w' := by
  have H := Lib.hid h
  clear h
  by_cases hk : k ≤ 1
  · go_enter Tryd.func84, Tryd.ntmps84
    go_wp2
    go_ret
    exact ⟨⟨0, by omega, by omega, rfl⟩, H.out.le (by omega)⟩
  · have hkz : (k == 0) = false := by simp; omega
    by_cases hk2 : k > 200
    · go_enter Tryd.func84, Tryd.ntmps84
      go_wp2_with fail
      (go_at_call 106; refine (next_any H.out (by omega)).mono ?_; rintro e w1 ⟨⟨x, x0, x1, rfl⟩, C1⟩)
      have HC := Lib.hid C1
      clear C1
      go_wp2_with fail
      (go_at_call 106; refine (next_any HC.out (by omega)).mono ?_; rintro e w2 ⟨⟨y, y0, y1, rfl⟩, C2⟩)
      have HC2 := Lib.hid C2
      clear C2
      go_wp2
      go_ret
      exact ⟨⟨_, Int.emod_nonneg _ (by omega), Int.emod_lt_of_pos _ (by omega), rfl⟩, HC2.out⟩
    · go_enter Tryd.func84, Tryd.ntmps84
      go_wp2_with fail
      (go_at_call 106; refine (next_any H.out (by omega)).mono ?_; rintro e w1 ⟨⟨x, x0, x1, rfl⟩, C1⟩)
      have HC := Lib.hid C1
      clear C1
      go_wp2
      go_ret
      exact ⟨⟨_, Int.emod_nonneg _ (by omega), Int.emod_lt_of_pos _ (by omega), rfl⟩, HC.out.le (by omega)⟩
set_option maxHeartbeats 4000000 in
theorem one_any {W w : World} {b : Nat} {A : Option Addr} {l c n : Nat} (h : Cu W b A l c n w) (hn : n ≤ 999999990) (k : Int) (k0 : 1 ≤ k) (k1 : k ≤ 1000000) :
    Calls Tryd.prog 73 #[.pointer (some ⟨b, 0, none⟩), .int .i64 k] w fun e w' => (∃ x : Bool, e = .returned (.bool x)) ∧ Cu W b A l c (n + 2) w' := by
  have H := Lib.hid h
  clear h
  go_enter Tryd.func73, Tryd.ntmps73
  go_wp2_with fail
  (go_at_call 84; refine (pick_any H.out (by omega) k k0 k1).mono ?_; rintro e w1 ⟨⟨x, x0, x1, rfl⟩, C1⟩)
  have HC := Lib.hid C1
  clear C1
  go_wp2
  go_ret
  exact ⟨⟨_, rfl⟩, HC.out⟩
set_option maxHeartbeats 4000000 in
theorem among_any {W w : World} {b : Nat} {A : Option Addr} {l c n : Nat} (h : Cu W b A l c n w) (hn : n ≤ 999999990) (g : Nat) (m cap : Nat) (m0 : 1 ≤ m) (m1 : m ≤ 1000000) (lo hi : Int) (he : Elems w g m lo hi) (hg : g < w.heap.size) (hgb : g ≠ b) :
    Calls Tryd.prog 77 #[.pointer (some ⟨b, 0, none⟩), .slice (some ⟨g, 0, none⟩) m cap] w fun e w' => (∃ x : Int, lo ≤ x ∧ x ≤ hi ∧ e = .returned (.int .i64 x)) ∧ Cu W b A l c (n + 2) w' := by
  have H := Lib.hid h
  have HE := Lib.hid he
  clear h he
  go_enter Tryd.func77, Tryd.ntmps77
  go_wp2_with fail
  (go_at_call 84; refine (pick_any H.out.start (by omega) (m : Int) (by omega) (by omega)).mono ?_; rintro e w1 ⟨⟨x, x0, x1, rfl⟩, C1⟩)
  have HC := Lib.hid C1
  clear C1
  obtain ⟨k, rfl⟩ := Int.eq_ofNat_of_zero_le x0
  obtain ⟨y, y0, y1, hy⟩ := HE.out k (by omega)
  have hc : w1.cell? ⟨g, k, none⟩ = some (.int .i64 y) := by
    rw [← hy]; exact World.cell?_of_block (HC.out.2.block g hg (by simp; exact hgb))
  go_wp2
  go_ret
  exact ⟨⟨_, y0, y1, rfl⟩, H.out.trans HC.out⟩
end Go.Proofs.YtklhmaegpejdbaaDoor
