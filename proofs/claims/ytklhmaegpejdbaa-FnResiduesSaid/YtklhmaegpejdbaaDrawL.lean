/- A slice of bytes that came in, opened; boxes of two cells; laws.qAbs and laws.qGcd. -/
import Derived.Test.YtklhmaegpejdbaaDrawK
import Derived.Test.YtklhmaegpejdbaaGcd
import Derived.OpenShut
namespace Go.Proofs.Ytklhmaegpejdbaa
open Go.ChangeShapes Go.WideShapes Go.ChangeAt Go.RowKit Go.Deep
set_option linter.unusedVariables false
set_option linter.unusedSimpArgs false
set_option maxRecDepth 100000
theorem byteT : Try.prog.underlying 5 = some (.int .u8) := by kernel_rfl
theorem bytesT : Try.prog.underlying 32 = some (.slice 5) := by kernel_rfl
theorem open_bytes {H : Type} {enc : TypeId × Value → H} {W : World} {base b0 : Nat} {spare : Nat → Bool} {held : Bool} {r : Reach} {t te : TypeId} {v : Value} {d : DataW H} {p : List MemPlace}
    (hl : Try.prog.underlying t = some (.slice te)) (he : Try.prog.underlying te = some (.int .u8)) (hc : Try.prog.cellsOf te = 1)
    (hv : Value.okWide Try.prog W r b0 t v) (h : DataW.Trod enc Try.prog W base spare held t v d p) :
    ∃ (A : Option Addr) (l c : Nat), v = .slice A l c ∧ Bytes W A l := by
  obtain ⟨A, l, c, rfl⟩ := okWide_slice hl hv
  obtain ⟨fuel, hf⟩ := h
  rcases Go.ChangeShapes.open_ints hl he hc hf with ⟨hcs, _⟩ | ⟨a, len, cap, zs, hcs, _, h1, h2, h3, _, hcell, hwf⟩
  · simp [Value.cells] at hcs
    obtain ⟨rfl, rfl, rfl⟩ := hcs
    exact ⟨none, 0, 0, rfl, by omega, fun k hk => by omega⟩
  · simp [Value.cells] at hcs
    obtain ⟨rfl, rfl, rfl⟩ := hcs
    refine ⟨some a, l, c, rfl, by unfold maxLen at h2; omega, fun k hk => ?_⟩
    have hlz : l ≤ zs.length := by rw [h3]; split <;> omega
    obtain ⟨g, off, rfl, hat⟩ := Go.ints_at hcell (by omega)
    have hck := hat k (by omega)
    have hz : zs[k]? = some (zs.getD k 0) := by rw [List.getD_eq_getElem?_getD, List.getElem?_eq_getElem (by omega)]; rfl
    have hw := hwf _ (List.mem_of_getElem? hz)
    have hw2 : 0 ≤ zs.getD k 0 ∧ zs.getD k 0 ≤ 255 := by simpa [Lit.wf, IntKind.min, IntKind.max, IntKind.signed, IntKind.bits] using hw
    exact ⟨g, off, rfl, World.block_lt_of_cell? W _ hck, _, hw2.1, hw2.2, hck⟩
/-- Two cells of block b. -/
def BoxF (w : World) (b : Nat) (u0 u1 : Value) : Prop := b < w.heap.size ∧ w.cell? ⟨b, 0, none⟩ = some u0 ∧ w.cell? ⟨b, 1, none⟩ = some u1
theorem BoxF.new (w : World) (u0 u1 : Value) (t : TypeId) : BoxF (w.alloc (.cells #[u0, u1] t)) w.heap.size u0 u1 := ⟨by simp, by simp [go_sem], by simp [go_sem]⟩
theorem BoxF.newAt {b : Nat} (w : World) (u0 u1 : Value) (t : TypeId) (h : b = w.heap.size) : BoxF (w.alloc (.cells #[u0, u1] t)) b u0 u1 := by subst h; exact BoxF.new w u0 u1 t
theorem BoxF.below {w w' : World} {b : Nat} {u0 u1 : Value} (h : BoxF w b u0 u1) (hb : Below w.heap.size w w') : BoxF w' b u0 u1 := by
  obtain ⟨h0, h1, h2⟩ := h
  exact ⟨Nat.lt_of_lt_of_le h0 hb.size, by rw [hb.cell (p := ⟨b, 0, none⟩) h0]; exact h1, by rw [hb.cell (p := ⟨b, 1, none⟩) h0]; exact h2⟩
theorem qAbs_any (n : Int) (h0 : -4000000000000000000 ≤ n) (h1 : n ≤ 4000000000000000000) (w : World) : Calls Try.prog 45 #[.int .i64 n] w fun e w' => e = .returned (.int .i64 (absI n)) ∧ w = w' := by
  by_cases h : n < 0
  · have e : absI n = -n := by unfold absI; omega
    rw [e]
    go_enter Try.func45, Try.ntmps45
    go_wp2
    go_ret
    exact ⟨rfl, rfl⟩
  · have e : absI n = n := by unfold absI; omega
    rw [e]
    go_enter Try.func45, Try.ntmps45
    go_wp2
    go_ret
    exact ⟨rfl, rfl⟩
set_option maxHeartbeats 1000000 in
theorem qGcd_any (n d : Int) (n0 : -4000000000000000000 ≤ n) (n1 : n ≤ 4000000000000000000) (d0 : -4000000000000000000 ≤ d) (d1 : d ≤ 4000000000000000000) (hd : 1 ≤ gcdI n d) (w : World) :
    Calls Try.prog 44 #[.int .i64 n, .int .i64 d] w fun e w' => e = .returned (.int .i64 (gcdI n d)) ∧ w = w' := by
  have HD := Lib.hid hd
  obtain ⟨x0, hx0⟩ : ∃ x, absI n = x := ⟨_, rfl⟩
  obtain ⟨y0, hy0⟩ : ∃ y, absI d = y := ⟨_, rfl⟩
  have HX : Hid (∀ w : World, Calls Try.prog 45 #[.int .i64 n] w fun e w' => e = .returned (.int .i64 x0) ∧ w = w') := Lib.hid (fun w => by rw [← hx0]; exact qAbs_any n n0 n1 w)
  have HY : Hid (∀ w : World, Calls Try.prog 45 #[.int .i64 d] w fun e w' => e = .returned (.int .i64 y0) ∧ w = w') := Lib.hid (fun w => by rw [← hy0]; exact qAbs_any d d0 d1 w)
  have HG := Lib.hid (show gcdI x0 y0 = gcdI n d by rw [← hx0, ← hy0]; exact gcdI_abs2 n d)
  have bx : 0 ≤ x0 ∧ x0 ≤ 4000000000000000000 := by rw [← hx0]; unfold absI; omega
  have byy : 0 ≤ y0 ∧ y0 ≤ 4000000000000000000 := by rw [← hy0]; unfold absI; omega
  clear hx0 hy0 hd
  go_enter Try.func44, Try.ntmps44
  go_wp2_with fail
  (go_at_call 45; refine (HX.out _).mono ?_; rintro e w' ⟨rfl, rfl⟩)
  go_wp2_with fail
  (go_at_call 45; refine (HY.out _).mono ?_; rintro e w' ⟨rfl, rfl⟩)
  go_wp2
  go_loop [0, 1] (fun t u => ∃ x y : Int, 0 ≤ x ∧ x ≤ 4000000000000000000 ∧ 0 ≤ y ∧ y ≤ 4000000000000000000 ∧ t = .int .i64 x ∧ u = .int .i64 y ∧ Hid (gcdI x y = gcdI n d)) (fun _ u => (intOf u).toNat)
  case atStart => exact ⟨x0, y0, bx.1, bx.2, byy.1, byy.2, rfl, rfl, HG⟩
  case round =>
    obtain ⟨x, y, hx, hx2, hy, hy2, rfl, rfl, HE⟩ := hrel
    by_cases h : 0 < y
    · have e := gcdI_step x y
      rw [Int.tmod_eq_emod_of_nonneg hx] at e
      have HE2 := Lib.hid (e.trans HE.out)
      have m0 := Int.emod_nonneg x (show y ≠ 0 by omega)
      have m1 := Int.emod_lt_of_pos x h
      have hz : (y == 0) = false := by simp; omega
      clear e
      go_wp2
      go_round
      case rel => exact ⟨y, x % y, hy, hy2, m0, by omega, rfl, rfl, HE2⟩
      case measure => simp [intOf]; omega
    · obtain rfl : y = 0 := by omega
      have HE2 := Lib.hid ((gcdI_zero x).symm.trans HE.out)
      have hx3 : absI x = x := absI_of x hx
      have hx4 : x = gcdI n d := by rw [← HE2.out, hx3]
      have hx5 := HD.out
      rw [← hx4] at hx5
      have hx6 : (x == 0) = false := by simp; omega
      have HX4 := Lib.hid hx4
      clear hx4
      go_wp2
      go_ret
      exact ⟨ret_int HX4.out, rfl⟩
end Go.Proofs.Ytklhmaegpejdbaa
