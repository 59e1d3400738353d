/- The law's numbers, its order, its plain laws. -/
import Derived.Test.YtklhmaegpejdbaaDoorDrawK
import Derived.Test.YtklhmaegpejdbaaDoorGcd
import Derived.OpenShut
import Derived.Test.YtklhmaegpejdbaaDoorFrTwo
import Derived.Test.YtklhmaegpejdbaaDoorFrLaw
import Derived.Test.YtklhmaegpejdbaaDoorDrawS
import Derived.Test.YtklhmaegpejdbaaDoorFpC
import Derived.Test.YtklhmaegpejdbaaDoorSiW
/- A slice of bytes that came in, opened; boxes of two cells; laws.qAbs and laws.qGcd. -/
namespace Go.Proofs.YtklhmaegpejdbaaDoor
open Go.ChangeShapes Go.WideShapes Go.ChangeAt Go.RowKit Go.Deep
set_option linter.unusedVariables false
set_option linter.unusedSimpArgs false
set_option maxRecDepth 100000
theorem byteT : Tryd.prog.underlying 5 = some (.int .u8) := by kernel_rfl
theorem bytesT : Tryd.prog.underlying 51 = some (.slice 5) := by kernel_rfl
theorem open_bytes {H : Type} {enc : TypeId × Value → H} {W : World} {base b0 : Nat} {spare : Nat → Bool} {held : Bool} {r : Reach} {t te : TypeId} {v : Value} {d : DataW H} {p : List MemPlace}
    (hl : Tryd.prog.underlying t = some (.slice te)) (he : Tryd.prog.underlying te = some (.int .u8)) (hc : Tryd.prog.cellsOf te = 1)
    (hv : Value.okWide Tryd.prog W r b0 t v) (h : DataW.Trod enc Tryd.prog W base spare held t v d p) :
    ∃ (A : Option Addr) (l c : Nat), v = .slice A l c ∧ Bytes W A l := by
  obtain ⟨A, l, c, rfl⟩ := okWide_slice hl hv
  obtain ⟨fuel, hf⟩ := h
  rcases Go.ChangeShapes.open_ints hl he hc hf with ⟨hcs, _⟩ | ⟨a, len, cap, zs, hcs, _, h1, h2, h3, _, hcell, hwf⟩
  · simp [Value.cells] at hcs
    obtain ⟨rfl, rfl, rfl⟩ := hcs
    exact ⟨none, 0, 0, rfl, by omega, fun k hk => by omega⟩
  · simp [Value.cells] at hcs
    obtain ⟨rfl, rfl, rfl⟩ := hcs
    refine ⟨some a, l, c, rfl, by unfold maxLen at h2; omega, fun k hk => ?_⟩
    have hlz : l ≤ zs.length := by rw [h3]; split <;> omega
    obtain ⟨g, off, rfl, hat⟩ := Go.ints_at hcell (by omega)
    have hck := hat k (by omega)
    have hz : zs[k]? = some (zs.getD k 0) := by rw [List.getD_eq_getElem?_getD, List.getElem?_eq_getElem (by omega)]; rfl
    have hw := hwf _ (List.mem_of_getElem? hz)
    have hw2 : 0 ≤ zs.getD k 0 ∧ zs.getD k 0 ≤ 255 := by simpa [Lit.wf, IntKind.min, IntKind.max, IntKind.signed, IntKind.bits] using hw
    exact ⟨g, off, rfl, World.block_lt_of_cell? W _ hck, _, hw2.1, hw2.2, hck⟩
/-- Two cells of block b. -/
def BoxF (w : World) (b : Nat) (u0 u1 : Value) : Prop := b < w.heap.size ∧ w.cell? ⟨b, 0, none⟩ = some u0 ∧ w.cell? ⟨b, 1, none⟩ = some u1
theorem BoxF.new (w : World) (u0 u1 : Value) (t : TypeId) : BoxF (w.alloc (.cells #[u0, u1] t)) w.heap.size u0 u1 := ⟨by simp, by simp [go_sem], by simp [go_sem]⟩
theorem BoxF.newAt {b : Nat} (w : World) (u0 u1 : Value) (t : TypeId) (h : b = w.heap.size) : BoxF (w.alloc (.cells #[u0, u1] t)) b u0 u1 := by subst h; exact BoxF.new w u0 u1 t
theorem BoxF.below {w w' : World} {b : Nat} {u0 u1 : Value} (h : BoxF w b u0 u1) (hb : Below w.heap.size w w') : BoxF w' b u0 u1 := by
  obtain ⟨h0, h1, h2⟩ := h
  exact ⟨Nat.lt_of_lt_of_le h0 hb.size, by rw [hb.cell (p := ⟨b, 0, none⟩) h0]; exact h1, by rw [hb.cell (p := ⟨b, 1, none⟩) h0]; exact h2⟩
end Go.Proofs.YtklhmaegpejdbaaDoor

/- laws.qLess; a slice of bytes opened for the card of FnFractionParts. -/
namespace Go.Proofs.YtklhmaegpejdbaaDoor.Fp
open Go.ChangeShapes Go.WideShapes Go.ChangeAt Go.RowKit Go.Deep
set_option linter.unusedVariables false
set_option linter.unusedSimpArgs false
set_option maxRecDepth 100000
theorem open_bytes_arg {H : Type} {enc : TypeId × Value → H} {W : World} {base b0 : Nat} {spare : Nat → Bool} {held : Bool} {r : Reach} {v : Value} {d : DataW H} {p : List MemPlace}
    (hv : Value.okWide Tryd.prog W r b0 51 v) (h : DataW.Trod enc Tryd.prog W base spare held 51 v d p) :
    ∃ (A : Option Addr) (l c : Nat), v = .slice A l c ∧ Bytes W A l ∧ True := by
  obtain ⟨A, l, c, e, hB⟩ := open_bytes bytesT byteT (by kernel_rfl) hv h
  exact ⟨A, l, c, e, hB, trivial⟩
theorem qLess_any (a b c d : Int) (w : World) :
    Calls Tryd.prog 41 #[.agg #[.int .i64 a, .int .i64 b], .agg #[.int .i64 c, .int .i64 d]] w fun e w' => e = .returned (.bool (lessB a b c d)) ∧ Below w.heap.size w w' := by
  go_enter Tryd.func41, Tryd.ntmps41
  go_wp2
  go_ret
  exact ⟨ret_bool (by simp [lessB]), by repeat' (first | (with_reducible exact Below.refl _ _) | (with_reducible assumption) | (with_reducible refine Below.alloc ?_ ?_ _) | (with_reducible refine Below.drew ?_) | (with_reducible refine below_drewN ?_ _) | (with_reducible refine Below.setCell ?_ ?_ _) | go_size)⟩
end Go.Proofs.YtklhmaegpejdbaaDoor.Fp

/- Laws of fractions' parts in plain numbers: floor and rest, roots, the simplest one. -/
namespace Go.Proofs.YtklhmaegpejdbaaDoor
open Go.RowKit
set_option linter.unusedVariables false
set_option linter.unusedSimpArgs false
theorem frac_of {n d : Int} (h0 : 1 ≤ d) (h1 : d ≤ 1000000000) (h2 : -1000000000 ≤ n) (h3 : n ≤ 1000000000) (hg : gcdI n d = 1) : fracB n d = true := by
  unfold fracB
  rw [inB_iff.2 ⟨h0, h1⟩, inB_iff.2 ⟨h2, h3⟩, hg]; rfl
theorem frac_one {k : Int} (h0 : -1000000000 ≤ k) (h1 : k ≤ 1000000000) : fracB k 1 = true :=
  frac_of (by omega) (by omega) h0 h1 (by unfold gcdI; simp)
theorem fl_law {a b : Int} (h : fracB a b = true) : (sumB (a / b) 1 (a % b) b = true ∧ sumN (a / b) 1 (a % b) b = a ∧ sumE (a / b) 1 (a % b) b = b) ∧ (0 ≤ a % b ∧ a % b < b) ∧ b ≤ heightR a b := by
  obtain ⟨b0, b1, a0, a1, _⟩ := fracB_range h
  have hf : fracB (a % b) b = true := by
    obtain ⟨r1, r2, r3⟩ := rest_make h
    have := mk_frac r1
    rwa [r2, r3] at this
  have e1 : -1000000000 ≤ a / b := (Int.le_ediv_iff_mul_le (by omega)).2 (by
    have := Int.mul_le_mul_of_nonneg_left b0 (show (0 : Int) ≤ 1000000000 by omega)
    omega)
  have e2 : a / b < 1000000001 := (Int.ediv_lt_iff_lt_mul (by omega)).2 (by
    have := Int.mul_le_mul_of_nonneg_left b0 (show (0 : Int) ≤ 1000000001 by omega)
    omega)
  have ht : twoB (a / b) 1 (a % b) b = true := by unfold twoB; rw [frac_one e1 (by omega), hf]; rfl
  have hd := Int.mul_ediv_add_emod a b
  obtain ⟨m1, m2, m3⟩ := mk_of_eq (n := a / b * b + a % b * 1) (m := 1 * b) (by omega) h (by
    rw [Int.mul_one, Int.one_mul, Int.mul_comm (a / b) b, hd])
  refine ⟨⟨?_, ?_, ?_⟩, ⟨Int.emod_nonneg _ (by omega), Int.emod_lt_of_pos _ (by omega)⟩, ?_⟩
  · unfold sumB sumOk; rw [ht, m1]; rfl
  · unfold sumN sumOk; rw [if_pos ht, m2]
  · unfold sumE sumOk; rw [if_pos ht, m3]
  · rw [heightR_of h]; omega
theorem root_law {n d : Int} (h : srB n d = true) : productB (srN n d) (srE n d) (srN n d) (srE n d) = true ∧ productN (srN n d) (srE n d) (srN n d) (srE n d) = n ∧ productE (srN n d) (srE n d) (srN n d) (srE n d) = d ∧ 0 ≤ srN n d := by
  obtain ⟨s1, s2⟩ := sr_yes h
  rw [s1, s2]
  unfold srB at h
  simp only [Bool.and_eq_true] at h
  obtain ⟨hf, hn, hd⟩ := h
  obtain ⟨d0, d1, n0, n1, _⟩ := fracB_range hf
  have hg := fracB_gcd hf
  unfold sqB at hn hd
  simp only [Bool.and_eq_true, decide_eq_true_eq, beq_iff_eq] at hn hd
  obtain ⟨np, nq⟩ := hn
  obtain ⟨dp, dq⟩ := hd
  have hl1 := flN_le (n := n.toNat) (by omega)
  have hl2 := flN_le (n := d.toNat) (by omega)
  have r0 : 0 ≤ flI n := by unfold flI; omega
  have r1 : flI n ≤ 31622 := by unfold flI; omega
  have q0 : 0 ≤ flI d := by unfold flI; omega
  have q1 : flI d ≤ 31622 := by unfold flI; omega
  obtain ⟨r, hr⟩ : ∃ r, flI n = r := ⟨_, rfl⟩
  obtain ⟨q, hq⟩ : ∃ q, flI d = q := ⟨_, rfl⟩
  rw [hr] at nq r0 r1 ⊢
  rw [hq] at dq q0 q1 ⊢
  have qp : 1 ≤ q := by
    rcases Int.lt_or_le 0 q with h1 | h1
    · exact h1
    · have : q = 0 := by omega
      rw [this] at dq; omega
  have hg2 : gcdI r q = 1 := by
    unfold gcdI at hg ⊢
    have e1 : ((Int.gcd r q : Nat) : Int) ∣ n := Int.dvd_trans (Int.gcd_dvd_left ..) (by rw [← nq]; exact Int.dvd_mul_right r r)
    have e2 : ((Int.gcd r q : Nat) : Int) ∣ d := Int.dvd_trans (Int.gcd_dvd_right ..) (by rw [← dq]; exact Int.dvd_mul_right q q)
    have e3 : Int.gcd r q ∣ Int.gcd n d := Int.dvd_gcd (by exact_mod_cast e1) (by exact_mod_cast e2)
    have e4 : Int.gcd n d = 1 := by omega
    rw [e4] at e3
    have := Nat.dvd_one.1 e3
    omega
  have hfr : fracB r q = true := frac_of qp (by omega) (by omega) (by omega) hg2
  have ht : twoB r q r q = true := by unfold twoB; rw [hfr]; rfl
  obtain ⟨m1, m2, m3⟩ := mk_of_eq (n := r * r) (m := q * q) (by rw [dq]; omega) hf (by rw [nq, dq])
  refine ⟨?_, ?_, ?_, r0⟩
  · unfold productB productOk; rw [ht, m1]; rfl
  · unfold productN productOk; rw [if_pos ht, m2]
  · unfold productE productOk; rw [if_pos ht, m3]
theorem lessB_not {a b c d : Int} (ha : -1000000000 ≤ a ∧ a ≤ 1000000000) (hb : 1 ≤ b ∧ b ≤ 1000000000) (hc : -1000000000 ≤ c ∧ c ≤ 1000000000) (hd : 1 ≤ d ∧ d ≤ 1000000000) (h : c * b ≤ a * d) : lessB a b c d = false := by
  have bd : ∀ x y : Int, (-1000000000 ≤ x ∧ x ≤ 1000000000) → (1 ≤ y ∧ y ≤ 1000000000) → -1000000000000000000 ≤ x * y ∧ x * y ≤ 1000000000000000000 := fun x y hx hy => by
    have h1 : x * y ≤ 1000000000 * y := Int.mul_le_mul_of_nonneg_right hx.2 (by omega)
    have h2 : -1000000000 * y ≤ x * y := Int.mul_le_mul_of_nonneg_right hx.1 (by omega)
    omega
  have h1 := bd a d ha hd
  have h2 := bd c b hc hb
  unfold lessB
  have w1 : wrap64 (a * d) = a * d := by unfold wrap64; omega
  have w2 : wrap64 (c * b) = c * b := by unfold wrap64; omega
  rw [w1, w2]
  exact decide_eq_false (by omega)
theorem find_least {p : Nat → Bool} {m k : Nat} (h : (List.range m).find? p = some k) (j : Nat) (hj : j < k) : p j = false := by
  rw [← Bool.not_eq_true]
  intro e
  have hk := List.mem_of_find?_eq_some h
  rw [List.mem_range] at hk
  rcases Nat.lt_or_ge j m with hjm | hjm
  · have := List.find?_range_eq_some.1 h
    exact absurd e (by simpa using this.2.2 j hj)
  · omega
theorem mkD_pos {n d : Int} (h : 1 ≤ d) : 1 ≤ mkD n d := by
  unfold mkD; rw [if_neg (by omega)]; exact gcdI_pos n d (by omega)
theorem si_law {a b c d : Int} (h : siB a b c d = true) : lessB (siN a b c d) (siE a b c d) a b = false ∧ lessB c d (siN a b c d) (siE a b c d) = false ∧ siE a b c d ≤ 1000 ∧ siE a b c d ≤ b ∧ siE a b c d ≤ d := by
  unfold siB at h
  simp only [Bool.and_eq_true] at h
  obtain ⟨hok, hm⟩ := h
  cases ho : siO a b c d with
  | none => rw [ho] at hm; cases hm
  | some k =>
    rw [ho] at hm
    have hm : mkB (siP a b c d k) ((k : Int) + 1) = true := hm
    have eN : siN a b c d = mkN (siP a b c d k) ((k : Int) + 1) := by unfold siN; rw [if_pos hok, ho]
    have eE : siE a b c d = mkE (siP a b c d k) ((k : Int) + 1) := by unfold siE; rw [if_pos hok, ho]
    unfold siOk at hok
    simp only [Bool.and_eq_true, Bool.not_eq_true'] at hok
    obtain ⟨ht, hle⟩ := hok
    obtain ⟨⟨b0, b1, a0, a1⟩, ⟨d0, d1, c0, c1⟩, _⟩ := si_two ht
    rw [si_less ht] at hle
    have hac : a * d ≤ c * b := by have := of_decide_eq_false hle; omega
    have hk := List.mem_of_find?_eq_some ho
    rw [List.mem_range] at hk
    have hT := List.find?_some ho
    have hbef : ∀ j, j < k → siT a b c d j = false := fun j hj => by
      rw [← Bool.not_eq_true]
      intro e
      unfold siO at ho
      have := find_least ho j hj
      rw [e] at this; cases this
    have hlow : a * ((k : Int) + 1) ≤ -siL a b k * b := by
      have h1 := Int.mul_ediv_add_emod (-a * ((k : Int) + 1)) b
      have h2 := Int.emod_nonneg (-a * ((k : Int) + 1)) (show b ≠ 0 by omega)
      unfold siL
      rw [Int.neg_mul, Int.mul_comm (-a * ((k : Int) + 1) / b) b]
      rw [Int.neg_mul] at h1 h2 ⊢
      omega
    have hhigh : siH c d k * d ≤ c * ((k : Int) + 1) := by
      unfold siH; exact Int.ediv_mul_le _ (by omega)
    have hlh : -siL a b k ≤ siH c d k := of_decide_eq_true hT
    have hP : -siL a b k ≤ siP a b c d k ∧ siP a b c d k ≤ siH c d k := by
      unfold siP; split
      · omega
      · split <;> omega
    obtain ⟨P, hPe⟩ : ∃ P, siP a b c d k = P := ⟨_, rfl⟩
    obtain ⟨D, hD⟩ : ∃ D : Int, (k : Int) + 1 = D := ⟨_, rfl⟩
    rw [hPe] at hP eN eE hm
    rw [hD] at hlow hhigh eN eE hm
    have D1 : 1 ≤ D := by omega
    have D2 : D ≤ 1000 := by omega
    have hfr := mk_frac hm
    obtain ⟨E0, E1, N0, N1, _⟩ := fracB_range hfr
    obtain ⟨p1, p2⟩ := mk_parts hm
    have hcr := mk_cross hm
    have hdp := mkD_pos (n := P) D1
    rw [eN, eE]
    clear eN eE
    obtain ⟨N, hN⟩ : ∃ N, mkN P D = N := ⟨_, rfl⟩
    obtain ⟨E, hE⟩ : ∃ E, mkE P D = E := ⟨_, rfl⟩
    rw [hN] at hcr N0 N1 ⊢
    rw [hE] at p2 hcr E0 E1 ⊢
    have hED : E ≤ D := by
      have := Int.mul_le_mul_of_nonneg_left hdp (show 0 ≤ E by omega)
      omega
    have hDb : D ≤ b := by
      rcases Int.lt_or_le b D with h1 | h1
      · exfalso
        have hj := hbef (b.toNat - 1) (by omega)
        unfold siT at hj
        have hj2 := of_decide_eq_false hj
        apply hj2
        unfold siL siH
        rw [show (((b.toNat - 1 : Nat) : Int) + 1) = b by omega, Int.mul_ediv_cancel _ (show b ≠ 0 by omega), Int.neg_neg]
        exact (Int.le_ediv_iff_mul_le (by omega)).2 hac
      · exact h1
    have hDd : D ≤ d := by
      rcases Int.lt_or_le d D with h1 | h1
      · exfalso
        have hj := hbef (d.toNat - 1) (by omega)
        unfold siT at hj
        have hj2 := of_decide_eq_false hj
        apply hj2
        unfold siL siH
        rw [show (((d.toNat - 1 : Nat) : Int) + 1) = d by omega, Int.mul_ediv_cancel _ (show d ≠ 0 by omega)]
        have : -c ≤ -a * d / b := (Int.le_ediv_iff_mul_le (by omega)).2 (by rw [Int.neg_mul, Int.neg_mul]; omega)
        omega
      · exact h1
    have hPb : -siL a b k * b ≤ P * b := Int.mul_le_mul_of_nonneg_right hP.1 (by omega)
    have hPd : P * d ≤ siH c d k * d := Int.mul_le_mul_of_nonneg_right hP.2 (by omega)
    have k1 : a * E ≤ N * b := by
      have h1 : a * D * E ≤ P * b * E := Int.mul_le_mul_of_nonneg_right (by omega) (by omega)
      have h2 : (a * E) * D ≤ (N * b) * D := by
        rw [show a * E * D = a * D * E by rw [Int.mul_assoc, Int.mul_comm E D, ← Int.mul_assoc], show N * b * D = N * D * b by rw [Int.mul_assoc, Int.mul_comm b D, ← Int.mul_assoc], hcr, show P * E * b = P * b * E by rw [Int.mul_assoc, Int.mul_comm E b, ← Int.mul_assoc]]
        exact h1
      exact Int.le_of_mul_le_mul_right h2 (by omega)
    have k2 : N * d ≤ c * E := by
      have h1 : P * d * E ≤ c * D * E := Int.mul_le_mul_of_nonneg_right (by omega) (by omega)
      have h2 : (N * d) * D ≤ (c * E) * D := by
        rw [show c * E * D = c * D * E by rw [Int.mul_assoc, Int.mul_comm E D, ← Int.mul_assoc], show N * d * D = N * D * d by rw [Int.mul_assoc, Int.mul_comm d D, ← Int.mul_assoc], hcr, show P * E * d = P * d * E by rw [Int.mul_assoc, Int.mul_comm E d, ← Int.mul_assoc]]
        exact h1
      exact Int.le_of_mul_le_mul_right h2 (by omega)
    exact ⟨lessB_not ⟨N0, N1⟩ ⟨E0, E1⟩ ⟨a0, a1⟩ ⟨b0, b1⟩ k1, lessB_not ⟨c0, c1⟩ ⟨d0, d1⟩ ⟨N0, N1⟩ ⟨E0, E1⟩ k2, by omega, by omega, by omega⟩
end Go.Proofs.YtklhmaegpejdbaaDoor
