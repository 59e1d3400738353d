/- Laws of residues in plain numbers: inverses, orders, roots, symbols, powers. -/
import Derived.Test.YtklhmaegpejdbaaInvW
import Derived.Test.YtklhmaegpejdbaaRoW
import Derived.Test.YtklhmaegpejdbaaOrW
import Derived.Test.YtklhmaegpejdbaaSqW
import Derived.Test.YtklhmaegpejdbaaSyW
import Derived.Test.YtklhmaegpejdbaaPoW
import Derived.Test.YtklhmaegpejdbaaNumSq
namespace Go.Proofs.Ytklhmaegpejdbaa
open Go.RowKit
set_option linter.unusedVariables false
set_option linter.unusedSimpArgs false
theorem unit_fits {a p : Int} (h : unitB a p = true) : fitsB a p = true := (unitB_iff.1 h).1
theorem unit_of {a p : Int} (h : unitB a p = true) : ∃ A P, UnitOf a p A P := unitOf (fitsB_range (unit_fits h)).1 (unitB_iff.1 h).2
theorem nat_inv {A P : Nat} (h2 : 2 ≤ P) (h1 : A ^ (P - 1) % P = 1) : A * (A ^ (P - 2) % P) % P = 1 := by
  rw [Nat.mul_mod_mod, Nat.mul_comm, ← Nat.pow_succ, show (P - 2).succ = P - 1 by omega, h1]
theorem nat_inv_one {A B C P : Nat} (hA : A < P) (hC : C < P) (h : A * B % P = 1) (k : B * C % P = 1) : A = C := by
  have e1 : A * (B * C) % P = A := by rw [Nat.mul_mod, k, Nat.mul_one, Nat.mod_mod, Nat.mod_eq_of_lt hA]
  have e2 : A * (B * C) % P = C := by rw [← Nat.mul_assoc, Nat.mul_mod, h, Nat.one_mul, Nat.mod_mod, Nat.mod_eq_of_lt hC]
  rw [← e1, e2]
theorem residue_unit {a p : Int} {A P : Nat} (h : unitB a p = true) (U : UnitOf a p A P) : residueR a p = (A : Int) := by
  unfold residueR; rw [if_pos (unit_fits h), U.ha]
theorem inverse_unit {a p : Int} {A P : Nat} (h : unitB a p = true) (U : UnitOf a p A P) : inverseR a p = ((A ^ (P - 2) % P : Nat) : Int) := by
  unfold inverseR; rw [if_pos h]; exact powI_of U.ha (by have := U.hp; have := U.two; omega) U.hp
theorem inv_law {a p : Int} (h : unitB a p = true) : (2 ≤ p ∧ p ≤ 997) ∧ (1 ≤ inverseR a p ∧ inverseR a p < p) ∧ (0 ≤ residueR a p ∧ residueR a p < p) ∧ residueR a p * inverseR a p % p = 1 ∧
    unitB (inverseR a p) p = true ∧ inverseR (inverseR a p) p = residueR a p := by
  obtain ⟨A, P, U⟩ := unit_of h
  have hf := fitsB_range (unit_fits h)
  rw [residue_unit h U, inverse_unit h U]
  obtain ⟨I, hI⟩ : ∃ I, A ^ (P - 2) % P = I := ⟨_, rfl⟩
  have h1 := nat_inv U.two U.one
  rw [hI] at h1 ⊢
  have hlt : I < P := by rw [← hI]; exact Nat.mod_lt _ (by have := U.two; omega)
  have hpos : 1 ≤ I := by
    rcases Nat.eq_zero_or_pos I with h0 | h0
    · rw [h0] at h1; simp at h1
    · exact h0
  have hp := U.hp
  have hA := U.lt
  have hm : (I : Int) % p = (I : Int) := by rw [hp]; exact Int.emod_eq_of_lt (by omega) (by omega)
  have hu : unitB (I : Int) p = true := by
    rw [unitB_iff]
    refine ⟨?_, by rw [hm]; omega⟩
    unfold fitsB
    rw [hf.1, Bool.true_and]
    exact inB_iff.2 ⟨by omega, by omega⟩
  refine ⟨hf.2.1, ⟨by omega, by omega⟩, ⟨by omega, by omega⟩, ?_, hu, ?_⟩
  · rw [hp]; exact_mod_cast h1
  · obtain ⟨B, Q, V⟩ := unit_of hu
    have e1 := V.ha
    have e2 := V.hp
    obtain rfl : Q = P := by omega
    obtain rfl : B = I := by omega
    rw [inverse_unit hu V]
    have h2 := nat_inv V.two V.one
    have := nat_inv_one hA (Nat.mod_lt _ (by omega)) h1 h2
    rw [← this]
theorem ordN_dvd {g p : Nat} (hp : 2 ≤ p) (h : g ^ (p - 1) % p = 1) : (p - 1) % ordN g p = 0 := by
  obtain ⟨h1, h2, h3⟩ := ordN_spec hp h
  obtain ⟨n, hn⟩ : ∃ n, ordN g p = n := ⟨_, rfl⟩
  rw [hn] at h1 h2 h3 ⊢
  rcases Nat.eq_zero_or_pos ((p - 1) % n) with h0 | h0
  · exact h0
  · refine absurd ?_ (h3 _ h0 (Nat.mod_lt _ (by omega)))
    have e : g ^ (p - 1) = (g ^ n) ^ ((p - 1) / n) * g ^ ((p - 1) % n) := by rw [← Nat.pow_mul, ← Nat.pow_add, Nat.div_add_mod]
    rw [e, Nat.mul_mod, Nat.pow_mod, h2, Nat.one_pow, Nat.mod_eq_of_lt (show 1 < p by omega), Nat.one_mul, Nat.mod_mod] at h
    exact h
theorem order_unit {a p : Int} {A P : Nat} (h : unitB a p = true) (U : UnitOf a p A P) : orderR a p = ((ordN A P : Nat) : Int) := by
  unfold orderR ordI; rw [if_pos h, U.ha, U.hp]; rfl
theorem ord_law {a p : Int} (h : unitB a p = true) : (1 ≤ orderR a p ∧ orderR a p ≤ 996) ∧ (p - 1) % orderR a p = 0 ∧ powerB a (orderR a p) p = true ∧ powerR a (orderR a p) p = 1 := by
  obtain ⟨A, P, U⟩ := unit_of h
  have hf := fitsB_range (unit_fits h)
  rw [order_unit h U]
  obtain ⟨h1, h2, h3⟩ := ordN_spec U.two U.one
  have h4 := ordN_le U.two U.one
  have h5 := ordN_dvd U.two U.one
  have hp := U.hp
  have hP := U.most
  have h6 := U.two
  obtain ⟨n, hn⟩ : ∃ n, ordN A P = n := ⟨_, rfl⟩
  rw [hn] at h1 h2 h3 h4 h5 ⊢
  have hb : powerB a (n : Int) p = true := by unfold powerB; rw [unit_fits h, Bool.true_and]; exact inB_iff.2 ⟨by omega, by omega⟩
  refine ⟨⟨by omega, by omega⟩, ?_, hb, ?_⟩
  · rw [hp, show (P : Int) - 1 = ((P - 1 : Nat) : Int) by omega]; exact_mod_cast h5
  · unfold powerR; rw [if_pos hb, powI_of U.ha rfl hp, h2]; rfl
theorem sqrt_fits {a p : Int} (h : sqrtB a p = true) : fitsB a p = true := by simp only [sqrtB, Bool.and_eq_true] at h; exact h.1
theorem fits_nat {a p : Int} (h : fitsB a p = true) : ∃ A P : Nat, a % p = (A : Int) ∧ p = (P : Int) ∧ A < P ∧ 2 ≤ P ∧ P < 998 ∧ primeN P = true := by
  obtain ⟨h1, h2, h3⟩ := fitsB_range h
  obtain ⟨P, rfl⟩ := Int.eq_ofNat_of_zero_le (show 0 ≤ p by omega)
  obtain ⟨A, hA⟩ := Int.eq_ofNat_of_zero_le (Int.emod_nonneg a (show (P : Int) ≠ 0 by omega))
  have hA2 := Int.emod_lt_of_pos a (show (0 : Int) < P by omega)
  obtain ⟨k1, k2, k3⟩ := primeN_of h1
  exact ⟨A, P, hA, rfl, by omega, k2, k3, k1⟩
theorem sqrtN_some {A P : Nat} : (sqrtN A P).isSome = true ↔ ∃ x, x < P ∧ x * x % P = A := by
  unfold sqrtN
  rw [List.find?_isSome]
  constructor
  · rintro ⟨x, h1, h2⟩; exact ⟨x, List.mem_range.1 h1, by simpa using h2⟩
  · rintro ⟨x, h1, h2⟩; exact ⟨x, List.mem_range.2 h1, by simpa using h2⟩
theorem root_law {a p : Int} (h : sqrtB a p = true) : (2 ≤ p ∧ p ≤ 997) ∧ (0 ≤ sqrtR a p ∧ sqrtR a p < p) ∧ sqrtR a p * sqrtR a p % p = residueR a p := by
  obtain ⟨A, P, hA, hp, hlt, h2, h3, h4⟩ := fits_nat (sqrt_fits h)
  have hs : (sqrtO a p).isSome = true := by simp only [sqrtB, Bool.and_eq_true] at h; exact h.2
  obtain ⟨x, hx⟩ := Option.isSome_iff_exists.1 hs
  have hx2 := hx
  unfold sqrtO sqrtN at hx2
  have k1 := List.find?_some hx2
  have k2 := List.mem_of_find?_eq_some hx2
  rw [hA, hp] at k1
  rw [hp] at k2
  have k3 := List.mem_range.1 k2
  simp only [Int.toNat_natCast, beq_iff_eq] at k1 k3
  have e : sqrtR a p = (x : Int) := by unfold sqrtR; rw [if_pos h, hx]; rfl
  rw [e]
  unfold residueR
  rw [if_pos (sqrt_fits h), hA, hp]
  exact ⟨⟨by omega, by omega⟩, ⟨by omega, by omega⟩, by exact_mod_cast k1⟩
theorem odd_of {p : Int} {P : Nat} (hp : primeB p = true) (e : p = (P : Int)) (h3 : p ≠ 2) : P % 2 = 1 := by
  have hr := primeB_range hp
  rcases Nat.mod_two_eq_zero_or_one P with h | h
  · have h4 : primeB p = false := primeB_not (d := 2) (by omega) (by omega) (by omega) (by omega)
    rw [hp] at h4; cases h4
  · exact h
theorem symB_parts {a p : Int} (h : symB a p = true) : fitsB a p = true ∧ p ≠ 2 := by
  simp only [symB, Bool.and_eq_true, bne_iff_ne, ne_eq] at h; exact h
theorem sym_cases {a p : Int} (h : symB a p = true) : symR a p = -1 ∨ symR a p = 0 ∨ symR a p = 1 := by
  obtain ⟨h1, h2⟩ := symB_parts h
  have hp := (fitsB_range h1).1
  have hr := primeB_range hp
  unfold symR symI
  rw [if_pos h]
  rcases half_cases (a := a) hp h2 with k | k | k <;> rw [k]
  · rw [if_neg (by omega)]; omega
  · rw [if_neg (by omega)]; omega
  · rw [if_pos rfl]; omega
theorem half_nat {a p : Int} {A P : Nat} (hA : a % p = (A : Int)) (hp : p = (P : Int)) (h2 : 2 ≤ P) : halfI a p = ((A ^ ((P - 1) / 2) % P : Nat) : Int) :=
  powI_of hA (by omega) hp
theorem half_zero {A P : Nat} (hP : primeN P = true) (h9 : P < 998) (hA : A < P) (h : A ^ ((P - 1) / 2) % P = 0) (hodd : P % 2 = 1) : A = 0 := by
  rcases Nat.eq_zero_or_pos A with h0 | h0
  · exact h0
  · have h1 := fermat hP h9 h0 hA
    rw [show P - 1 = (P - 1) / 2 + (P - 1) / 2 by omega, Nat.pow_add, Nat.mul_mod, h] at h1
    simp at h1
theorem sym_root {a p : Int} (h : symB a p = true) : sqrtB a p = decide (0 ≤ symR a p) := by
  obtain ⟨h1, h2⟩ := symB_parts h
  have hp := (fitsB_range h1).1
  obtain ⟨A, P, hA, e, hlt, P2, P3, hPN⟩ := fits_nat h1
  have hodd := odd_of hp e h2
  have hh := half_nat hA e P2
  have hs : sqrtB a p = (sqrtN A P).isSome := by unfold sqrtB sqrtO; rw [h1, Bool.true_and, hA, e]; rfl
  rw [hs]
  have hsym : symR a p = symI a p := by unfold symR; rw [if_pos h]
  have hiff : (sqrtN A P).isSome = true ↔ 0 ≤ symR a p := by
    rw [sqrtN_some, hsym]
    unfold symI
    constructor
    · rintro ⟨x, x1, x2⟩
      have k : A ^ ((P - 1) / 2) % P = x ^ (P - 1) % P := by
        rw [← x2, ← Nat.pow_mod, ← Nat.pow_two, ← Nat.pow_mul, show 2 * ((P - 1) / 2) = P - 1 by omega]
      rcases Nat.eq_zero_or_pos x with h0 | h0
      · rw [h0, Nat.zero_pow (by omega)] at k
        rw [hh, k, if_neg (by simp; omega)]; simp
      · rw [fermat hPN P3 h0 x1] at k
        rw [hh, k, if_neg (by simp; omega)]; simp
    · intro h0
      rcases half_cases (a := a) hp h2 with k | k | k
      · have k0 : A ^ ((P - 1) / 2) % P = 0 := by omega
        exact ⟨0, by omega, by rw [half_zero hPN P3 hlt k0 hodd]; simp⟩
      · have k1 : A ^ ((P - 1) / 2) % P = 1 := by omega
        exact euler hPN P3 hlt k1
      · rw [k, if_pos rfl] at h0; omega
  exact Bool.eq_iff_iff.2 (by rw [hiff]; simp)
theorem sym_zero {a p : Int} (h : symB a p = true) : (symR a p = 0) = (residueR a p = 0) := by
  obtain ⟨h1, h2⟩ := symB_parts h
  have hp := (fitsB_range h1).1
  obtain ⟨A, P, hA, e, hlt, P2, P3, hPN⟩ := fits_nat h1
  have hodd := odd_of hp e h2
  have hh := half_nat hA e P2
  unfold symR symI residueR
  rw [if_pos h, if_pos h1, hA]
  apply propext
  rcases half_cases (a := a) hp h2 with k | k | k
  · have k0 : A ^ ((P - 1) / 2) % P = 0 := by omega
    have := half_zero hPN P3 hlt k0 hodd
    rw [k, if_neg (by omega), this]; simp
  · rw [k, if_neg (by omega)]
    constructor
    · intro h; omega
    · intro h
      have : A = 0 := by omega
      rw [this, Nat.zero_pow (by omega)] at hh
      simp at hh; omega
  · rw [k, if_pos rfl]
    constructor
    · intro h; omega
    · intro h
      have : A = 0 := by omega
      rw [this, Nat.zero_pow (by omega)] at hh
      simp at hh; omega
theorem sym_mul {a p : Int} (h : symB a p = true) : (0 ≤ residueR a p ∧ residueR a p ≤ 996) ∧ symB 7 p = true ∧ symB (7 * residueR a p) p = true ∧ symR (7 * residueR a p) p = symR 7 p * symR a p := by
  obtain ⟨h1, h2⟩ := symB_parts h
  have hp := (fitsB_range h1).1
  obtain ⟨A, P, hA, e, hlt, P2, P3, hPN⟩ := fits_nat h1
  have hodd := odd_of hp e h2
  have hr : residueR a p = (A : Int) := by unfold residueR; rw [if_pos h1, hA]
  have s7 : symB 7 p = true := by simp [symB, fitsB, hp, h2, inB_iff.2 (show (-1000000000000 : Int) ≤ 7 ∧ (7 : Int) ≤ 1000000000000 by omega)]
  have sA : symB (7 * (A : Int)) p = true := by simp [symB, fitsB, hp, h2, inB_iff.2 (show (-1000000000000 : Int) ≤ 7 * (A : Int) ∧ 7 * (A : Int) ≤ 1000000000000 by omega)]
  rw [hr]
  refine ⟨⟨by omega, by omega⟩, s7, sA, ?_⟩
  have m7 : (7 : Int) % p = ((7 % P : Nat) : Int) := by rw [e]; rfl
  have mA : (7 * (A : Int)) % p = ((7 * A % P : Nat) : Int) := by rw [e]; exact_mod_cast rfl
  have q0 := half_nat hA e P2
  have q7 := half_nat m7 e P2
  have qA := half_nat mA e P2
  have hprod : (7 * A % P) ^ ((P - 1) / 2) % P = ((7 % P) ^ ((P - 1) / 2) % P) * (A ^ ((P - 1) / 2) % P) % P := by
    rw [← Nat.pow_mod, ← Nat.pow_mod, Nat.mul_pow, Nat.mul_mod]
  unfold symR symI
  rw [if_pos sA, if_pos s7, if_pos h]
  rw [qA, q7, q0, hprod]
  have c0 := half_cases (a := a) hp h2
  have c7 := half_cases (a := 7) hp h2
  rw [q0] at c0
  rw [q7] at c7
  obtain ⟨x, hx⟩ : ∃ x, A ^ ((P - 1) / 2) % P = x := ⟨_, rfl⟩
  obtain ⟨y, hy⟩ : ∃ y, (7 % P) ^ ((P - 1) / 2) % P = y := ⟨_, rfl⟩
  rw [hx] at c0 ⊢
  rw [hy] at c7 ⊢
  have d0 : x = 0 ∨ x = 1 ∨ x = P - 1 := by omega
  have d7 : y = 0 ∨ y = 1 ∨ y = P - 1 := by omega
  have hP3 : 3 ≤ P := by omega
  have hsq : (P - 1) * (P - 1) % P = 1 := by
    obtain ⟨k, rfl⟩ : ∃ k, P = k + 1 := ⟨P - 1, by omega⟩
    obtain ⟨j, rfl⟩ : ∃ j, k = j + 1 := ⟨k - 1, by omega⟩
    have e2 : (j + 1) * (j + 1) = 1 + (j + 1 + 1) * j := by simp only [Nat.add_mul, Nat.mul_add, Nat.one_mul, Nat.mul_one]; omega
    rw [Nat.add_sub_cancel, e2, Nat.add_mul_mod_self_left, Nat.mod_eq_of_lt (by omega)]
  have hone : 1 % P = 1 := Nat.mod_eq_of_lt (by omega)
  have hlast : (P - 1) % P = P - 1 := Nat.mod_eq_of_lt (by omega)
  have n0 : ¬ ((0 : Int) = p - 1) := by omega
  have n1 : ¬ ((1 : Int) = p - 1) := by omega
  have nl : (((P - 1 : Nat) : Int) = p - 1) := by omega
  rcases d0 with rfl | rfl | rfl <;> rcases d7 with rfl | rfl | rfl <;> simp [n0, n1, nl, hsq, hone, hlast]
theorem pow_law {u k q : Int} (h : powerB u k q = true) (hk : 0 < k) : (2 ≤ q ∧ q ≤ 997) ∧ powerB u (k - 1) q = true ∧ fitsB u q = true ∧ (0 ≤ powerR u (k - 1) q ∧ powerR u (k - 1) q ≤ 996) ∧ (0 ≤ residueR u q ∧ residueR u q ≤ 996) ∧
    powerR u (k - 1) q * residueR u q % q = powerR u k q := by
  have h0 := h
  simp only [powerB, Bool.and_eq_true] at h
  obtain ⟨h1, h2⟩ := h
  obtain ⟨k0, k1⟩ := inB_iff.1 h2
  obtain ⟨A, P, hA, e, hlt, P2, P3, hPN⟩ := fits_nat h1
  have hb : powerB u (k - 1) q = true := by unfold powerB; rw [h1, Bool.true_and]; exact inB_iff.2 ⟨by omega, by omega⟩
  obtain ⟨K, hK⟩ := Int.eq_ofNat_of_zero_le (show 0 ≤ k - 1 by omega)
  have r1 : powerR u (k - 1) q = ((A ^ K % P : Nat) : Int) := by unfold powerR; rw [if_pos hb]; exact powI_of hA hK e
  have r2 : powerR u k q = ((A ^ (K + 1) % P : Nat) : Int) := by unfold powerR; rw [if_pos h0]; exact powI_of hA (by omega) e
  have r3 : residueR u q = (A : Int) := by unfold residueR; rw [if_pos h1, hA]
  rw [r1, r2, r3]
  have hm : A ^ K % P < P := Nat.mod_lt _ (by omega)
  refine ⟨⟨by omega, by omega⟩, hb, h1, ⟨by omega, by omega⟩, ⟨by omega, by omega⟩, ?_⟩
  rw [e, Nat.pow_succ, ← Nat.mod_mul_mod]
  exact_mod_cast rfl
end Go.Proofs.Ytklhmaegpejdbaa
