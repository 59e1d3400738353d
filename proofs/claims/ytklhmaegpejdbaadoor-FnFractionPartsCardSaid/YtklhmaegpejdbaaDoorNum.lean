/- Plain arithmetic of residues: powers, orders, valuations, what a list's first find says. No program is in sight. -/
import Derived.Test.YtklhmaegpejdbaaDoorPrimeNum
namespace Go.Proofs.YtklhmaegpejdbaaDoor
set_option linter.unusedVariables false
set_option linter.unusedSimpArgs false
/-- Trial division, over natural numbers up to 997. -/
def primeN (p : Nat) : Bool := decide (2 ≤ p) && (List.range 30).all fun d => !(decide ((d + 2) * (d + 2) ≤ p)) || p % (d + 2) != 0
theorem primeN_of {p : Nat} (h : primeB (p : Int) = true) : primeN p = true ∧ 2 ≤ p ∧ p < 998 := by
  have hr := primeB_range h
  unfold primeB at h
  rw [Bool.and_eq_true, List.all_eq_true] at h
  refine ⟨?_, by omega, by omega⟩
  unfold primeN
  rw [Bool.and_eq_true, List.all_eq_true]
  refine ⟨by simp; omega, fun d hd => ?_⟩
  have := h.2 d hd
  simp only [Bool.or_eq_true, Bool.not_eq_true', decide_eq_false_iff_not, bne_iff_ne, ne_eq] at this ⊢
  rcases this with h1 | h1
  · exact .inl fun h2 => h1 (by exact_mod_cast h2)
  · refine .inr fun h2 => h1 ?_
    have : ((p % (d + 2) : Nat) : Int) = 0 := by rw [h2]; rfl
    simpa using this

/-- The order of g: the least n from 1 on at which the power is 1. -/
def ordFrom (g p : Nat) : Nat → Nat → Nat → Nat
  | 0, _, n => n
  | f + 1, x, n => if x == 1 then n else ordFrom g p f (x * g % p) (n + 1)
def ordN (g p : Nat) : Nat := ordFrom g p p (g % p) 1
theorem pow_next (g p n : Nat) : g ^ n % p * g % p = g ^ (n + 1) % p := by rw [Nat.pow_succ, Nat.mod_mul_mod]
theorem ordFrom_spec (g p : Nat) : ∀ (f x n : Nat), x = g ^ n % p → (∃ m, n ≤ m ∧ m < n + f ∧ g ^ m % p = 1) →
    n ≤ ordFrom g p f x n ∧ g ^ (ordFrom g p f x n) % p = 1 ∧ (∀ m, n ≤ m → m < ordFrom g p f x n → g ^ m % p ≠ 1)
  | 0, x, n, hx, ⟨m, h1, h2, _⟩ => absurd h2 (by omega)
  | f + 1, x, n, hx, ⟨m, h1, h2, h3⟩ => by
    unfold ordFrom
    by_cases hx1 : x = 1
    · subst hx1
      simp only [beq_self_eq_true, if_true]
      exact ⟨Nat.le_refl _, hx.symm, fun m h4 h5 => absurd h5 (by omega)⟩
    · rw [if_neg (by simpa using hx1)]
      have hne : m ≠ n := by
        rintro rfl
        exact hx1 (by rw [hx, h3])
      obtain ⟨i1, i2, i3⟩ := ordFrom_spec g p f (x * g % p) (n + 1) (by rw [hx, pow_next]) ⟨m, by omega, by omega, h3⟩
      refine ⟨by omega, i2, fun k h4 h5 => ?_⟩
      rcases Nat.lt_or_ge n k with h6 | h6
      · exact i3 k h6 h5
      · obtain rfl : k = n := by omega
        exact fun h7 => hx1 (by rw [hx, h7])
theorem ordN_spec {g p : Nat} (hp : 2 ≤ p) (h : g ^ (p - 1) % p = 1) :
    1 ≤ ordN g p ∧ g ^ (ordN g p) % p = 1 ∧ (∀ m, 1 ≤ m → m < ordN g p → g ^ m % p ≠ 1) :=
  ordFrom_spec g p p (g % p) 1 (by rw [Nat.pow_one]) ⟨p - 1, by omega, by omega, h⟩
theorem ordN_le {g p : Nat} (hp : 2 ≤ p) (h : g ^ (p - 1) % p = 1) : ordN g p ≤ p - 1 := by
  obtain ⟨h1, h2, h3⟩ := ordN_spec hp h
  rcases Nat.lt_or_ge (p - 1) (ordN g p) with h4 | h4
  · exact absurd h (h3 _ (by omega) h4)
  · exact h4
theorem ordN_unique {g p n : Nat} (hp : 2 ≤ p) (h : g ^ (p - 1) % p = 1) (h0 : 1 ≤ n) (h1 : g ^ n % p = 1) (h2 : ∀ m, 1 ≤ m → m < n → g ^ m % p ≠ 1) : n = ordN g p := by
  obtain ⟨i1, i2, i3⟩ := ordN_spec hp h
  rcases Nat.lt_trichotomy n (ordN g p) with h4 | h4 | h4
  · exact absurd h1 (i3 _ h0 h4)
  · exact h4
  · exact absurd i2 (h2 _ i1 h4)

/-- How often p divides n. -/
def valF (p : Nat) : Nat → Nat → Nat
  | 0, _ => 0
  | f + 1, n => if n % p = 0 then valF p f (n / p) + 1 else 0
def valN (p n : Nat) : Nat := valF p n n
theorem valF_enough (p : Nat) (hp : 2 ≤ p) : ∀ (f g n : Nat), 1 ≤ n → n ≤ f → n ≤ g → valF p f n = valF p g n
  | 0, g, n, h0, h1, h2 => absurd h1 (by omega)
  | f + 1, 0, n, h0, h1, h2 => absurd h2 (by omega)
  | f + 1, g + 1, n, h0, h1, h2 => by
    unfold valF
    by_cases h : n % p = 0
    · rw [if_pos h, if_pos h]
      have hlt : n / p < n := Nat.div_lt_self (by omega) (by omega)
      have hpos : 1 ≤ n / p := by
        have : p * (n / p) = n := Nat.mul_div_cancel' (Nat.dvd_of_mod_eq_zero h)
        rcases Nat.eq_zero_or_pos (n / p) with h3 | h3
        · rw [h3] at this; omega
        · exact h3
      rw [valF_enough p hp f g (n / p) hpos (by omega) (by omega)]
    · rw [if_neg h, if_neg h]
theorem valN_div {p n : Nat} (hp : 2 ≤ p) (hn : 1 ≤ n) (h : n % p = 0) : valN p n = valN p (n / p) + 1 ∧ 1 ≤ n / p ∧ n / p < n := by
  have hlt : n / p < n := Nat.div_lt_self (by omega) (by omega)
  have hpos : 1 ≤ n / p := by
    have : p * (n / p) = n := Nat.mul_div_cancel' (Nat.dvd_of_mod_eq_zero h)
    rcases Nat.eq_zero_or_pos (n / p) with h3 | h3
    · rw [h3] at this; omega
    · exact h3
  refine ⟨?_, hpos, hlt⟩
  obtain ⟨m, rfl⟩ : ∃ m, n = m + 1 := ⟨n - 1, by omega⟩
  show valF p (m + 1) (m + 1) = _
  unfold valF
  rw [if_pos h]
  exact congrArg (· + 1) (valF_enough p hp _ _ _ hpos (by omega) (by omega))
theorem valN_not {p n : Nat} (hn : 1 ≤ n) (h : n % p ≠ 0) : valN p n = 0 := by
  obtain ⟨m, rfl⟩ : ∃ m, n = m + 1 := ⟨n - 1, by omega⟩
  show valF p (m + 1) (m + 1) = 0
  unfold valF
  rw [if_neg h]

/-- The first number below n that passes a test. -/
theorem find_range {P : Nat → Bool} {n k : Nat} (hk : k < n) (h : P k = true) (hb : ∀ j, j < k → P j = false) : (List.range n).find? P = some k := by
  rw [List.find?_range_eq_some]
  exact ⟨h, List.mem_range.2 hk, fun j hj => by simp [hb j hj]⟩
theorem find_range_none {P : Nat → Bool} {n : Nat} (hb : ∀ j, j < n → P j = false) : (List.range n).find? P = none := by
  rw [List.find?_eq_none]
  exact fun j hj => by simp [hb j (List.mem_range.1 hj)]

/-- One step of the power's loop. -/
theorem pow_odd (o b k p : Nat) (hk : k % 2 = 1) : (o * b % p) * (b * b % p) ^ (k / 2) % p = o * b ^ k % p := by
  conv => rhs; rw [show k = 2 * (k / 2) + 1 by omega, Nat.pow_succ, Nat.pow_mul]
  rw [Nat.mod_mul_mod, Nat.mul_mod, Nat.pow_mod, Nat.mod_mod, ← Nat.pow_mod, ← Nat.mul_mod]
  congr 1
  rw [show b ^ 2 = b * b by rw [Nat.pow_succ, Nat.pow_one]]
  ac_rfl
theorem pow_even (o b k p : Nat) (hk : k % 2 ≠ 1) : o * (b * b % p) ^ (k / 2) % p = o * b ^ k % p := by
  conv => rhs; rw [show k = 2 * (k / 2) by omega, Nat.pow_mul]
  rw [Nat.mul_mod, Nat.pow_mod, Nat.mod_mod, ← Nat.pow_mod, ← Nat.mul_mod, show b ^ 2 = b * b by rw [Nat.pow_succ, Nat.pow_one]]
end Go.Proofs.YtklhmaegpejdbaaDoor
