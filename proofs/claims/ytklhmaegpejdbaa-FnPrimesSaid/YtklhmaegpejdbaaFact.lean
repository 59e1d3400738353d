/- Factors by trial division: plain arithmetic. -/
import Derived.Test.YtklhmaegpejdbaaNum
namespace Go.Proofs.Ytklhmaegpejdbaa
set_option linter.unusedVariables false
set_option linter.unusedSimpArgs false
/-- n without its factors q. -/
def stripF (q : Nat) : Nat → Nat → Nat
  | 0, n => n
  | f + 1, n => if n % q = 0 then stripF q f (n / q) else n
def strip (q n : Nat) : Nat := stripF q n n
theorem stripF_enough (q : Nat) (hq : 2 ≤ q) : ∀ (f g n : Nat), 1 ≤ n → n ≤ f → n ≤ g → stripF q f n = stripF q g n
  | 0, g, n, h0, h1, h2 => absurd h1 (by omega)
  | f + 1, 0, n, h0, h1, h2 => absurd h2 (by omega)
  | f + 1, g + 1, n, h0, h1, h2 => by
    unfold stripF
    by_cases h : n % q = 0
    · rw [if_pos h, if_pos h]
      obtain ⟨_, h3, h4⟩ := valN_div hq h0 h
      exact stripF_enough q hq f g (n / q) h3 (by omega) (by omega)
    · rw [if_neg h, if_neg h]
theorem strip_div {q n : Nat} (hq : 2 ≤ q) (hn : 1 ≤ n) (h : n % q = 0) : strip q n = strip q (n / q) := by
  obtain ⟨_, h3, h4⟩ := valN_div hq hn h
  obtain ⟨m, rfl⟩ : ∃ m, n = m + 1 := ⟨n - 1, by omega⟩
  show stripF q (m + 1) (m + 1) = _
  rw [stripF, if_pos h]
  exact stripF_enough q hq _ _ _ h3 (by omega) (by omega)
theorem strip_not {q n : Nat} (hn : 1 ≤ n) (h : n % q ≠ 0) : strip q n = n := by
  obtain ⟨m, rfl⟩ : ∃ m, n = m + 1 := ⟨n - 1, by omega⟩
  show stripF q (m + 1) (m + 1) = _
  rw [stripF, if_neg h]
theorem strip_spec {q : Nat} (hq : 2 ≤ q) : ∀ n, 1 ≤ n → q ^ valN q n * strip q n = n ∧ 1 ≤ strip q n ∧ strip q n % q ≠ 0 ∧ strip q n ≤ n := fun n => by
  induction n using Nat.strongRecOn with
  | _ n ih =>
    intro hn
    by_cases h : n % q = 0
    · obtain ⟨h2, h3, h4⟩ := valN_div hq hn h
      obtain ⟨i1, i2, i3, i4⟩ := ih (n / q) h4 h3
      rw [strip_div hq hn h, h2, Nat.pow_succ, Nat.mul_comm (q ^ _) q, Nat.mul_assoc, i1]
      exact ⟨Nat.mul_div_cancel' (Nat.dvd_of_mod_eq_zero h), i2, i3, by omega⟩
    · rw [strip_not hn h, valN_not hn h, Nat.pow_zero, Nat.one_mul]
      exact ⟨rfl, hn, h, Nat.le_refl _⟩
/-- The next number to try. -/
def nextP (n p : Nat) : Nat := if n < p * p then n else p
/-- The factors of n, those below p already taken out; with a bound on the rounds. -/
def facF : Nat → Nat → Nat → List (Nat × Nat)
  | 0, _, _ => []
  | f + 1, n, p => if n ≤ 1 then [] else if n % nextP n p = 0 then (nextP n p, valN (nextP n p) n) :: facF f (strip (nextP n p) n) (nextP n p + 1) else facF f n (nextP n p + 1)
def facs (N : Nat) : List (Nat × Nat) := facF (2 * N) N 2
/-- No number from 2 on below p divides n. -/
def Rough (n p : Nat) : Prop := 1 ≤ n ∧ 2 ≤ p ∧ ∀ d, 2 ≤ d → d < p → ¬ d ∣ n
theorem Rough.start {N : Nat} (h : 1 ≤ N) : Rough N 2 := ⟨h, Nat.le_refl _, fun d h1 h2 => by omega⟩
theorem Rough.le {n p : Nat} (h : Rough n p) (hn : 1 < n) : p ≤ n := by
  rcases Nat.lt_or_ge n p with h2 | h2
  · exact absurd (Nat.dvd_refl n) (h.2.2 n hn h2)
  · exact h2
/-- The number that is tried: at least p, at most n; below it nothing divides. -/
theorem Rough.tried {n p : Nat} (h : Rough n p) (hn : 1 < n) : p ≤ nextP n p ∧ nextP n p ≤ n ∧ 2 ≤ nextP n p ∧ ∀ d, 2 ≤ d → d < nextP n p → ¬ d ∣ n := by
  have hle := h.le hn
  have h2p := h.2.1
  unfold nextP
  by_cases hp : n < p * p
  · rw [if_pos hp]
    refine ⟨hle, Nat.le_refl _, hn, fun d h1 h2 hd => ?_⟩
    rcases Nat.lt_or_ge d p with h3 | h3
    · exact h.2.2 d h1 h3 hd
    · obtain ⟨e, rfl⟩ := hd
      have he : 2 ≤ e := by
        match e, h2 with
        | 0, h2 => omega
        | 1, h2 => omega
        | e + 2, _ => omega
      have hep : e < p := by
        rcases Nat.lt_or_ge e p with h4 | h4
        · exact h4
        · have := Nat.mul_le_mul h3 h4; omega
      exact h.2.2 e he hep (Nat.dvd_mul_left e d)
  · rw [if_neg hp]
    exact ⟨Nat.le_refl _, hle, h2p, h.2.2⟩
theorem Rough.no {n p : Nat} (h : Rough n p) (hn : 1 < n) (hd : n % nextP n p ≠ 0) : Rough n (nextP n p + 1) ∧ nextP n p = p ∧ p < n := by
  obtain ⟨h1, h2, h3, h4⟩ := h.tried hn
  refine ⟨⟨h.1, by omega, fun d d1 d2 dd => ?_⟩, ?_, ?_⟩
  · rcases Nat.lt_or_ge d (nextP n p) with h5 | h5
    · exact h4 d d1 h5 dd
    · have : d = nextP n p := by omega
      subst this
      exact hd (Nat.mod_eq_zero_of_dvd dd)
  · unfold nextP at hd ⊢
    by_cases hp : n < p * p
    · rw [if_pos hp] at hd; exact absurd (Nat.mod_self n) hd
    · rw [if_neg hp]
  · unfold nextP at hd
    by_cases hp : n < p * p
    · rw [if_pos hp] at hd; exact absurd (Nat.mod_self n) hd
    · rw [if_neg hp] at hd
      have := h.le hn
      rcases Nat.lt_or_ge p n with h5 | h5
      · exact h5
      · have : p = n := by omega
        subst this; exact absurd (Nat.mod_self p) hd
theorem Rough.yes {n p : Nat} (h : Rough n p) (hn : 1 < n) (hd : n % nextP n p = 0) : Rough (strip (nextP n p) n) (nextP n p + 1) := by
  obtain ⟨h1, h2, h3, h4⟩ := h.tried hn
  obtain ⟨s1, s2, s3, s4⟩ := strip_spec h3 n h.1
  refine ⟨s2, by omega, fun d d1 d2 dd => ?_⟩
  have hdn : d ∣ n := Nat.dvd_trans dd ⟨_, by rw [Nat.mul_comm]; exact s1.symm⟩
  rcases Nat.lt_or_ge d (nextP n p) with h5 | h5
  · exact h4 d d1 h5 hdn
  · have : d = nextP n p := by omega
    subst this
    exact s3 (Nat.mod_eq_zero_of_dvd dd)
theorem facF_done {f n p : Nat} (h : n ≤ 1) : facF f n p = [] := by
  cases f with
  | zero => rfl
  | succ f => rw [facF, if_pos h]
theorem facF_no {f n p : Nat} (hn : 1 < n) (hd : n % nextP n p ≠ 0) : facF (f + 1) n p = facF f n (nextP n p + 1) := by
  rw [facF, if_neg (by omega), if_neg hd]
theorem facF_yes {f n p : Nat} (hn : 1 < n) (hd : n % nextP n p = 0) : facF (f + 1) n p = (nextP n p, valN (nextP n p) n) :: facF f (strip (nextP n p) n) (nextP n p + 1) := by
  rw [facF, if_neg (by omega), if_pos hd]
/-- What is left of n is at most its half. -/
theorem strip_half {q n : Nat} (hq : 2 ≤ q) (hn : 1 ≤ n) (h : n % q = 0) : 2 * strip q n ≤ n := by
  obtain ⟨s1, s2, s3, s4⟩ := strip_spec hq n hn
  obtain ⟨v, _⟩ := valN_div hq hn h
  have h1 : q ^ 1 ≤ q ^ valN q n := Nat.pow_le_pow_right (by omega) (by omega)
  rw [Nat.pow_one] at h1
  have h2 : q * strip q n ≤ q ^ valN q n * strip q n := Nat.mul_le_mul_right _ h1
  have h3 : 2 * strip q n ≤ q * strip q n := Nat.mul_le_mul_right _ hq
  omega
theorem strip_self {n : Nat} (hn : 2 ≤ n) : strip n n = 1 := by
  rw [strip_div hn (by omega) (Nat.mod_self n), Nat.div_self (by omega), strip_not (Nat.le_refl _) (by rw [Nat.mod_eq_of_lt (by omega)]; omega)]
/-- The fuel that is left serves. -/
theorem fuel_yes {f n p : Nat} (h : Rough n p) (hn : 1 < n) (hd : n % nextP n p = 0) (hf : 2 * n ≤ f + 1 + p) : 2 * strip (nextP n p) n ≤ f + (nextP n p + 1) := by
  obtain ⟨h1, h2, h3, h4⟩ := h.tried hn
  have := strip_half h3 h.1 hd
  omega
theorem facF_length : ∀ (f n p : Nat), (facF f n p).length ≤ f
  | 0, n, p => by simp [facF]
  | f + 1, n, p => by
    rw [facF]
    split
    · simp
    · split
      · have := facF_length f (strip (nextP n p) n) (nextP n p + 1); simp; omega
      · have := facF_length f n (nextP n p + 1); omega
theorem valN_coprime {q m : Nat} (hq : 2 ≤ q) (hm : 1 ≤ m) (hc : Nat.Coprime q m) : ∀ x, 1 ≤ x → valN q (m * x) = valN q x := fun x => by
  induction x using Nat.strongRecOn with
  | _ x ih =>
    intro hx
    have hmx : 1 ≤ m * x := Nat.mul_pos hm hx
    by_cases h : x % q = 0
    · have h2 : (m * x) % q = 0 := Nat.mod_eq_zero_of_dvd (Nat.dvd_trans (Nat.dvd_of_mod_eq_zero h) (Nat.dvd_mul_left x m))
      obtain ⟨v1, v2, v3⟩ := valN_div hq hx h
      obtain ⟨u1, _, _⟩ := valN_div hq hmx h2
      rw [u1, v1, Nat.mul_div_assoc _ (Nat.dvd_of_mod_eq_zero h), ih (x / q) v3 v2]
    · have h2 : (m * x) % q ≠ 0 := fun h3 => h (Nat.mod_eq_zero_of_dvd (hc.dvd_of_dvd_mul_left (Nat.dvd_of_mod_eq_zero h3)))
      rw [valN_not hx h, valN_not hmx h2]
/-- The number that divides, the least one, is prime to what is left. -/
theorem tried_coprime {n p : Nat} (h : Rough n p) (hn : 1 < n) (hd : n % nextP n p = 0) : Nat.Coprime (nextP n p) (strip (nextP n p) n) := by
  obtain ⟨h1, h2, h3, h4⟩ := h.tried hn
  obtain ⟨s1, s2, s3, s4⟩ := strip_spec h3 n h.1
  have hg1 := Nat.gcd_dvd_left (nextP n p) (strip (nextP n p) n)
  have hg2 := Nat.gcd_dvd_right (nextP n p) (strip (nextP n p) n)
  have hgpos : 0 < Nat.gcd (nextP n p) (strip (nextP n p) n) := Nat.gcd_pos_of_pos_left _ (by omega)
  have hgn : Nat.gcd (nextP n p) (strip (nextP n p) n) ∣ n := Nat.dvd_trans hg2 ⟨_, by rw [Nat.mul_comm]; exact s1.symm⟩
  have hle := Nat.le_of_dvd (by omega) hg1
  show Nat.gcd _ _ = 1
  rcases Nat.lt_or_ge (Nat.gcd (nextP n p) (strip (nextP n p) n)) 2 with h5 | h5
  · omega
  · exfalso
    rcases Nat.lt_or_ge (Nat.gcd (nextP n p) (strip (nextP n p) n)) (nextP n p) with h6 | h6
    · exact h4 _ h5 h6 hgn
    · have h7 : Nat.gcd (nextP n p) (strip (nextP n p) n) = nextP n p := by omega
      rw [h7] at hg2
      exact s3 (Nat.mod_eq_zero_of_dvd hg2)
theorem facF_val : ∀ (f n p m : Nat), Rough n p → 1 ≤ m → Nat.Coprime m n → ∀ e ∈ facF f n p, 2 ≤ e.1 ∧ e.1 ≤ n ∧ valN e.1 (m * n) = e.2
  | 0, n, p, m, h, hm, hc, e, he => by rw [facF] at he; cases he
  | f + 1, n, p, m, h, hm, hc, e, he => by
    by_cases hn : n ≤ 1
    · rw [facF, if_pos hn] at he; cases he
    · have hn1 : 1 < n := by omega
      obtain ⟨h1, h2, h3, h4⟩ := h.tried hn1
      by_cases hd : n % nextP n p = 0
      · rw [facF_yes hn1 hd] at he
        obtain ⟨s1, s2, s3, s4⟩ := strip_spec h3 n h.1
        have hcq : Nat.Coprime (nextP n p) m := (Nat.Coprime.coprime_dvd_right (Nat.dvd_of_mod_eq_zero hd) hc).symm
        rcases List.mem_cons.1 he with rfl | he
        · exact ⟨h3, h2, valN_coprime h3 hm hcq n h.1⟩
        · have hcs : Nat.Coprime m (strip (nextP n p) n) := Nat.Coprime.coprime_dvd_right ⟨_, by rw [Nat.mul_comm]; exact s1.symm⟩ hc
          have hc2 : Nat.Coprime (m * nextP n p ^ valN (nextP n p) n) (strip (nextP n p) n) := Nat.Coprime.mul_left hcs ((tried_coprime h hn1 hd).pow_left _)
          obtain ⟨i1, i2, i3⟩ := facF_val f _ _ _ (h.yes hn1 hd) (Nat.mul_pos hm (Nat.pow_pos (by omega))) hc2 e he
          rw [Nat.mul_assoc, s1] at i3
          exact ⟨i1, by omega, i3⟩
      · rw [facF_no hn1 hd] at he
        exact facF_val f _ _ _ (h.no hn1 hd).1 hm hc e he
theorem facs_val {N : Nat} (hN : 1 ≤ N) : ∀ e ∈ facs N, 2 ≤ e.1 ∧ e.1 ≤ N ∧ valN e.1 N = e.2 := fun e he => by
  have := facF_val _ N 2 1 (Rough.start hN) (Nat.le_refl _) (Nat.coprime_one_left N) e he
  rwa [Nat.one_mul] at this
end Go.Proofs.Ytklhmaegpejdbaa
