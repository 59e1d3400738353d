/- Laws of primes in plain numbers: factors, primitive roots, logarithms, valuations. -/
import Derived.Test.YtklhmaegpejdbaaReLaw
import Derived.Test.YtklhmaegpejdbaaLoW
import Derived.Test.YtklhmaegpejdbaaPrW
import Derived.Test.YtklhmaegpejdbaaVaW
import Derived.Test.YtklhmaegpejdbaaPuW
import Derived.Test.YtklhmaegpejdbaaFaW
namespace Go.Proofs.Ytklhmaegpejdbaa
open Go.RowKit
set_option linter.unusedVariables false
set_option linter.unusedSimpArgs false
def pprod : List (Nat × Nat) → Nat
  | [] => 1
  | e :: l => e.1 ^ e.2 * pprod l
theorem pprod_append : ∀ l m : List (Nat × Nat), pprod (l ++ m) = pprod l * pprod m
  | [], m => by simp [pprod]
  | e :: l, m => by simp only [List.cons_append, pprod, pprod_append l m, Nat.mul_assoc]
theorem facF_prod : ∀ (f n p : Nat), Rough n p → 2 * n ≤ f + p → pprod (facF f n p) = n
  | 0, n, p, h, hf => by
    have : n = 1 := by
      rcases Nat.lt_or_ge 1 n with h1 | h1
      · have := h.le h1; omega
      · have := h.1; omega
    subst this; rfl
  | f + 1, n, p, h, hf => by
    by_cases hn : n ≤ 1
    · rw [facF, if_pos hn]; have := h.1; show 1 = n; omega
    · have hn1 : 1 < n := by omega
      obtain ⟨h1, h2, h3, h4⟩ := h.tried hn1
      by_cases hd : n % nextP n p = 0
      · rw [facF_yes hn1 hd]
        show _ ^ _ * pprod _ = n
        rw [facF_prod f _ _ (h.yes hn1 hd) (fuel_yes h hn1 hd hf)]
        exact (strip_spec h3 n h.1).1
      · rw [facF_no hn1 hd]
        obtain ⟨r, e, hlt⟩ := h.no hn1 hd
        exact facF_prod f _ _ r (by omega)
theorem facF_mem : ∀ (f n p : Nat), Rough n p → ∀ e ∈ facF f n p, p ≤ e.1 ∧ 2 ≤ e.1 ∧ 1 ≤ e.2 ∧ ∀ d, 2 ≤ d → d < e.1 → ¬ d ∣ e.1
  | 0, n, p, h, e, he => by rw [facF] at he; cases he
  | f + 1, n, p, h, e, he => by
    by_cases hn : n ≤ 1
    · rw [facF, if_pos hn] at he; cases he
    · have hn1 : 1 < n := by omega
      obtain ⟨h1, h2, h3, h4⟩ := h.tried hn1
      by_cases hd : n % nextP n p = 0
      · rw [facF_yes hn1 hd] at he
        rcases List.mem_cons.1 he with rfl | he
        · obtain ⟨v1, _, _⟩ := valN_div h3 h.1 hd
          exact ⟨h1, h3, by show 1 ≤ valN _ _; omega, fun d d1 d2 dd => h4 d d1 d2 (Nat.dvd_trans dd (Nat.dvd_of_mod_eq_zero hd))⟩
        · obtain ⟨i1, i2⟩ := facF_mem f _ _ (h.yes hn1 hd) e he
          exact ⟨by omega, i2⟩
      · rw [facF_no hn1 hd] at he
        obtain ⟨i1, i2⟩ := facF_mem f _ _ (h.no hn1 hd).1 e he
        exact ⟨by omega, i2⟩
theorem facF_sorted : ∀ (f n p : Nat), Rough n p → (facF f n p).Pairwise (fun a b => a.1 < b.1)
  | 0, n, p, h => by rw [facF]; exact List.Pairwise.nil
  | f + 1, n, p, h => by
    by_cases hn : n ≤ 1
    · rw [facF, if_pos hn]; exact List.Pairwise.nil
    · have hn1 : 1 < n := by omega
      by_cases hd : n % nextP n p = 0
      · rw [facF_yes hn1 hd]
        refine List.pairwise_cons.2 ⟨fun e he => ?_, facF_sorted f _ _ (h.yes hn1 hd)⟩
        have := (facF_mem f _ _ (h.yes hn1 hd) e he).1
        show nextP n p < e.1
        omega
      · rw [facF_no hn1 hd]
        exact facF_sorted f _ _ (h.no hn1 hd).1
theorem facs_prod {N : Nat} (hN : 1 ≤ N) : pprod (facs N) = N := facF_prod _ N 2 (Rough.start hN) (by omega)
theorem facs_lt {N i : Nat} {a b : Nat × Nat} (hN : 1 ≤ N) (h : (facs N)[i]? = some a) (h2 : (facs N)[i + 1]? = some b) : a.1 < b.1 := by
  have hp := List.pairwise_iff_getElem.1 (facF_sorted (2 * N) N 2 (Rough.start hN))
  obtain ⟨l1, e1⟩ := List.getElem?_eq_some_iff.1 h
  obtain ⟨l2, e2⟩ := List.getElem?_eq_some_iff.1 h2
  have := hp i (i + 1) l1 l2 (by omega)
  have e1' : (facF (2 * N) N 2)[i] = a := e1
  have e2' : (facF (2 * N) N 2)[i + 1] = b := e2
  rwa [e1', e2'] at this
theorem small_prime {q : Nat} (h2 : 2 ≤ q) (h9 : q ≤ 997) (h : ∀ d, 2 ≤ d → d < q → ¬ d ∣ q) : primeB (q : Int) = true := by
  refine primeB_of (d := (q : Int)) (by omega) (by omega) (by omega) ?_ (fun k k0 k1 hk => ?_)
  · have : (q : Int) * 2 ≤ (q : Int) * q := Int.mul_le_mul_of_nonneg_left (by omega) (by omega)
    omega
  · obtain ⟨d, rfl⟩ := Int.eq_ofNat_of_zero_le (show 0 ≤ k by omega)
    exact h d (by omega) (by omega) (Nat.dvd_of_mod_eq_zero (by exact_mod_cast hk))
/-- What the law says of factor i. -/
theorem fac_step {N i q k : Nat} (hN : 1 ≤ N) (h : (facs N)[i]? = some (q, k)) :
    1 ≤ k ∧ 2 ≤ q ∧ q ≤ N ∧ k ≤ N ∧ (q ≤ 997 → primeB (q : Int) = true) ∧ (∀ j, j ≤ k → pprod ((facs N).take i) * q ^ j ≤ N) ∧ pprod ((facs N).take (i + 1)) = pprod ((facs N).take i) * q ^ k := by
  obtain ⟨hlt, he⟩ := List.getElem?_eq_some_iff.1 h
  have hm : (q, k) ∈ facs N := by rw [← he]; exact List.getElem_mem hlt
  obtain ⟨m1, m2, m3, m4⟩ := facF_mem (2 * N) N 2 (Rough.start hN) (q, k) hm
  have hv := facs_val hN (q, k) hm
  have e1 : pprod ((facs N).take (i + 1)) = pprod ((facs N).take i) * q ^ k := by
    rw [List.take_add_one, h, pprod_append]
    simp [pprod]
  have e2 : pprod ((facs N).take (i + 1)) * pprod ((facs N).drop (i + 1)) = N := by
    rw [← pprod_append, List.take_append_drop, facs_prod hN]
  refine ⟨m3, m2, hv.2.1, valN_le hv.2.2 hN hv.1, fun h9 => small_prime m2 h9 m4, fun j hj => ?_, e1⟩
  have h3 : pprod ((facs N).take (i + 1)) ≤ N := Nat.le_of_dvd (by omega) ⟨_, e2.symm⟩
  have h4 : q ^ j ≤ q ^ k := Nat.pow_le_pow_right (by omega) hj
  have h5 := Nat.mul_le_mul_left (pprod ((facs N).take i)) h4
  omega
theorem prim_law {p : Int} (h : primeB p = true) : (2 ≤ p ∧ p ≤ 997) ∧ unitB (primI p) p = true ∧ orderR (primI p) p = p - 1 := by
  obtain ⟨h0, h1⟩ := primeB_range h
  obtain ⟨P, rfl⟩ := Int.eq_ofNat_of_zero_le (show 0 ≤ p by omega)
  obtain ⟨n1, n2, n3⟩ := primeN_of h
  obtain ⟨s1, s2, s3, _⟩ := primR_spec n1 n3
  have e : primI (P : Int) = ((primR P : Nat) : Int) := by unfold primI; rw [if_pos h]; simp
  have hm : ((primR P : Nat) : Int) % (P : Int) = ((primR P : Nat) : Int) := Int.emod_eq_of_lt (by omega) (by omega)
  have hu : unitB ((primR P : Nat) : Int) (P : Int) = true := by
    rw [unitB_iff]
    refine ⟨?_, by rw [hm]; omega⟩
    unfold fitsB
    rw [h, Bool.true_and]
    exact inB_iff.2 ⟨by omega, by omega⟩
  rw [e]
  refine ⟨⟨h0, h1⟩, hu, ?_⟩
  unfold orderR
  rw [if_pos hu, ordI_nat s2, s3]
  omega
theorem log_law {a g p : Int} (h : logB a g p = true) : (0 ≤ logR a g p ∧ logR a g p ≤ 997) ∧ powerB g (logR a g p) p = true ∧ fitsB a p = true ∧ powerR g (logR a g p) p = residueR a p := by
  have hb := h
  unfold logB logA at h
  simp only [Bool.and_eq_true] at h
  obtain ⟨⟨hf, hu⟩, hs⟩ := h
  obtain ⟨n, hn⟩ := Option.isSome_iff_exists.1 hs
  have hr : logR a g p = (n : Int) := by unfold logR; rw [if_pos hb, hn]; rfl
  obtain ⟨hp, ⟨p0, p1⟩, a0, a1⟩ := fitsB_range hf
  have hg := fitsB_range (unit_fits hu)
  unfold logO logN at hn
  have h1 := List.mem_of_find?_eq_some hn
  have h2 := List.find?_some hn
  rw [List.mem_range] at h1
  have hw : powerB g (n : Int) p = true := by
    unfold powerB
    rw [unit_fits hu, Bool.true_and]
    exact inB_iff.2 ⟨by omega, by omega⟩
  rw [hr]
  refine ⟨⟨by omega, by omega⟩, hw, hf, ?_⟩
  unfold powerR residueR
  rw [if_pos hw, if_pos hf]
  unfold powI
  have h3 : (g % p).toNat ^ n % p.toNat = (a % p).toNat := by simpa using h2
  rw [Int.toNat_natCast, h3]
  exact Int.toNat_of_nonneg (Int.emod_nonneg _ (by omega))
theorem val_more {P k V : Nat} {y : Int} (hP : 2 ≤ P) (hy : 1 ≤ y.natAbs) (h : k + valN P y.natAbs = V) (hk : k < V) :
    (y.tmod P == 0) = true ∧ 1 ≤ (y.tdiv P).natAbs ∧ (y.tdiv P).natAbs < y.natAbs ∧ k + 1 + valN P (y.tdiv P).natAbs = V := by
  by_cases hd : y.natAbs % P = 0
  · obtain ⟨v1, v2, v3⟩ := valN_div hP hy hd
    have hq := tdiv_natAbs y P
    rw [← hq] at v1 v2 v3
    exact ⟨by rw [tmod_natAbs]; simp [hd], v2, v3, by omega⟩
  · rw [valN_not hy hd] at h; omega
theorem val_done {P k V : Nat} {y : Int} (hP : 2 ≤ P) (hy : 1 ≤ y.natAbs) (h : k + valN P y.natAbs = V) (hk : ¬ k < V) : (y.tmod P == 0) = false := by
  rw [tmod_natAbs]
  by_cases hd : y.natAbs % P = 0
  · obtain ⟨v1, v2, v3⟩ := valN_div hP hy hd
    omega
  · simp [hd]
theorem pL_law {m x : Int} (h : x ∈ Pu.pL m) : x ≤ m ∧ 2 ≤ x ∧ primeB x = true := by
  unfold Pu.pL at h
  split at h
  · rename_i hc
    obtain ⟨c0, c1⟩ := inB_iff.1 hc
    unfold gath at h
    obtain ⟨j, hj, rfl⟩ := List.mem_map.1 h
    obtain ⟨h1, h2⟩ := List.mem_filter.1 hj
    rw [List.mem_range] at h1
    exact ⟨by unfold Pu.pF; omega, by unfold Pu.pF; omega, h2⟩
  · cases h
end Go.Proofs.Ytklhmaegpejdbaa
