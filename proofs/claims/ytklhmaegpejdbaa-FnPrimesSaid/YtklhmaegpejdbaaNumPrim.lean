/- What the kernel reckons for all primes up to 997: there is a residue of order p - 1. -/
import Derived.Test.YtklhmaegpejdbaaNumBig
namespace Go.Proofs.Ytklhmaegpejdbaa
def primOk (p : Nat) : Bool := !(primeN p) || (List.range p).any fun g => g != 0 && ordN g p == p - 1
theorem prim_all : (List.range 998).all primOk = true := by decide +kernel
theorem prim {p : Nat} (hp : primeN p = true) (h2 : p < 998) : ∃ g, 1 ≤ g ∧ g < p ∧ ordN g p = p - 1 := by
  have h3 := List.all_eq_true.1 prim_all p (List.mem_range.2 h2)
  unfold primOk at h3
  rw [hp] at h3
  simp only [Bool.not_true, Bool.false_or, List.any_eq_true] at h3
  obtain ⟨g, hg, h4⟩ := h3
  simp only [Bool.and_eq_true, bne_iff_ne, beq_iff_eq] at h4
  exact ⟨g, by omega, List.mem_range.1 hg, h4.2⟩
/-- The least residue of order p - 1. -/
def primR (p : Nat) : Nat := ((List.range p).find? fun g => g != 0 && ordN g p == p - 1).getD 0
theorem primR_spec {p : Nat} (hp : primeN p = true) (h2 : p < 998) : 1 ≤ primR p ∧ primR p < p ∧ ordN (primR p) p = p - 1 ∧ ∀ j, 1 ≤ j → j < primR p → ordN j p ≠ p - 1 := by
  obtain ⟨g, g0, g1, g2⟩ := prim hp h2
  unfold primR
  rcases h : (List.range p).find? fun g => g != 0 && ordN g p == p - 1 with _ | k
  · rw [List.find?_eq_none] at h
    exact absurd (show ((g != 0 && ordN g p == p - 1) = true) by simp [g2]; omega) (by simpa using h g (List.mem_range.2 g1))
  · rw [List.find?_range_eq_some] at h
    obtain ⟨h3, h4, h5⟩ := h
    simp only [Bool.and_eq_true, bne_iff_ne, beq_iff_eq] at h3
    refine ⟨by simp; omega, by simpa using List.mem_range.1 h4, by simpa using h3.2, fun j j0 j1 => ?_⟩
    have := h5 j (by simpa using j1)
    simp only [Bool.not_eq_true', Bool.and_eq_false_imp, bne_iff_ne, beq_eq_false_iff_ne] at this
    exact this (by omega)
end Go.Proofs.Ytklhmaegpejdbaa
