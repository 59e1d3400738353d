/- int(math.Sqrt(float64(n))) lies within 0 and 131071 for n from 0 to 1000000000: in plain numbers, over the model's floats. -/
import Derived.Laws.FloatArith
import Derived.Test.YtklhmaegpejdbaaDoorFrame
namespace Go.Proofs.YtklhmaegpejdbaaDoor
set_option linter.unusedVariables false
set_option linter.unusedSimpArgs false
open Ieee
theorem dbl_binade : double.binade = 4503599627370496 := by decide +kernel
theorem dbl_inf : double.infRung = 2047 * 4503599627370496 := by decide +kernel
theorem dbl_sign : double.signWeight = 2048 * 4503599627370496 := by decide +kernel
theorem dbl_least : double.leastPlace = -1074 := by decide +kernel
theorem two53 : (2 : Nat) ^ 53 = 9007199254740992 := by decide +kernel
theorem cut_le (way : Toward) (n drop : Nat) : way.cut false n drop ≤ n / 2 ^ (min drop (n.log2 + 2)) + 1 := by
  unfold Toward.cut
  dsimp only
  rw [Nat.one_shiftLeft]
  have h : ∀ b : Bool, b.toNat ≤ 1 := fun b => by cases b <;> decide
  exact Nat.add_le_add_left (h _) _
theorem low_lt {mag : Nat} (h1 : 1 ≤ mag) (a b : Nat) (ha : a = 0 ∨ (b = 0 ∧ mag.log2 + a ≤ 52)) (hb : mag.log2 ≤ 52 + b) : (mag <<< a) / 2 ^ (min b ((mag <<< a).log2 + 2)) < 2 ^ 53 := by
  have hlt : mag < 2 ^ (mag.log2 + 1) := Nat.lt_log2_self
  rcases ha with rfl | ⟨rfl, ha⟩
  · rw [Nat.shiftLeft_zero]
    apply Nat.div_lt_of_lt_mul
    rw [← Nat.pow_add]
    refine Nat.lt_of_lt_of_le hlt (Nat.pow_le_pow_right (by omega) ?_)
    omega
  · rw [Nat.zero_min, Nat.pow_zero, Nat.div_one, Nat.shiftLeft_eq]
    calc mag * 2 ^ a < 2 ^ (mag.log2 + 1) * 2 ^ a := Nat.mul_lt_mul_of_pos_right hlt (Nat.two_pow_pos _)
      _ = 2 ^ (mag.log2 + 1 + a) := by rw [← Nat.pow_add]
      _ ≤ 2 ^ 53 := Nat.pow_le_pow_right (by omega) (by omega)
theorem nearest_le {mag : Nat} (h1 : 1 ≤ mag) (place last : Int) (hl : last = max (place + mag.log2 - 52) (-1074)) :
    double.nearest false mag place ≤ (last + 1074).toNat * 4503599627370496 + 9007199254740992 := by
  unfold Format.nearest
  rw [if_neg (by omega)]
  have e : max (place + (mag.log2 : Int) - (double.fractionBits : Nat)) double.leastPlace = last := by rw [dbl_least, hl]; rfl
  simp only [e]
  have hw : ∀ r, double.word false r = r := fun r => by simp [Format.word]
  rw [hw, dbl_binade, dbl_least]
  refine Nat.le_trans (Nat.min_le_left _ _) ?_
  rw [show last - -1074 = last + 1074 by omega]
  refine Nat.add_le_add_left ?_ _
  refine Nat.le_trans (cut_le _ _ _) ?_
  have := low_lt h1 (place - last).toNat (last - place).toNat (by omega) (by omega)
  rw [two53] at this
  omega
theorem read_of {r : Nat} (h : r < 2047 * 4503599627370496) : ∃ m e, double.read r = .number false m e ∧ m < 9007199254740992 ∧ e = -1074 + ((r / 4503599627370496 - 1 : Nat) : Int) := by
  unfold Format.read
  have h0 : r / double.signWeight = 0 := Nat.div_eq_of_lt (by rw [dbl_sign]; omega)
  have h1 : r % double.signWeight = r := Nat.mod_eq_of_lt (by rw [dbl_sign]; omega)
  simp only [h0, h1, dbl_binade, dbl_inf, dbl_least]
  by_cases c : r < 4503599627370496
  · rw [if_pos c]
    exact ⟨r, -1074, rfl, by omega, by omega⟩
  · rw [if_neg c, if_pos h]
    exact ⟨_, _, rfl, by omega, rfl⟩
theorem rootFrom_lt (n : Nat) : ∀ (todo root : Nat), Datum.rootFrom n todo root < root + 2 ^ todo
  | 0, root => by unfold Datum.rootFrom; omega
  | todo + 1, root => by
    unfold Datum.rootFrom
    dsimp only
    rw [Nat.one_shiftLeft]
    have hp : 2 ^ (todo + 1) = 2 ^ todo + 2 ^ todo := by rw [Nat.pow_succ]; omega
    have hq := Nat.two_pow_pos todo
    split
    · have := rootFrom_lt n todo (root + 2 ^ todo); omega
    · have := rootFrom_lt n todo root; omega
theorem root_of {m : Nat} {e : Int} (h0 : 1 ≤ m) (h1 : m < 9007199254740992) (he : e ≤ -22) :
    ∃ k p, (Datum.number false m e).root 54 = some (.number false k p) ∧ k < 2 ^ 56 ∧ p ≤ -40 := by
  have hlog : m.log2 ≤ 52 := by
    have : m.log2 < 53 := (Nat.log2_lt (by omega)).2 (by rw [two53]; omega)
    omega
  unfold Datum.root
  simp only [if_neg (show ¬ m = 0 by omega), Bool.false_eq_true, if_false]
  obtain ⟨more, hm⟩ : ∃ x, 2 * 54 - m.log2 + ((e - ((2 * 54 - m.log2 : Nat) : Int)) % 2).toNat = x := ⟨_, rfl⟩
  rw [hm]
  have hm0 : 56 ≤ more := by omega
  have hm1 : more + m.log2 ≤ 109 := by omega
  refine ⟨_, _, rfl, ?_, by omega⟩
  have hN : m <<< more < 2 ^ 110 := by
    rw [Nat.shiftLeft_eq]
    calc m * 2 ^ more < 2 ^ (m.log2 + 1) * 2 ^ more := Nat.mul_lt_mul_of_pos_right Nat.lt_log2_self (Nat.two_pow_pos _)
      _ = 2 ^ (m.log2 + 1 + more) := by rw [← Nat.pow_add]
      _ ≤ 2 ^ 110 := Nat.pow_le_pow_right (by omega) (by omega)
  have hpos : m <<< more ≠ 0 := by
    rw [Nat.shiftLeft_eq]
    have := Nat.mul_pos h0 (Nat.two_pow_pos more)
    omega
  have hl : (m <<< more).log2 < 110 := (Nat.log2_lt hpos).2 hN
  have hr := rootFrom_lt (m <<< more) ((m <<< more).log2 / 2 + 1) 0
  have h55 : 2 ^ ((m <<< more).log2 / 2 + 1) ≤ 2 ^ 55 := Nat.pow_le_pow_right (by omega) (by omega)
  have hb : ∀ b : Bool, b.toNat ≤ 1 := fun b => by cases b <;> decide
  have hb2 := hb (Datum.rootFrom (m <<< more) ((m <<< more).log2 / 2 + 1) 0 * Datum.rootFrom (m <<< more) ((m <<< more).log2 / 2 + 1) 0 != m <<< more)
  have e56 : (2 : Nat) ^ 56 = 2 * 2 ^ 55 := by decide +kernel
  rw [e56]
  omega
theorem int_of {r : Nat} (h : r ≤ 1039 * 4503599627370496) : ∃ t : Int, floatToIntVal .f64 r .i64 = some t ∧ 0 ≤ t ∧ t < 131072 := by
  obtain ⟨m, e, hr, hm, he⟩ := read_of (r := r) (by omega)
  have he2 : e ≤ -36 := by omega
  have hd : FloatKind.f64.decode r = .number false m e := hr
  obtain ⟨c, hc⟩ : ∃ c, Toward.zero.cut false (m <<< e.toNat) (-e).toNat = c := ⟨_, rfl⟩
  have hi : (Datum.number false m e).toInt .zero = some (c : Int) := by
    unfold Datum.toInt Datum.integral
    dsimp only
    rw [hc]
    simp [signed]
  have hlt : c < 131072 := by
    have e0 : e.toNat = 0 := by omega
    rw [e0, Nat.shiftLeft_zero] at hc
    have hc2 : c = m / 2 ^ (min (-e).toNat (m.log2 + 2)) := by
      rw [← hc]
      unfold Toward.cut
      dsimp only
      rw [Nat.one_shiftLeft]
      rfl
    rw [hc2]
    apply Nat.div_lt_of_lt_mul
    rcases Nat.le_total (-e).toNat (m.log2 + 2) with hle | hle
    · rw [Nat.min_eq_left hle]
      have h36 : 2 ^ 36 ≤ 2 ^ (-e).toNat := Nat.pow_le_pow_right (by omega) (by omega)
      have h36v : (2 : Nat) ^ 36 = 68719476736 := by decide +kernel
      omega
    · rw [Nat.min_eq_right hle]
      have h1 : m < 2 ^ (m.log2 + 1) := Nat.lt_log2_self
      have h2 : 2 ^ (m.log2 + 2) = 2 * 2 ^ (m.log2 + 1) := by rw [Nat.pow_succ, Nat.mul_comm]
      omega
  refine ⟨(c : Int), ?_, by omega, by omega⟩
  unfold floatToIntVal
  rw [hd, hi]
  dsimp only
  rw [if_pos]
  simp [IntKind.min, IntKind.max, IntKind.signed, IntKind.bits]
  omega
theorem sqrt_small (n : Nat) (hn : n ≤ 1000000000) : ∃ (r : Nat) (t : Int), FloatKind.f64.format.sqrt (floatOfInt .f64 (n : Int)) = some r ∧ floatToIntVal .f64 r .i64 = some t ∧ 0 ≤ t ∧ t < 131072 := by
  rcases Nat.eq_zero_or_pos n with h0 | h0
  · subst h0
    refine ⟨0, ?_⟩
    obtain ⟨t, h1, h2, h3⟩ := int_of (r := 0) (by omega)
    exact ⟨t, by decide +kernel, h1, h2, h3⟩
  · have hx : floatOfInt .f64 (n : Int) = double.nearest false n 0 := by
      show double.write (.number (decide ((n : Int) < 0)) (n : Int).natAbs 0) = _
      have : decide ((n : Int) < 0) = false := by simp
      rw [this, Int.natAbs_natCast]; rfl
    have hlog : n.log2 < 30 := (Nat.log2_lt (by omega)).2 (by have : (2 : Nat) ^ 30 = 1073741824 := by decide +kernel
                                                              omega)
    have k1 := nearest_le h0 0 _ rfl
    obtain ⟨x, hxx⟩ : ∃ x, double.nearest false n 0 = x := ⟨_, rfl⟩
    rw [hxx] at k1
    have k2 : x ≤ 1053 * 4503599627370496 := by
      have : (max ((0 : Int) + (n.log2 : Int) - 52) (-1074) + 1074).toNat ≤ 1051 := by omega
      have := Nat.mul_le_mul_right 4503599627370496 this
      omega
    obtain ⟨m, e, hr, hm, he⟩ := read_of (r := x) (by omega)
    have he2 : e ≤ -22 := by omega
    have hs : FloatKind.f64.format.sqrt (floatOfInt .f64 (n : Int)) = ((Datum.number false m e).root 54).map double.write := by
      rw [hx, hxx]
      show ((double.read x).root 54).map double.write = _
      rw [hr]
    rcases Nat.eq_zero_or_pos m with hm0 | hm0
    · subst hm0
      have e1 : double.write (Datum.number false 0 e) = 0 := rfl
      obtain ⟨t, h1, h2, h3⟩ := int_of (r := 0) (by omega)
      exact ⟨0, t, by rw [hs]; unfold Datum.root; dsimp only; rw [if_pos rfl]; simp [e1], h1, h2, h3⟩
    · obtain ⟨k, p, hroot, hk, hp⟩ := root_of hm0 hm he2
      have hs2 : FloatKind.f64.format.sqrt (floatOfInt .f64 (n : Int)) = some (double.nearest false k p) := by rw [hs, hroot]; rfl
      obtain ⟨r, hrr⟩ : ∃ r, double.nearest false k p = r := ⟨_, rfl⟩
      have hrb : r ≤ 1039 * 4503599627370496 := by
        rcases Nat.eq_zero_or_pos k with hk0 | hk0
        · subst hk0
          have : double.nearest false 0 p = 0 := rfl
          omega
        · have k3 := nearest_le hk0 p _ rfl
          rw [hrr] at k3
          have hlk : k.log2 < 56 := (Nat.log2_lt (by omega)).2 hk
          have : (max (p + (k.log2 : Int) - 52) (-1074) + 1074).toNat ≤ 1037 := by omega
          have := Nat.mul_le_mul_right 4503599627370496 this
          omega
      obtain ⟨t, h1, h2, h3⟩ := int_of hrb
      exact ⟨r, t, by rw [hs2, hrr], h1, h2, h3⟩
end Go.Proofs.YtklhmaegpejdbaaDoor
