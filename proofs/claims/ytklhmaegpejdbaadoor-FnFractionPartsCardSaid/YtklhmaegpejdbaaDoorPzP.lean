/- Reading a whole: the plain words. -/
import Derived.Test.YtklhmaegpejdbaaDoorWtS
import Derived.Test.YtklhmaegpejdbaaDoorWhKit
namespace Go.Proofs.YtklhmaegpejdbaaDoor
set_option linter.unusedVariables false
set_option linter.unusedSimpArgs false
/-- A decimal digit. -/
def isDg (b : UInt8) : Bool := decide (48 ≤ b.toNat) && decide (b.toNat ≤ 57)
def dgV (b : UInt8) : Int := (b.toNat : Int) - 48
theorem isDg_iff {b : UInt8} : isDg b = true ↔ 48 ≤ b.toNat ∧ b.toNat ≤ 57 := by simp [isDg]
theorem dgV_range {b : UInt8} (h : isDg b = true) : 0 ≤ dgV b ∧ dgV b ≤ 9 := by have := isDg_iff.1 h; unfold dgV; omega
def numV (l : List UInt8) : Int := l.foldl (fun a b => 10 * a + dgV b) 0
theorem numV_nil : numV [] = 0 := rfl
theorem numV_snoc (l : List UInt8) (b : UInt8) : numV (l ++ [b]) = 10 * numV l + dgV b := by simp [numV, List.foldl_append]
def AllDg (l : List UInt8) : Prop := ∀ b ∈ l, isDg b = true
theorem AllDg.nil : AllDg [] := fun b h => by cases h
theorem AllDg.append {l m : List UInt8} (h : AllDg l) (k : AllDg m) : AllDg (l ++ m) := fun b hb => by
  rcases List.mem_append.1 hb with h1 | h1
  · exact h b h1
  · exact k b h1
theorem AllDg.take {l : List UInt8} (h : AllDg l) (k : Nat) : AllDg (l.take k) := fun b hb => h b (List.mem_of_mem_take hb)
theorem AllDg.drop {l : List UInt8} (h : AllDg l) (k : Nat) : AllDg (l.drop k) := fun b hb => h b (List.mem_of_mem_drop hb)
theorem AllDg.one {b : UInt8} (h : isDg b = true) : AllDg [b] := fun c hc => by
  rw [List.mem_singleton] at hc; rw [hc]; exact h
theorem fold_range : ∀ (l : List UInt8) (a : Int), 0 ≤ a → AllDg l → 0 ≤ l.foldl (fun a b => 10 * a + dgV b) a ∧ l.foldl (fun a b => 10 * a + dgV b) a < (a + 1) * 10 ^ l.length
  | [], a, h, _ => by simp; omega
  | b :: l, a, h, hd => by
    have hb := dgV_range (hd b (List.mem_cons_self ..))
    have ih := fold_range l (10 * a + dgV b) (by omega) (fun c hc => hd c (List.mem_cons_of_mem _ hc))
    rw [List.foldl_cons]
    refine ⟨ih.1, Int.lt_of_lt_of_le ih.2 ?_⟩
    rw [List.length_cons, Int.pow_succ, Int.mul_comm (10 ^ l.length) 10, ← Int.mul_assoc]
    exact Int.mul_le_mul_of_nonneg_right (by omega) (Int.le_of_lt (Int.pow_pos (by omega)))
theorem numV_range {l : List UInt8} (h : AllDg l) : 0 ≤ numV l ∧ numV l < 10 ^ l.length := by
  have := fold_range l 0 (Int.le_refl _) h
  simpa [numV] using this
theorem numV_four {l : List UInt8} (h : AllDg l) (hl : l.length ≤ 4) : 0 ≤ numV l ∧ numV l ≤ 9999 := by
  have h1 := numV_range h
  have h2 : (10 : Int) ^ l.length ≤ 10 ^ 4 := by
    obtain ⟨k, hk⟩ : ∃ k, 4 = l.length + k := ⟨4 - l.length, by omega⟩
    rw [hk, Int.pow_add]
    have h3 : (0 : Int) < 10 ^ l.length := Int.pow_pos (by omega)
    have h4 : (0 : Int) < 10 ^ k := Int.pow_pos (by omega)
    have := Int.mul_le_mul_of_nonneg_left (show (1 : Int) ≤ 10 ^ k by omega) (Int.le_of_lt h3)
    omega
  have h5 : (10 : Int) ^ 4 = 10000 := by decide
  omega
/-- The digits from e - 4 on below e. -/
def chunk (D : List UInt8) (e : Nat) : List UInt8 := (D.take e).drop (e - 4)
theorem chunk_length {D : List UInt8} {e : Nat} (h : e ≤ D.length) : (chunk D e).length = e - (e - 4) := by
  unfold chunk; rw [List.length_drop, List.length_take, Nat.min_eq_left h]
theorem AllDg.chunk {D : List UInt8} (h : AllDg D) (e : Nat) : AllDg (chunk D e) := (h.take e).drop _
/-- The limbs of the digits below e, the last first. -/
def LB (D : List UInt8) (e : Nat) : List Int := if h : e = 0 then [] else numV (chunk D e) :: LB D (e - 4)
termination_by e
decreasing_by omega
theorem LB_zero (D : List UInt8) : LB D 0 = [] := by rw [LB]; simp
theorem LB_pos (D : List UInt8) {e : Nat} (h : e ≠ 0) : LB D e = numV (chunk D e) :: LB D (e - 4) := by rw [LB]; simp [h]
theorem LB_length (D : List UInt8) : ∀ e, e ≤ 4 * (LB D e).length ∧ 4 * (LB D e).length < e + 4 := fun e => by
  induction e using Nat.strongRecOn with
  | _ e ih =>
    by_cases h : e = 0
    · subst h; rw [LB_zero]; simp
    · have := ih (e - 4) (by omega)
      rw [LB_pos D h, List.length_cons]
      omega
theorem LB_Dig {D : List UInt8} (hd : AllDg D) : ∀ e, e ≤ D.length → Dig (LB D e) := fun e => by
  induction e using Nat.strongRecOn with
  | _ e ih =>
    intro he
    by_cases h : e = 0
    · subst h; rw [LB_zero]; exact Dig.nil
    · rw [LB_pos D h]
      exact Dig.cons (numV_four (hd.chunk e) (by rw [chunk_length he]; omega)) (ih (e - 4) (by omega) (by omega))
/-- The digits behind the sign. -/
def cutM : List UInt8 → Bool × List UInt8
  | [] => (false, [])
  | b :: l => if b = 45 then (true, l) else (false, b :: l)
def pwN (s : List UInt8) : Bool := (cutM s).1
def pwD (s : List UInt8) : List UInt8 := (cutM s).2
theorem cutM_cons (b : UInt8) (l : List UInt8) : cutM (b :: l) = if b = 45 then (true, l) else (false, b :: l) := rfl
theorem cutM_neg (l : List UInt8) : cutM (45 :: l) = (true, l) := by simp [cutM]
theorem cutM_pos {s : List UInt8} (h : ∀ l, s ≠ 45 :: l) : cutM s = (false, s) := by
  cases s with
  | nil => rfl
  | cons b l => rw [cutM_cons, if_neg (fun e => h l (by rw [e]))]
theorem pw_split (s : List UInt8) : s = (if pwN s then 45 :: pwD s else pwD s) := by
  cases s with
  | nil => rfl
  | cons b l =>
    unfold pwN pwD
    rw [cutM_cons]
    by_cases h : b = 45
    · rw [if_pos h, h]; rfl
    · rw [if_neg h]; rfl
theorem pw_size (s : List UInt8) : s.length = (pwD s).length + (if pwN s then 1 else 0) := by
  have := congrArg List.length (pw_split s)
  cases h : pwN s <;> rw [h] at this <;> simp at this ⊢ <;> omega
def pwL (s : List UInt8) : List Int := LB (pwD s) (pwD s).length
def pwV (s : List UInt8) : Int := if pwN s then - dv (pwL s) else dv (pwL s)
def pwTx (s : List UInt8) : List UInt8 := wtL (wneg (pwV s)) (wlimbs (pwV s))
def pwB (s : List UInt8) : Bool := decide (1 ≤ (pwD s).length) && decide ((pwD s).length ≤ 1600) && (pwD s).all isDg && decide (pwTx s = s)
def pwZ (s : List UInt8) : Int := if pwB s then pwV s else 0
theorem all_iff {l : List UInt8} : l.all isDg = true ↔ AllDg l := by rw [List.all_eq_true]; rfl
theorem pwB_len {s : List UInt8} (h : ¬ (1 ≤ (pwD s).length ∧ (pwD s).length ≤ 1600)) : pwB s = false := by
  rw [Bool.eq_false_iff]; intro e; unfold pwB at e; simp only [Bool.and_eq_true, decide_eq_true_eq] at e; exact h ⟨e.1.1.1, e.1.1.2⟩
theorem pwB_dig {s : List UInt8} {k : Nat} {b : UInt8} (hb : (pwD s)[k]? = some b) (h : isDg b = false) : pwB s = false := by
  rw [Bool.eq_false_iff]; intro e; unfold pwB at e; simp only [Bool.and_eq_true, decide_eq_true_eq] at e
  have := all_iff.1 e.1.2 b (List.mem_of_getElem? hb)
  rw [h] at this; cases this
theorem pwB_all {s : List UInt8} (h1 : 1 ≤ (pwD s).length) (h2 : (pwD s).length ≤ 1600) (h3 : AllDg (pwD s)) : pwB s = decide (pwTx s = s) := by
  unfold pwB; rw [decide_eq_true h1, decide_eq_true h2, all_iff.2 h3]; rfl
theorem pwZ_no {s : List UInt8} (h : pwB s = false) : pwZ s = 0 := by unfold pwZ; rw [h]; rfl
theorem pwZ_yes {s : List UInt8} (h : pwB s = true) : pwZ s = pwV s := by unfold pwZ; rw [h]; rfl
theorem pwL_len (s : List UInt8) : (pwD s).length ≤ 4 * (pwL s).length ∧ 4 * (pwL s).length < (pwD s).length + 4 := LB_length _ _
theorem pwL_Dig {s : List UInt8} (h : AllDg (pwD s)) : Dig (pwL s) := LB_Dig h _ (Nat.le_refl _)
/-- The limbs that impl's text keeps. -/
def keepL (L : List Int) : List Int := if L = [0] then [] else L
theorem dv_keep (L : List Int) : dv (keepL L) = dv L := by
  unfold keepL; split
  · rename_i h; rw [h]; rfl
  · rfl
theorem keep_Dig {L : List Int} (h : Dig L) : Dig (keepL L) := by
  unfold keepL; split
  · exact Dig.nil
  · exact h
theorem pw_good {s : List UInt8} (h : goodB (pwN s) (keepL (pwL s)) = true) : pwN s = wneg (pwV s) ∧ keepL (pwL s) = wlimbs (pwV s) := by
  obtain ⟨z, h1, h2, h3⟩ := goodB_of h
  have h4 : pwV s = valZ (wneg z) (wlimbs z) := by
    unfold pwV valZ; rw [h1, ← h2, dv_keep]
  rw [valZ_whole] at h4
  rw [h4]
  exact ⟨h1, h2⟩
theorem sgL_len (b : Bool) : (sgL b).length ≤ 1 := by cases b <;> simp [sgL]
/-- A number whose limbs are fewer than those that were read has a shorter text. -/
theorem pw_bad {s : List UInt8} (hd : AllDg (pwD s)) (hl : 1 ≤ (pwD s).length) (hm : (pwD s).length ≤ 1600) (h : goodB (pwN s) (keepL (pwL s)) = false) : pwTx s ≠ s := by
  have hlen := pwL_len s
  have hsz := pw_size s
  have hdig := pwL_Dig hd
  obtain ⟨hw1, hw2⟩ := signed_neg hdig (z := pwV s) (neg := pwN s) rfl
  intro e
  have hel := congrArg List.length e
  rw [hsz] at hel
  unfold pwTx wtL at hel
  by_cases h0 : pwL s = [0]
  · have hz : dv (pwL s) = 0 := by rw [h0]; rfl
    rw [hz] at hw2
    have hn : wlimbs (pwV s) = [] := by rw [hw2]; exact digs_zero
    rw [hn, if_pos rfl] at hel
    have hneg : pwN s = true := by
      unfold keepL at h
      rw [if_pos h0, ] at h
      cases hb : pwN s
      · rw [hb] at h; exact absurd h (by decide)
      · rfl
    rw [hneg, if_pos rfl] at hel
    simp only [List.length_singleton] at hel
    omega
  · have hk : keepL (pwL s) = pwL s := by unfold keepL; rw [if_neg h0]
    rw [hk] at h
    have hlast : (pwL s)[(pwL s).length - 1]? = some 0 := by
      rcases Classical.em ((pwL s)[(pwL s).length - 1]? = some 0) with h1 | h1
      · exact h1
      · have := (goodB_iff (neg := pwN s)).2 ⟨show (pwL s).length ≤ 400 by omega, .inl (show 0 < (pwL s).length by omega), hdig, h1⟩
        rw [this] at h; cases h
    have h2 : 2 ≤ (pwL s).length := by
      rcases Nat.lt_or_ge (pwL s).length 2 with h3 | h3
      · have h4 : (pwL s).length = 1 := by omega
        obtain ⟨x, hx⟩ := List.length_eq_one_iff.1 h4
        rw [hx] at hlast
        simp at hlast
        exact absurd (by rw [hx, hlast]) h0
      · exact h3
    have h5 : (wlimbs (pwV s)).length ≤ (pwL s).length - 1 := by
      rw [hw2, ← trim_digs hdig]
      obtain ⟨init, hi⟩ : ∃ init, pwL s = init ++ [0] := by
        refine ⟨(pwL s).take ((pwL s).length - 1), ?_⟩
        have := List.take_append_drop ((pwL s).length - 1) (pwL s)
        rw [List.drop_eq_getElem_cons (by omega), List.drop_eq_nil_of_le (by omega)] at this
        have hg := (List.getElem?_eq_some_iff.1 hlast).2
        rw [hg] at this
        exact this.symm
      rw [hi, trim_snoc_zero]
      have := trim_length init
      rw [List.length_append]; simp; omega
    have h6 := hT_len (wlimbs_Dig (pwV s))
    by_cases h7 : wlimbs (pwV s) = []
    · rw [if_pos h7] at hel
      simp at hel
      omega
    · rw [if_neg h7, List.length_append] at hel
      have h8 : (sgL (wneg (pwV s))).length ≤ (if pwN s then 1 else 0) := by
        rw [hw1]
        cases pwN s
        · simp [sgL]
        · exact sgL_len _
      omega
end Go.Proofs.YtklhmaegpejdbaaDoor
