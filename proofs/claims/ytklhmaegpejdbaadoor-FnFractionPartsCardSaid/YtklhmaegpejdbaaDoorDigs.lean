/- Numbers in base 10000: lists of digits, the least first. Plain lists and numbers, no program in sight. -/
namespace Go.Proofs.YtklhmaegpejdbaaDoor
set_option linter.unusedVariables false
/-- The number with given digits. -/
def dv : List Int → Int
  | [] => 0
  | x :: xs => x + 10000 * dv xs
/-- Each digit lies in 0..9999. -/
def Dig (xs : List Int) : Prop := ∀ x ∈ xs, 0 ≤ x ∧ x ≤ 9999
/-- The digits of a number, the last one not 0. -/
def digs (n : Nat) : List Int := if h : n = 0 then [] else ((n % 10000 : Nat) : Int) :: digs (n / 10000)
termination_by n
decreasing_by omega
/-- Without the zeros at the end. -/
def trim : List Int → List Int
  | [] => []
  | x :: xs => if x = 0 ∧ trim xs = [] then [] else x :: trim xs
theorem digs_zero : digs 0 = [] := by rw [digs]; simp
theorem digs_pos {n : Nat} (h : n ≠ 0) : digs n = ((n % 10000 : Nat) : Int) :: digs (n / 10000) := by rw [digs]; simp [h]
theorem digs_nil {n : Nat} (h : digs n = []) : n = 0 := by
  by_cases e : n = 0
  · exact e
  · rw [digs_pos e] at h; cases h
theorem Dig.nil : Dig [] := fun x h => by cases h
theorem Dig.cons {x : Int} {xs : List Int} (h : 0 ≤ x ∧ x ≤ 9999) (hs : Dig xs) : Dig (x :: xs) := fun y hy => by
  rcases List.mem_cons.1 hy with rfl | hy
  · exact h
  · exact hs y hy
theorem Dig.head {x : Int} {xs : List Int} (h : Dig (x :: xs)) : 0 ≤ x ∧ x ≤ 9999 := h x (List.mem_cons_self ..)
theorem Dig.tail {x : Int} {xs : List Int} (h : Dig (x :: xs)) : Dig xs := fun y hy => h y (List.mem_cons_of_mem _ hy)
theorem Dig.append {xs ys : List Int} (h : Dig xs) (h2 : Dig ys) : Dig (xs ++ ys) := fun y hy => by
  rcases List.mem_append.1 hy with hy | hy
  · exact h y hy
  · exact h2 y hy
theorem Dig.at {xs : List Int} (h : Dig xs) {k : Nat} {x : Int} (hx : xs[k]? = some x) : 0 ≤ x ∧ x ≤ 9999 := h x (List.mem_of_getElem? hx)
theorem Dig.take {xs : List Int} (h : Dig xs) (k : Nat) : Dig (xs.take k) := fun y hy => h y (List.mem_of_mem_take hy)
theorem Dig.drop {xs : List Int} (h : Dig xs) (k : Nat) : Dig (xs.drop k) := fun y hy => h y (List.mem_of_mem_drop hy)
theorem Dig.set {xs : List Int} (h : Dig xs) (k : Nat) {x : Int} (hx : 0 ≤ x ∧ x ≤ 9999) : Dig (xs.set k x) := fun y hy => by
  rcases List.mem_or_eq_of_mem_set hy with hy | rfl
  · exact h y hy
  · exact hx
theorem Dig.zeros (n : Nat) : Dig (List.replicate n 0) := fun y hy => by
  rw [List.eq_of_mem_replicate hy]; omega
theorem dv_nonneg : ∀ {xs : List Int}, Dig xs → 0 ≤ dv xs
  | [], _ => by simp [dv]
  | x :: xs, h => by
    have := dv_nonneg h.tail
    have := h.head
    simp only [dv]; omega
theorem dv_zeros : ∀ n : Nat, dv (List.replicate n 0) = 0
  | 0 => rfl
  | n + 1 => by rw [List.replicate_succ, dv, dv_zeros n]; rfl
theorem dv_append : ∀ xs ys : List Int, dv (xs ++ ys) = dv xs + 10000 ^ xs.length * dv ys
  | [], ys => by simp [dv]
  | x :: xs, ys => by
    rw [List.cons_append, dv, dv_append xs ys, dv, List.length_cons, Int.pow_succ, Int.mul_add, ← Int.mul_assoc, Int.mul_comm 10000 (10000 ^ xs.length)]
    omega
theorem pow_pos' (k : Nat) : (0 : Int) < 10000 ^ k := Int.pow_pos (by omega)
theorem dv_lt : ∀ {xs : List Int}, Dig xs → dv xs < 10000 ^ xs.length
  | [], _ => by simp [dv]
  | x :: xs, h => by
    have := dv_lt h.tail
    have := h.head
    rw [dv, List.length_cons, Int.pow_succ]; omega
theorem dv_set : ∀ (xs : List Int) (k : Nat) (x y : Int), xs[k]? = some x → dv (xs.set k y) = dv xs + (y - x) * 10000 ^ k
  | [], k, x, y, h => by simp at h
  | z :: xs, 0, x, y, h => by
    simp at h; subst h
    simp only [List.set_cons_zero, dv]; omega
  | z :: xs, k + 1, x, y, h => by
    have := dv_set xs k x y (by simpa using h)
    rw [List.set_cons_succ, dv, dv, this, Int.pow_succ, Int.mul_add, Int.mul_comm ((10000 : Int) ^ k) 10000, ← Int.mul_assoc, ← Int.mul_assoc, Int.mul_comm 10000 (y - x)]
    omega
theorem digs_Dig : ∀ n : Nat, Dig (digs n) := fun n => by
  induction n using Nat.strongRecOn with
  | _ n ih =>
    by_cases e : n = 0
    · subst e; rw [digs_zero]; exact Dig.nil
    · rw [digs_pos e]; exact Dig.cons (by omega) (ih _ (by omega))
theorem dv_digs : ∀ n : Nat, dv (digs n) = (n : Int) := fun n => by
  induction n using Nat.strongRecOn with
  | _ n ih =>
    by_cases e : n = 0
    · subst e; rw [digs_zero]; rfl
    · rw [digs_pos e, dv, ih _ (by omega)]; omega
theorem trim_digs : ∀ {xs : List Int}, Dig xs → trim xs = digs (dv xs).toNat
  | [], _ => by simp [trim, dv, digs_zero]
  | x :: xs, h => by
    have h1 := trim_digs h.tail
    have h2 := dv_nonneg h.tail
    have h3 := h.head
    rw [trim, h1, dv]
    by_cases e : x = 0 ∧ digs (dv xs).toNat = []
    · rw [if_pos e]
      have := digs_nil e.2
      have e2 : (x + 10000 * dv xs).toNat = 0 := by omega
      rw [e2, digs_zero]
    · rw [if_neg e]
      have hn : (x + 10000 * dv xs).toNat ≠ 0 := by
        intro h0
        refine e ⟨by omega, ?_⟩
        rw [show (dv xs).toNat = 0 by omega, digs_zero]
      rw [digs_pos hn]
      have e3 : (((x + 10000 * dv xs).toNat % 10000 : Nat) : Int) = x := by omega
      have e4 : (x + 10000 * dv xs).toNat / 10000 = (dv xs).toNat := by omega
      rw [e3, e4]
theorem trim_snoc_zero : ∀ xs : List Int, trim (xs ++ [0]) = trim xs
  | [] => by simp [trim]
  | x :: xs => by rw [List.cons_append, trim, trim, trim_snoc_zero xs]
theorem trim_snoc {x : Int} (h : x ≠ 0) : ∀ xs : List Int, trim (xs ++ [x]) = xs ++ [x]
  | [] => by simp [trim, h]
  | y :: xs => by
    rw [List.cons_append, trim, trim_snoc h xs, if_neg (by simp)]
theorem trim_length : ∀ xs : List Int, (trim xs).length ≤ xs.length
  | [] => by simp [trim]
  | x :: xs => by
    have := trim_length xs
    rw [trim]
    split
    · simp
    · simp only [List.length_cons]; omega
/-- A list whose last digit is not 0. -/
theorem digs_of {xs : List Int} (h : Dig xs) (hl : ∀ x, xs[xs.length - 1]? = some x → x ≠ 0) : xs = digs (dv xs).toNat := by
  rw [← trim_digs h]
  by_cases e : xs = []
  · subst e; rfl
  · have h1 := hl _ (by rw [← List.getLast?_eq_getElem?]; exact List.getLast?_eq_some_getLast e)
    have h2 := trim_snoc h1 xs.dropLast
    rw [List.dropLast_concat_getLast e] at h2
    exact h2.symm
theorem digs_last : ∀ (n : Nat) {x : Int}, (digs n)[(digs n).length - 1]? = some x → x ≠ 0 := fun n => by
  induction n using Nat.strongRecOn with
  | _ n ih =>
    intro x hx
    by_cases e : n = 0
    · subst e; rw [digs_zero] at hx; simp at hx
    · rw [digs_pos e] at hx
      by_cases e2 : n / 10000 = 0
      · rw [e2, digs_zero] at hx
        simp at hx
        omega
      · refine ih (n / 10000) (by omega) ?_
        have hne : digs (n / 10000) ≠ [] := fun h => e2 (digs_nil h)
        have hlen : 0 < (digs (n / 10000)).length := List.length_pos_iff.2 hne
        rw [List.length_cons, Nat.add_sub_cancel] at hx
        obtain ⟨l, hl⟩ : ∃ l, (digs (n / 10000)).length = l + 1 := ⟨_, (Nat.succ_pred_eq_of_pos hlen).symm⟩
        rw [hl] at hx ⊢
        simpa using hx
theorem digs_length_le {xs : List Int} (h : Dig xs) : (digs (dv xs).toNat).length ≤ xs.length := by
  rw [← trim_digs h]; exact trim_length xs
theorem lt_pow_digs (n : Nat) : (n : Int) < 10000 ^ (digs n).length := by
  have := dv_lt (digs_Dig n)
  rwa [dv_digs] at this
theorem digs_length_of_lt : ∀ (k n : Nat), (n : Int) < 10000 ^ k → (digs n).length ≤ k
  | 0, n, h => by
    have : n = 0 := by simp at h; omega
    subst this; rw [digs_zero]; simp
  | k + 1, n, h => by
    by_cases e : n = 0
    · subst e; rw [digs_zero]; simp
    · rw [digs_pos e, List.length_cons]
      have := digs_length_of_lt k (n / 10000) (by rw [Int.pow_succ] at h; omega)
      omega
theorem pow_le_pow' {a b : Nat} (h : a ≤ b) : (10000 : Int) ^ a ≤ 10000 ^ b := by
  obtain ⟨c, rfl⟩ := Nat.le.dest h
  rw [Int.pow_add]
  have h1 := pow_pos' a
  have h2 := pow_pos' c
  have h3 : (10000 : Int) ^ a * 1 ≤ 10000 ^ a * 10000 ^ c := Int.mul_le_mul_of_nonneg_left (by omega) (by omega)
  omega
theorem digs_length_mono {m n : Nat} (h : m ≤ n) : (digs m).length ≤ (digs n).length := by
  refine digs_length_of_lt _ _ ?_
  have := lt_pow_digs n
  omega
/-- dv at a prefix that is one longer. -/
theorem dv_take_succ {xs : List Int} {k : Nat} {x : Int} (h : xs[k]? = some x) : dv (xs.take (k + 1)) = dv (xs.take k) + 10000 ^ k * x := by
  have hk := (List.getElem?_eq_some_iff.1 h).1
  rw [List.take_add_one, h]
  simp only [Option.toList_some]
  rw [dv_append, List.length_take, Nat.min_eq_left (by omega), dv, dv, Int.mul_zero, Int.add_zero]
theorem dv_drop {xs : List Int} {k : Nat} {x : Int} (h : xs[k]? = some x) : dv (xs.drop k) = x + 10000 * dv (xs.drop (k + 1)) := by
  obtain ⟨hk, rfl⟩ := List.getElem?_eq_some_iff.1 h
  rw [List.drop_eq_getElem_cons hk, dv]
/-- A whole: what stands in Negative, what stands in Limbs. -/
def wneg (z : Int) : Bool := decide (z < 0)
def wlimbs (z : Int) : List Int := digs z.natAbs
/-- The number of digits. -/
def wlen (z : Int) : Nat := (wlimbs z).length
theorem wlen_neg (z : Int) : wlen (-z) = wlen z := by unfold wlen wlimbs; rw [Int.natAbs_neg]
theorem wlimbs_neg (z : Int) : wlimbs (-z) = wlimbs z := by unfold wlimbs; rw [Int.natAbs_neg]
theorem wlimbs_Dig (z : Int) : Dig (wlimbs z) := digs_Dig _
theorem dv_wlimbs (z : Int) : dv (wlimbs z) = (z.natAbs : Int) := dv_digs _
theorem wlen_add (a b : Int) : wlen (a + b) ≤ max (wlen a) (wlen b) + 1 := by
  refine digs_length_of_lt _ _ ?_
  have h1 := lt_pow_digs a.natAbs
  have h2 := lt_pow_digs b.natAbs
  have h3 := pow_le_pow' (Nat.le_max_left (wlen a) (wlen b))
  have h4 := pow_le_pow' (Nat.le_max_right (wlen a) (wlen b))
  have h5 : (10000 : Int) ^ (max (wlen a) (wlen b) + 1) = 10000 ^ (max (wlen a) (wlen b)) * 10000 := Int.pow_succ ..
  have e1 : (digs a.natAbs).length = wlen a := rfl
  have e2 : (digs b.natAbs).length = wlen b := rfl
  rw [e1] at h1
  rw [e2] at h2
  rw [h5]
  omega
theorem wlen_mul (a b : Int) : wlen (a * b) ≤ wlen a + wlen b := by
  refine digs_length_of_lt _ _ ?_
  have h1 := lt_pow_digs a.natAbs
  have h2 := lt_pow_digs b.natAbs
  rw [Int.natAbs_mul, Int.pow_add]
  push_cast
  have e1 : (digs a.natAbs).length = wlen a := rfl
  have e2 : (digs b.natAbs).length = wlen b := rfl
  rw [e1] at h1
  rw [e2] at h2
  exact Int.mul_lt_mul' (Int.le_of_lt h1) h2 (by omega) (pow_pos' _)
theorem wlen_le_of_le {a b : Int} (h : a.natAbs ≤ b.natAbs) : wlen a ≤ wlen b := digs_length_mono h
/-- A sign and digits. -/
theorem signed_neg {neg : Bool} {xs : List Int} (h : Dig xs) {z : Int} (hz : z = if neg then - dv xs else dv xs) : wneg z = (neg && decide (0 < (digs (dv xs).toNat).length)) ∧ wlimbs z = digs (dv xs).toNat := by
  have h0 := dv_nonneg h
  constructor
  · by_cases e : dv xs = 0
    · have : z = 0 := by rw [hz, e]; split <;> rfl
      subst this
      rw [e]
      simp [wneg, digs_zero]
    · have hp : 0 < (digs (dv xs).toNat).length := List.length_pos_iff.2 fun hn => by have := digs_nil hn; omega
      rw [decide_eq_true hp, Bool.and_true]
      cases neg <;> simp at hz <;> subst hz <;> simp [wneg] <;> omega
  · unfold wlimbs
    congr 1
    rw [hz]; split <;> omega
/-- The test of a whole. -/
def goodB (neg : Bool) (xs : List Int) : Bool := decide (xs.length ≤ 400) && (decide (0 < xs.length) || !neg) && decide (∀ x ∈ xs, 0 ≤ x ∧ x ≤ 9999) && decide (xs[xs.length - 1]? ≠ some 0)
theorem goodB_iff {neg : Bool} {xs : List Int} : goodB neg xs = true ↔ xs.length ≤ 400 ∧ (0 < xs.length ∨ neg = false) ∧ Dig xs ∧ xs[xs.length - 1]? ≠ some 0 := by
  simp [goodB, Dig, and_assoc]
theorem goodB_of {neg : Bool} {xs : List Int} (h : goodB neg xs = true) : ∃ z : Int, neg = wneg z ∧ xs = wlimbs z ∧ wlen z ≤ 400 := by
  obtain ⟨h1, h2, h3, h4⟩ := goodB_iff.1 h
  have e := digs_of h3 (fun x hx e => h4 (e ▸ hx))
  refine ⟨if neg then - dv xs else dv xs, ?_, ?_, ?_⟩
  · rw [(signed_neg h3 rfl).1, ← e]
    rcases h2 with h2 | h2
    · simp [h2]
    · simp [h2]
  · rw [(signed_neg h3 rfl).2, ← e]
  · unfold wlen
    rw [(signed_neg h3 rfl).2, ← e]; exact h1
theorem goodB_whole (z : Int) : goodB (wneg z) (wlimbs z) = decide (wlen z ≤ 400) := by
  rw [Bool.eq_iff_iff, goodB_iff, decide_eq_true_eq]
  constructor
  · exact fun h => h.1
  · refine fun h => ⟨h, ?_, wlimbs_Dig z, fun h => digs_last _ h rfl⟩
    by_cases e : z = 0
    · subst e; exact .inr rfl
    · refine .inl (List.length_pos_iff.2 fun hn => ?_)
      have := digs_nil hn
      omega
theorem whole_inj {a b : Int} (h1 : wneg a = wneg b) (h2 : wlimbs a = wlimbs b) : a = b := by
  have h3 : (a.natAbs : Int) = b.natAbs := by rw [← dv_wlimbs, ← dv_wlimbs, h2]
  simp [wneg] at h1
  omega
end Go.Proofs.YtklhmaegpejdbaaDoor
