/- Reading a fraction: the plain words. -/
import Derived.Test.YtklhmaegpejdbaaDoorFtT
import Derived.Test.YtklhmaegpejdbaaDoorPzP
import Derived.Lib.AtoiAll
import Derived.Lib.Bytealg
namespace Go.Proofs.YtklhmaegpejdbaaDoor
set_option linter.unusedVariables false
set_option linter.unusedSimpArgs false
theorem dg_of {d : Nat} (h : d < 10) : isDg (UInt8.ofNat (48 + d)) = true ∧ (UInt8.ofNat (48 + d)).toNat = 48 + d := by
  have h2 : (UInt8.ofNat (48 + d)).toNat = 48 + d := by simp; omega
  exact ⟨isDg_iff.2 ⟨by omega, by omega⟩, h2⟩
theorem dec_ne (u : Nat) : Lib.decDigits u ≠ [] := by
  by_cases h : u < 10
  · rw [decDigits_small h]; simp
  · rw [decDigits_big h]; simp
theorem dec_All (u : Nat) : AllDg (Lib.decDigits u) := by
  induction u using Nat.strongRecOn with
  | _ u ih =>
    by_cases h : u < 10
    · rw [decDigits_small h]; exact AllDg.one (dg_of h).1
    · rw [decDigits_big h]
      exact (ih (u / 10) (by omega)).append (AllDg.one (dg_of (by omega)).1)
theorem numV_dec (u : Nat) : numV (Lib.decDigits u) = (u : Int) := by
  induction u using Nat.strongRecOn with
  | _ u ih =>
    by_cases h : u < 10
    · rw [decDigits_small h]
      have := (dg_of h).2
      show 10 * 0 + dgV _ = _
      unfold dgV; omega
    · rw [decDigits_big h, numV_snoc, ih (u / 10) (by omega)]
      have := (dg_of (show u % 10 < 10 by omega)).2
      unfold dgV; omega
theorem dec_short : ∀ (k u : Nat), u < 10 ^ (k + 1) → (Lib.decDigits u).length ≤ k + 1
  | 0, u, h => by rw [decDigits_small (by simpa using h)]; simp
  | k + 1, u, h => by
    by_cases h1 : u < 10
    · rw [decDigits_small h1]; simp
    · rw [decDigits_big h1, List.length_append]
      have := dec_short k (u / 10) (by rw [Nat.pow_succ] at h; omega)
      simp; omega
theorem dec_head (u : Nat) (h : 1 ≤ u) : ∃ b r, Lib.decDigits u = b :: r ∧ 49 ≤ b.toNat := by
  induction u using Nat.strongRecOn with
  | _ u ih =>
    by_cases h1 : u < 10
    · rw [decDigits_small h1]
      exact ⟨_, _, rfl, by rw [(dg_of h1).2]; omega⟩
    · rw [decDigits_big h1]
      obtain ⟨b, r, e, hb⟩ := ih (u / 10) (by omega) (by omega)
      rw [e]
      exact ⟨b, _, rfl, hb⟩
theorem puint_fold : ∀ (l : List UInt8) (acc : Nat), AllDg l → (acc + 1) * 10 ^ l.length ≤ 1000000000000000000 → ∃ v : Nat, Lib.parseUint10 acc l = .ok v ∧ (v : Int) = l.foldl (fun a b => 10 * a + dgV b) (acc : Int)
  | [], acc, _, _ => ⟨acc, rfl, rfl⟩
  | b :: r, acc, hd, hb => by
    have h1 := isDg_iff.1 (hd b (List.mem_cons_self ..))
    rw [List.length_cons, Nat.pow_succ, Nat.mul_comm (10 ^ r.length) 10, ← Nat.mul_assoc] at hb
    have hp : 1 ≤ 10 ^ r.length := Nat.pow_pos (by omega)
    have h2 : (acc + 1) * 10 * 1 ≤ (acc + 1) * 10 * 10 ^ r.length := Nat.mul_le_mul_left _ hp
    have h3 : (acc * 10 + (b.toNat - 48) + 1) * 10 ^ r.length ≤ (acc + 1) * 10 * 10 ^ r.length := Nat.mul_le_mul_right _ (by omega)
    obtain ⟨v, e1, e2⟩ := puint_fold r (acc * 10 + (b.toNat - 48)) (fun c hc => hd c (List.mem_cons_of_mem _ hc)) (by omega)
    refine ⟨v, ?_, ?_⟩
    · rw [Lib.parseUint10, if_pos h1, if_neg (by omega), if_neg (by omega), e1]
    · rw [e2, List.foldl_cons]
      congr 1
      unfold dgV; omega
theorem pmag_dec (u : Nat) (h : u < 100000000000) : Lib.parseMag (Lib.decDigits u) = .ok u := by
  have hl := dec_short 10 u (by simpa using h)
  have hp : 10 ^ (Lib.decDigits u).length ≤ 10 ^ 11 := Nat.pow_le_pow_right (by omega) hl
  obtain ⟨v, e1, e2⟩ := puint_fold (Lib.decDigits u) 0 (dec_All u) (by
    have h3 : (10 : Nat) ^ 11 = 100000000000 := by decide
    omega)
  unfold Lib.parseMag
  rw [if_neg (dec_ne u), e1]
  have : (v : Int) = (u : Int) := by rw [e2]; exact numV_dec u
  rw [show v = u by omega]
theorem dec_cons (u : Nat) : ∃ b r, Lib.decDigits u = b :: r ∧ 48 ≤ b.toNat ∧ b.toNat ≤ 57 := by
  cases h : Lib.decDigits u with
  | nil => exact absurd h (dec_ne u)
  | cons b r =>
    have := isDg_iff.1 (dec_All u b (by rw [h]; exact List.mem_cons_self ..))
    exact ⟨b, r, rfl, this⟩
theorem atoi_itoa (n : Int) (h0 : -10000000000 ≤ n) (h1 : n ≤ 10000000000) : Lib.atoiAll (Lib.itoa n) = .ok n := by
  by_cases hn : n < 0
  · have e : Lib.itoa n = 45 :: Lib.decDigits n.natAbs := by unfold Lib.itoa; rw [if_pos hn]
    rw [e]
    have hm := pmag_dec n.natAbs (by omega)
    simp only [Lib.atoiAll]
    have h45 : ((45 : UInt8).toNat = 43 ∨ (45 : UInt8).toNat = 45) := .inr rfl
    rw [if_pos h45, hm]
    show (if ¬ ((45 : UInt8).toNat = 45) ∧ 9223372036854775808 ≤ n.natAbs then _ else if (45 : UInt8).toNat = 45 ∧ 9223372036854775808 < n.natAbs then _ else Lib.NumEnd.ok (if (45 : UInt8).toNat = 45 then -(n.natAbs : Int) else (n.natAbs : Int))) = _
    rw [if_neg (by rintro ⟨h, _⟩; exact h rfl), if_neg (by rintro ⟨_, h⟩; omega), if_pos (show (45 : UInt8).toNat = 45 from rfl)]
    congr 1
    omega
  · have e : Lib.itoa n = Lib.decDigits n.toNat := by unfold Lib.itoa; rw [if_neg hn]
    have hm := pmag_dec n.toNat (by omega)
    obtain ⟨b, r, e2, b0, b1⟩ := dec_cons n.toNat
    rw [e, e2]
    rw [e2] at hm
    simp only [Lib.atoiAll]
    rw [if_neg (by omega), hm]
    show (if ¬ (b.toNat = 45) ∧ 9223372036854775808 ≤ n.toNat then _ else if b.toNat = 45 ∧ 9223372036854775808 < n.toNat then _ else Lib.NumEnd.ok (if b.toNat = 45 then -(n.toNat : Int) else (n.toNat : Int))) = _
    rw [if_neg (by rintro ⟨_, h⟩; omega), if_neg (by rintro ⟨h, _⟩; omega), if_neg (by omega)]
    congr 1
    omega
theorem slash_dec (u : Nat) : (47 : UInt8) ∉ Lib.decDigits u := fun h => by
  have := isDg_iff.1 (dec_All u _ h)
  have e : (47 : UInt8).toNat = 47 := rfl
  omega
theorem slash_itoa (n : Int) : (47 : UInt8) ∉ Lib.itoa n := fun h => by
  unfold Lib.itoa at h
  split at h
  · rcases List.mem_cons.1 h with h | h
    · cases h
    · exact slash_dec _ h
  · exact slash_dec _ h
theorem idx_none : ∀ {l : List UInt8}, (47 : UInt8) ∉ l → Lib.indexByte l 47 = -1
  | [], _ => rfl
  | b :: r, h => by
    have hb : (b == 47) = false := by simpa using fun e : b = 47 => h (by rw [e]; exact List.mem_cons_self ..)
    have := idx_none (l := r) fun hr => h (List.mem_cons_of_mem _ hr)
    rw [Lib.indexByte, hb, this]; rfl
theorem idx_some : ∀ {l : List UInt8} (m : List UInt8), (47 : UInt8) ∉ l → Lib.indexByte (l ++ 47 :: m) 47 = (l.length : Int)
  | [], m, _ => by simp [Lib.indexByte]
  | b :: r, m, h => by
    have hb : (b == 47) = false := by simpa using fun e : b = 47 => h (by rw [e]; exact List.mem_cons_self ..)
    have := idx_some (l := r) m fun hr => h (List.mem_cons_of_mem _ hr)
    rw [List.cons_append, Lib.indexByte, hb, this]
    have h2 : (((r.length : Int)) == -1) = false := beq_false_of_ne (by omega)
    simp [h2]
theorem idx_lt : ∀ (l : List UInt8) (c : UInt8), Lib.indexByte l c < (l.length : Int)
  | [], _ => by simp [Lib.indexByte]
  | b :: r, c => by
    have := idx_lt r c
    rw [Lib.indexByte, List.length_cons]
    split
    · omega
    · split <;> omega
/-- What stands before the first slash, and behind it. -/
def cutL (l : List UInt8) : List UInt8 × List UInt8 × Bool :=
  if 0 ≤ Lib.indexByte l 47 then (l.take (Lib.indexByte l 47).toNat, l.drop ((Lib.indexByte l 47).toNat + 1), true) else (l, [], false)
theorem cutL_none {l : List UInt8} (h : (47 : UInt8) ∉ l) : cutL l = (l, [], false) := by unfold cutL; rw [idx_none h]; rfl
theorem cutL_some {l : List UInt8} (m : List UInt8) (h : (47 : UInt8) ∉ l) : cutL (l ++ 47 :: m) = (l, m, true) := by
  unfold cutL
  rw [idx_some m h, if_pos (by omega), Int.toNat_natCast]
  simp
theorem cutL_len (l : List UInt8) : (cutL l).1.length ≤ l.length ∧ (cutL l).2.1.length ≤ l.length := by
  unfold cutL; split
  · simp only [List.length_take, List.length_drop]; omega
  · simp
/-- The text of a fraction. -/
def ftL (n d : Int) : List UInt8 := if d = 1 then Lib.itoa n else Lib.itoa n ++ 47 :: Lib.itoa d
theorem ftS_list (n d : Int) : ftS n d = bsOf (ftL n d) := by
  unfold ftS ftL itoS
  split
  · rfl
  · rw [show (⟨(Lib.itoa n).toArray⟩ : ByteArray) = bsOf (Lib.itoa n) from rfl, show (⟨#[47]⟩ : ByteArray) = bsOf [47] from rfl, show (⟨(Lib.itoa d).toArray⟩ : ByteArray) = bsOf (Lib.itoa d) from rfl, bsOf_append, bsOf_append]
    simp
def pfP (s : List UInt8) (n d : Int) : Prop := fracB n d = true ∧ ftL n d = s
theorem pf_cut {s : List UInt8} {n d : Int} (h : pfP s n d) : (d = 1 ∧ cutL s = (Lib.itoa n, [], false)) ∨ (d ≠ 1 ∧ cutL s = (Lib.itoa n, Lib.itoa d, true)) := by
  obtain ⟨h1, rfl⟩ := h
  unfold ftL
  by_cases hd : d = 1
  · rw [if_pos hd]; exact .inl ⟨hd, cutL_none (slash_itoa n)⟩
  · rw [if_neg hd]; exact .inr ⟨hd, cutL_some _ (slash_itoa n)⟩
theorem pf_one {s : List UInt8} {n d n' d' : Int} (h : pfP s n d) (k : pfP s n' d') : n = n' ∧ d = d' := by
  obtain ⟨a0, a1, a2, a3, _⟩ := fracB_range h.1
  obtain ⟨b0, b1, b2, b3, _⟩ := fracB_range k.1
  have num : Lib.itoa n = Lib.itoa n' → n = n' := fun e => by
    have e1 := atoi_itoa n (by omega) (by omega)
    rw [e, atoi_itoa n' (by omega) (by omega)] at e1
    injection e1 with e1; exact e1.symm
  have den : Lib.itoa d = Lib.itoa d' → d = d' := fun e => by
    have e1 := atoi_itoa d (by omega) (by omega)
    rw [e, atoi_itoa d' (by omega) (by omega)] at e1
    injection e1 with e1; exact e1.symm
  rcases pf_cut h with ⟨h1, h2⟩ | ⟨h1, h2⟩ <;> rcases pf_cut k with ⟨k1, k2⟩ | ⟨k1, k2⟩
  · rw [h2] at k2; simp only [Prod.mk.injEq] at k2
    exact ⟨num k2.1, by rw [h1, k1]⟩
  · rw [h2] at k2; simp at k2
  · rw [h2] at k2; simp at k2
  · rw [h2] at k2; simp only [Prod.mk.injEq] at k2
    exact ⟨num k2.1, den k2.2.1⟩
open Classical in
noncomputable def pfB (s : List UInt8) : Bool := decide (∃ n d, pfP s n d)
open Classical in
noncomputable def pfN (s : List UInt8) : Int := if h : ∃ n d, pfP s n d then Classical.choose h else 0
open Classical in
noncomputable def pfE (s : List UInt8) : Int := if h : ∃ n d, pfP s n d then Classical.choose (Classical.choose_spec h) else 0
open Classical in
theorem pf_yes {s : List UInt8} {n d : Int} (h : pfP s n d) : pfB s = true ∧ pfN s = n ∧ pfE s = d := by
  have he : ∃ n d, pfP s n d := ⟨n, d, h⟩
  have hs := Classical.choose_spec (Classical.choose_spec he)
  obtain ⟨e1, e2⟩ := pf_one hs h
  refine ⟨decide_eq_true he, ?_, ?_⟩
  · unfold pfN; rw [dif_pos he]; exact e1
  · unfold pfE; rw [dif_pos he]; exact e2
open Classical in
theorem pf_no {s : List UInt8} (h : ∀ n d, ¬ pfP s n d) : pfB s = false ∧ pfN s = 0 ∧ pfE s = 0 := by
  have he : ¬ ∃ n d, pfP s n d := fun ⟨n, d, k⟩ => h n d k
  refine ⟨decide_eq_false he, ?_, ?_⟩
  · unfold pfN; rw [dif_neg he]
  · unfold pfE; rw [dif_neg he]
theorem pf_em (s : List UInt8) : (∃ n d, pfP s n d) ∨ ∀ n d, ¬ pfP s n d := by
  rcases Classical.em (∃ n d, pfP s n d) with h | h
  · exact .inl h
  · exact .inr fun n d k => h ⟨n, d, k⟩
/-- What spec reads of a numeral without a sign. -/
def frR (l : List UInt8) : Int := if (1 ≤ l.length ∧ l.length ≤ 10) ∧ ¬ (l.head? = some 48 ∧ 1 < l.length) ∧ l.all isDg = true then numV l else -1
theorem frR_no {l : List UInt8} (h : ¬ ((1 ≤ l.length ∧ l.length ≤ 10) ∧ ¬ (l.head? = some 48 ∧ 1 < l.length) ∧ l.all isDg = true)) : frR l = -1 := by unfold frR; rw [if_neg h]
theorem frR_yes {l : List UInt8} (h1 : 1 ≤ l.length ∧ l.length ≤ 10) (h2 : ¬ (l.head? = some 48 ∧ 1 < l.length)) (h3 : AllDg l) : frR l = numV l := by unfold frR; rw [if_pos ⟨h1, h2, all_iff.2 h3⟩]
theorem pow_ten {k : Nat} (h : k ≤ 10) : (10 : Int) ^ k ≤ 10000000000 := by
  have : (10 : Nat) ^ k ≤ 10 ^ 10 := Nat.pow_le_pow_right (by omega) h
  have h2 : ((10 ^ k : Nat) : Int) = (10 : Int) ^ k := by simp
  have h3 : (10 : Nat) ^ 10 = 10000000000 := by decide
  omega
theorem frR_range (l : List UInt8) : -1 ≤ frR l ∧ frR l ≤ 9999999999 := by
  unfold frR; split
  · rename_i h
    have := numV_range (all_iff.1 h.2.2)
    have := pow_ten h.1.2
    omega
  · omega
theorem frR_dec (u : Nat) (h : u ≤ 1000000000) : frR (Lib.decDigits u) = (u : Int) := by
  have hl := dec_short 9 u (by have : (10 : Nat) ^ (9 + 1) = 10000000000 := by decide
                               omega)
  have hp : 1 ≤ (Lib.decDigits u).length := List.length_pos_iff.2 (dec_ne u)
  rw [frR_yes ⟨hp, hl⟩ ?_ (dec_All u), numV_dec]
  rintro ⟨h1, h2⟩
  rcases Nat.eq_zero_or_pos u with h0 | h0
  · subst h0; rw [decDigits_small (by omega)] at h2; simp at h2
  · obtain ⟨b, r, e, hb⟩ := dec_head u h0
    rw [e] at h1
    simp at h1
    rw [h1] at hb
    exact absurd hb (by decide)
/-- The pieces between the slashes. -/
def splitF : List UInt8 → List UInt8 → List (List UInt8)
  | cur, [] => [cur]
  | cur, c :: r => if c = 47 then cur :: splitF [] r else splitF (cur ++ [c]) r
def splitL (l : List UInt8) : List (List UInt8) := splitF [] l
theorem splitF_none : ∀ (l cur : List UInt8), (47 : UInt8) ∉ l → splitF cur l = [cur ++ l]
  | [], cur, _ => by simp [splitF]
  | c :: r, cur, h => by
    have hc : ¬ c = 47 := fun e => h (by rw [e]; exact List.mem_cons_self ..)
    rw [splitF, if_neg hc, splitF_none r _ fun hr => h (List.mem_cons_of_mem _ hr)]
    simp
theorem splitF_some : ∀ (l cur m : List UInt8), (47 : UInt8) ∉ l → splitF cur (l ++ 47 :: m) = (cur ++ l) :: splitF [] m
  | [], cur, m, _ => by simp [splitF]
  | c :: r, cur, m, h => by
    have hc : ¬ c = 47 := fun e => h (by rw [e]; exact List.mem_cons_self ..)
    rw [List.cons_append, splitF, if_neg hc, splitF_some r _ m fun hr => h (List.mem_cons_of_mem _ hr)]
    simp
theorem split_pf {s : List UInt8} {n d : Int} (h : pfP s n d) : splitL s = if d = 1 then [Lib.itoa n] else [Lib.itoa n, Lib.itoa d] := by
  obtain ⟨h1, rfl⟩ := h
  unfold ftL splitL
  by_cases hd : d = 1
  · rw [if_pos hd, if_pos hd, splitF_none _ _ (slash_itoa n)]; rfl
  · rw [if_neg hd, if_neg hd, splitF_some _ _ _ (slash_itoa n), splitF_none _ _ (slash_itoa d)]; rfl
theorem splitF_ne : ∀ (l cur : List UInt8), 1 ≤ (splitF cur l).length ∧ (splitF cur l).length ≤ l.length + 1
  | [], cur => by simp [splitF]
  | c :: r, cur => by
    rw [splitF]
    split
    · have := splitF_ne r []; simp; omega
    · have := splitF_ne r (cur ++ [c]); simp; omega
theorem splitF_len : ∀ (l cur : List UInt8), ∀ p ∈ splitF cur l, p.length ≤ cur.length + l.length
  | [], cur, p, hp => by simp [splitF] at hp; simp [hp]
  | c :: r, cur, p, hp => by
    rw [splitF] at hp
    split at hp
    · rcases List.mem_cons.1 hp with rfl | hp
      · simp
      · have := splitF_len r [] p hp; simp at this ⊢; omega
    · have := splitF_len r (cur ++ [c]) p hp; simp at this ⊢; omega
theorem pf_short {s : List UInt8} {n d : Int} (h : pfP s n d) : s.length ≤ 22 := by
  obtain ⟨h1, rfl⟩ := h
  obtain ⟨a0, a1, a2, a3, _⟩ := fracB_range h1
  have hlen : ∀ u : Nat, u ≤ 1000000000 → (Lib.decDigits u).length ≤ 10 := fun u hu => dec_short 9 u (by have : (10 : Nat) ^ (9 + 1) = 10000000000 := by decide
                                                                                                         omega)
  have hi : ∀ x : Int, -1000000000 ≤ x → x ≤ 1000000000 → (Lib.itoa x).length ≤ 11 := fun x x0 x1 => by
    unfold Lib.itoa
    split
    · have := hlen x.natAbs (by omega); simp; omega
    · have := hlen x.toNat (by omega); omega
  have hd : (Lib.itoa d).length ≤ 10 := by
    unfold Lib.itoa; rw [if_neg (by omega)]; exact hlen _ (by omega)
  have hn := hi n (by omega) (by omega)
  unfold ftL
  split
  · omega
  · simp; omega
end Go.Proofs.YtklhmaegpejdbaaDoor
