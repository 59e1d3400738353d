/- Contracts of impl.primesOf and spec.mdFactors. -/
import Derived.Test.YtklhmaegpejdbaaPairs
import Derived.Test.YtklhmaegpejdbaaFact
import Derived.Test.YtklhmaegpejdbaaVal
namespace Go.Proofs.Ytklhmaegpejdbaa
open Go.RowKit
set_option linter.unusedVariables false
set_option linter.unusedSimpArgs false
theorem pair_at (w : World) (o : Obj) (g : Nat) : ∀ (j : Nat) (u : Value), [rowV g][j]? = some u → ((w.alloc o).alloc (.cells #[rowV g] 54)).cell? ((⟨w.heap.size + 1, 0, none⟩ : Addr).add j) = some u := by
  intro j u hj
  match j, hj with
  | 0, hj =>
    simp at hj; subst hj
    have h := row_one_at (w := w.alloc o) (.cells #[rowV g] 54) (rowV g) rfl 0 (rowV g) rfl
    simpa using h
/-- The factors' primes, and the pairs, as numbers of int. -/
def primesI (l : List (Nat × Nat)) : List Int := l.map fun e => (e.1 : Int)
def pairsI (l : List (Nat × Nat)) : List (Int × Int) := l.map fun e => ((e.1 : Int), (e.2 : Int))
theorem primesI_cons (e : Nat × Nat) (l : List (Nat × Nat)) : primesI (e :: l) = (e.1 : Int) :: primesI l := rfl
theorem pairsI_cons (e : Nat × Nat) (l : List (Nat × Nat)) : pairsI (e :: l) = ((e.1 : Int), (e.2 : Int)) :: pairsI l := rfl
theorem facs_length (N : Nat) : (facs N).length ≤ 2 * N := facF_length _ _ _
/-- The number that is tried, as the code tests for it. -/
theorem nextP_gt {n p : Nat} (h : n < p * p) : nextP n p = n := by unfold nextP; rw [if_pos h]
theorem nextP_le {n p : Nat} (h : ¬ n < p * p) : nextP n p = p := by unfold nextP; rw [if_neg h]
theorem square_bd {n p : Nat} (h : p ≤ n) (hn : n ≤ 10000000000) (hp : p ≤ 100001 ∨ p * p ≤ 4 * n) : (p : Int) * (p : Int) ≤ 40000000000 := by
  rcases hp with hp | hp
  · have : p * p ≤ 100001 * 100001 := Nat.mul_le_mul hp hp
    have h2 : ((p * p : Nat) : Int) = (p : Int) * (p : Int) := by push_cast; rfl
    omega
  · have h2 : ((p * p : Nat) : Int) = (p : Int) * (p : Int) := by push_cast; rfl
    omega
/-- The numbers that are tried stay small, or are the last. -/
theorem small_next {p : Nat} (h : p ≤ 100000) (n : Nat) (hn : n ≤ 10000000000) (hnot : ¬ n < p * p) : p + 1 ≤ 100001 := by omega
theorem root_bd {n p : Nat} (hn : n ≤ 10000000000) (h : ¬ n < p * p) : p ≤ 100000 := by
  rcases Nat.lt_or_ge 100000 p with h2 | h2
  · have : 100001 * 100001 ≤ p * p := Nat.mul_le_mul h2 h2
    omega
  · exact h2
set_option maxHeartbeats 8000000 in
theorem primesOf_any (N : Nat) (h0 : 1 ≤ N) (h1 : N ≤ 10000000000) (w : World) :
    Calls Try.prog 103 #[.int .i64 (N : Int)] w fun e w' => ∃ A c, e = .returned (.slice A (primesI (facs N)).length c) ∧ Nums w' w.heap.size (.slice A (primesI (facs N)).length c) (primesI (facs N)) ∧ Below w.heap.size w w' := by
  obtain ⟨i0, hi, hz0, hz1, hz2⟩ := info_parts infoInt
  have hfl : (primesI (facs N)).length ≤ 2 * N := by unfold primesI; rw [List.length_map]; exact facs_length N
  have hneg : -(N : Int) ≤ (N : Int) := by omega
  have hneg2 : ¬ (N : Int) < -(N : Int) := by omega
  go_enter Try.func103, Try.ntmps103
  go_wp2
  go_loopw [0, 3, 4] (fun a v b wr => ∃ (n p f : Nat) (xs : List Int), a = .int .i64 n ∧ b = .int .i64 p ∧ 1 ≤ n ∧ 2 ≤ p ∧ n ≤ 10000000000 ∧ (1 < n → p ≤ 100001) ∧ p ≤ 10000000001 ∧ Hid (Rough n p) ∧ 2 * n ≤ f + p ∧ Hid (primesI (facs N) = xs ++ primesI (facF f n p)) ∧ Hid (Nums wr w.heap.size v xs) ∧ Hid (Below w.heap.size w wr)) (fun a _ b _ => 2 * (intOf a).toNat + 1 - (intOf b).toNat)
  case atStart => exact ⟨N, 2, 2 * N, [], rfl, rfl, h0, by omega, h1, fun _ => by omega, by omega, Rough.start h0, by omega, rfl, Nums.nil _ _, Below.refl _ _⟩
  case round =>
    obtain ⟨n, p, f, xs, rfl, rfl, n0, p0, n1, p1, p2, HR, hf, HE, HN, HB⟩ := hrel
    have hsz := HB.out.size
    have hlen : xs.length ≤ 2 * N := by have := HE.out; rw [this, List.length_append] at hfl; omega
    have HO := Lib.hid (show wr.ownsRow w.heap.size 3 1 _ xs.length (xs.map (Value.int .i64)) from HN.out)
    by_cases hn : 1 < n
    · have hn1 : (1 : Int) < (n : Int) := by omega
      have hp1 := p1 hn
      have hpn := HR.out.le hn
      have hps := square_bd hpn n1 (.inl hp1)
      have hps0 : 0 ≤ (p : Int) * (p : Int) := Int.mul_nonneg (by omega) (by omega)
      obtain ⟨g, rfl⟩ : ∃ g, f = g + 1 := ⟨f - 1, by omega⟩
      have hcast : ((p * p : Nat) : Int) = (p : Int) * (p : Int) := by push_cast; rfl
      have HCast := Lib.hid hcast
      clear hcast
      by_cases hpp : n < p * p
      · have HQ := Lib.hid (nextP_gt hpp)
        have hpi : (n : Int) < (p : Int) * (p : Int) := by have := HCast.out; omega
        have hq2 : 2 ≤ n := by omega
        have hqz : ((n : Int) == 0) = false := beq_eq_false_iff_ne.2 (by omega)
        have hq0 : (0 : Int) ≤ (n : Int) := by omega
        have hd : n % n = 0 := Nat.mod_self n
        have HE2 := Lib.hid (facF_yes (f := g) hn (by rw [HQ.out]; exact hd))
        have HR2 := Lib.hid (HR.out.yes hn (by rw [HQ.out]; exact hd))
        have hfy := fuel_yes (f := g) HR.out hn (by rw [HQ.out]; exact hd) (by omega)
        rw [HQ.out] at HE2 HR2 hfy
        have hdi : (n : Int) % (n : Int) = 0 := by have : ((n % n : Nat) : Int) = (n : Int) % (n : Int) := Int.natCast_emod .. ; rw [← this, hd]; rfl
        have hdb : ((n : Int) % (n : Int) == 0) = true := by rw [hdi]; rfl
        have HDI := Lib.hid hdi
        clear hdi
        go_wp2_with (at_builtin; refine wpList_append_own _ rfl _ _ 54 rfl w.heap.size 3 i0 (.int .i64 0) 1 8 underInts hi hz0 hz1 hz2 rfl (by decide) _ _ _ rfl (World.ownsRow.alloc HO.out _) ⟨wr.heap.size, 0, none⟩ 1 1 [.int .i64 ((n : Nat) : Int)] rfl rfl (one_at _ _ rfl) (one_cell _) (by unfold maxLen; omega) (by omega) (by simp; omega) ?_; intro v' w1 hown' hgrow _)
        have R := nums_step HN.out HB.out (Nat.le_refl _) hsz hown' hgrow
        have R1 := Lib.hid R.1
        have R2 := Lib.hid R.2
        clear R hown' hgrow hdb
        go_wp2
        go_loop [0] (fun a => ∃ y : Nat, a = .int .i64 y ∧ 1 ≤ y ∧ y ≤ n ∧ Hid (strip (n) y = strip (n) n)) (fun a => (intOf a).toNat)
        case atStart => exact ⟨n, rfl, n0, Nat.le_refl _, rfl⟩
        case round =>
          obtain ⟨y, rfl, y0, y1, HS⟩ := hrel
          have hy0 : (0 : Int) ≤ (y : Int) := by omega
          by_cases hdy : y % n = 0
          · obtain ⟨_, u1, u2⟩ := valN_div hq2 y0 hdy
            have HS2 := Lib.hid ((strip_div hq2 y0 hdy).symm.trans HS.out)
            have hyi : (y : Int) % (n : Int) = 0 := by have : ((y % n : Nat) : Int) = (y : Int) % (n : Int) := Int.natCast_emod .. ; rw [← this, hdy]; rfl
            have hyb : ((y : Int) % (n : Int) == 0) = true := by rw [hyi]; rfl
            have HYI := Lib.hid hyi
            have HDV := Lib.hid (show ((y / n : Nat) : Int) = (y : Int) / (n : Int) from Int.natCast_ediv ..)
            clear hyi hdy
            go_wp2
            go_round
            case rel => exact ⟨y / n, by rw [HDV.out], u1, by omega, HS2⟩
            case measure => simp only [intOf]; rw [← HDV.out]; omega
          · have HS2 := Lib.hid ((strip_not y0 hdy).symm.trans HS.out)
            have hyi : (y : Int) % (n : Int) ≠ 0 := by have : ((y % n : Nat) : Int) = (y : Int) % (n : Int) := Int.natCast_emod .. ; rw [← this]; omega
            have hyb : ((y : Int) % (n : Int) == 0) = false := beq_eq_false_iff_ne.2 hyi
            have HYI := Lib.hid hyi
            clear hyi hdy
            rw [← HS2.out] at HE2 HR2 hfy
            go_wp2
            go_roundw
            case rel => exact ⟨y, n + 1, g, _, rfl, by go_num, y0, by omega, by omega, fun h => by have := strip_self (n := n) (by omega); have := HS2.out; omega, by omega, HR2, hfy, Lib.hid (by rw [HE.out, HE2.out, primesI_cons, List.append_assoc]; rfl), R1, R2⟩
            case measure => simp [intOf]; (have := strip_self (n := n) (by omega)); (have := HS2.out); omega
      · have HQ := Lib.hid (nextP_le hpp)
        have hpi : (p : Int) * (p : Int) ≤ (n : Int) := by have := HCast.out; omega
        have hroot := root_bd n1 hpp
        have hq2 : 2 ≤ p := by omega
        have hqz : ((p : Int) == 0) = false := beq_eq_false_iff_ne.2 (by omega)
        have hq0 : (0 : Int) ≤ (p : Int) := by omega
        by_cases hd : n % p = 0
        · skip
          have HE2 := Lib.hid (facF_yes (f := g) hn (by rw [HQ.out]; exact hd))
          have HR2 := Lib.hid (HR.out.yes hn (by rw [HQ.out]; exact hd))
          have hfy := fuel_yes (f := g) HR.out hn (by rw [HQ.out]; exact hd) (by omega)
          rw [HQ.out] at HE2 HR2 hfy
          have hdi : (n : Int) % (p : Int) = 0 := by have : ((n % p : Nat) : Int) = (n : Int) % (p : Int) := Int.natCast_emod .. ; rw [← this, hd]; rfl
          have hdb : ((n : Int) % (p : Int) == 0) = true := by rw [hdi]; rfl
          have HDI := Lib.hid hdi
          clear hdi
          go_wp2_with (at_builtin; refine wpList_append_own _ rfl _ _ 54 rfl w.heap.size 3 i0 (.int .i64 0) 1 8 underInts hi hz0 hz1 hz2 rfl (by decide) _ _ _ rfl (World.ownsRow.alloc HO.out _) ⟨wr.heap.size, 0, none⟩ 1 1 [.int .i64 ((p : Nat) : Int)] rfl rfl (one_at _ _ rfl) (one_cell _) (by unfold maxLen; omega) (by omega) (by simp; omega) ?_; intro v' w1 hown' hgrow _)
          have R := nums_step HN.out HB.out (Nat.le_refl _) hsz hown' hgrow
          have R1 := Lib.hid R.1
          have R2 := Lib.hid R.2
          clear R hown' hgrow hdb
          go_wp2
          go_loop [0] (fun a => ∃ y : Nat, a = .int .i64 y ∧ 1 ≤ y ∧ y ≤ n ∧ Hid (strip (p) y = strip (p) n)) (fun a => (intOf a).toNat)
          case atStart => exact ⟨n, rfl, n0, Nat.le_refl _, rfl⟩
          case round =>
            obtain ⟨y, rfl, y0, y1, HS⟩ := hrel
            have hy0 : (0 : Int) ≤ (y : Int) := by omega
            by_cases hdy : y % p = 0
            · obtain ⟨_, u1, u2⟩ := valN_div hq2 y0 hdy
              have HS2 := Lib.hid ((strip_div hq2 y0 hdy).symm.trans HS.out)
              have hyi : (y : Int) % (p : Int) = 0 := by have : ((y % p : Nat) : Int) = (y : Int) % (p : Int) := Int.natCast_emod .. ; rw [← this, hdy]; rfl
              have hyb : ((y : Int) % (p : Int) == 0) = true := by rw [hyi]; rfl
              have HYI := Lib.hid hyi
              have HDV := Lib.hid (show ((y / p : Nat) : Int) = (y : Int) / (p : Int) from Int.natCast_ediv ..)
              clear hyi hdy
              go_wp2
              go_round
              case rel => exact ⟨y / p, by rw [HDV.out], u1, by omega, HS2⟩
              case measure => simp only [intOf]; rw [← HDV.out]; omega
            · have HS2 := Lib.hid ((strip_not y0 hdy).symm.trans HS.out)
              have hyi : (y : Int) % (p : Int) ≠ 0 := by have : ((y % p : Nat) : Int) = (y : Int) % (p : Int) := Int.natCast_emod .. ; rw [← this]; omega
              have hyb : ((y : Int) % (p : Int) == 0) = false := beq_eq_false_iff_ne.2 hyi
              have HYI := Lib.hid hyi
              clear hyi hdy
              rw [← HS2.out] at HE2 HR2 hfy
              go_wp2
              go_roundw
              case rel => exact ⟨y, p + 1, g, _, rfl, by go_num, y0, by omega, by omega, fun _ => by omega, by omega, HR2, hfy, Lib.hid (by rw [HE.out, HE2.out, primesI_cons, List.append_assoc]; rfl), R1, R2⟩
              case measure => simp [intOf]; omega
        · skip
          have HE2 := Lib.hid (facF_no (f := g) hn (by rw [HQ.out]; exact hd))
          have HR2 := Lib.hid (HR.out.no hn (by rw [HQ.out]; exact hd)).1
          rw [HQ.out] at HE2 HR2
          have hdi : (n : Int) % (p : Int) ≠ 0 := by have : ((n % p : Nat) : Int) = (n : Int) % (p : Int) := Int.natCast_emod .. ; rw [← this]; omega
          have hdb : ((n : Int) % (p : Int) == 0) = false := beq_eq_false_iff_ne.2 hdi
          clear hdi
          go_wp2
          refine wp_loop_rounds 1 ?_
          rw [rounds_succ]
          go_wp2
          go_roundw
          case rel => exact ⟨n, p + 1, g, _, rfl, by go_num, n0, by omega, n1, fun _ => by omega, by omega, HR2, by omega, Lib.hid (by rw [HE.out, HE2.out]), HN, HB⟩
          case measure => simp [intOf]; omega
    · have hn1 : ¬ (1 : Int) < (n : Int) := by omega
      have HD := Lib.hid (facF_done (f := f) (p := p) (show n ≤ 1 by omega))
      have HX := Lib.hid (show primesI (facs N) = xs by rw [HE.out, HD.out]; simp [primesI])
      obtain ⟨A, c, hv⟩ := HN.out.slice
      go_wp2
      go_ret
      rw [HX.out]
      exact ⟨A, c, by rw [← hv]; rfl, by rw [← hv]; exact HN.out, HB.out⟩
theorem mdVal_nat (n q k : Nat) (hk : valN q n = k) (h0 : 1 ≤ n) (h1 : n ≤ 10000000000) (h2 : 2 ≤ q) (h3 : q ≤ 10000000000) (w : World) :
    Calls Try.prog 108 #[.int .i64 (n : Int), .int .i64 (q : Int)] w fun e w' => e = .returned (.int .i64 (k : Int)) ∧ w = w' := by
  have h := mdValuation_any (n : Int) (q : Int) (by omega) (by omega) (by omega) ⟨by omega, by omega⟩ w
  rw [show valI (n : Int) (q : Int) = (k : Int) by simp [valI, hk]] at h
  exact h
theorem valN_le {q n k : Nat} (h : valN q n = k) (h0 : 1 ≤ n) (hq : 2 ≤ q) : k ≤ n := by
  obtain ⟨h1, h2, _⟩ := strip_spec hq n h0
  rw [h] at h1
  have h3 : k < q ^ k := Nat.lt_pow_self hq
  have h4 : q ^ k ≤ q ^ k * strip q n := Nat.le_mul_of_pos_right _ h2
  omega
theorem valN_pos_mod {q n k : Nat} (h : valN q n = k) (h0 : 1 ≤ n) (hk : 0 < k) : n % q = 0 := by
  by_cases hd : n % q = 0
  · exact hd
  · rw [valN_not h0 hd] at h; omega
set_option maxHeartbeats 8000000 in
theorem mdFactors_any (N : Nat) (h0 : 1 ≤ N) (h1 : N ≤ 10000000000) (w : World) :
    Calls Try.prog 105 #[.int .i64 (N : Int)] w fun e w' => ∃ v, e = .returned v ∧ (∃ gs, Pairs w' w.heap.size v gs (pairsI (facs N))) ∧ Below w.heap.size w w' := by
  obtain ⟨j0, hj, hy0, hy1, hy2⟩ := info_parts infoRows
  have hfl : (pairsI (facs N)).length ≤ 2 * N := by unfold pairsI; rw [List.length_map]; exact facs_length N
  go_enter Try.func105, Try.ntmps105
  go_wp2
  go_loopw [0, 3, 4] (fun a v b wr => ∃ (n p f : Nat) (ps : List (Int × Int)) (gs : List Nat), a = .int .i64 n ∧ b = .int .i64 p ∧ 1 ≤ n ∧ 2 ≤ p ∧ n ≤ 10000000000 ∧ (1 < n → p ≤ 100001) ∧ p ≤ 10000000001 ∧ Hid (Rough n p) ∧ 2 * n ≤ f + p ∧ Hid (pairsI (facs N) = ps ++ pairsI (facF f n p)) ∧ Hid (Pairs wr w.heap.size v gs ps) ∧ Hid (Below w.heap.size w wr)) (fun a _ b _ => 2 * (intOf a).toNat + 1 - (intOf b).toNat)
  case atStart => exact ⟨N, 2, 2 * N, [], [], rfl, rfl, h0, by omega, h1, fun _ => by omega, by omega, Rough.start h0, by omega, rfl, Pairs.nil _ _, Below.refl _ _⟩
  case round =>
    obtain ⟨n, p, f, ps, gs, rfl, rfl, n0, p0, n1, p1, p2, HR, hf, HE, HN, HB⟩ := hrel
    have hsz := HB.out.size
    have hlen : ps.length ≤ 2 * N := by have := HE.out; rw [this, List.length_append] at hfl; omega
    have HO := Lib.hid (show wr.ownsRow w.heap.size 54 1 _ ps.length (gs.map rowV) from HN.out.2.1)
    by_cases hn : 1 < n
    · have hn1 : (1 : Int) < (n : Int) := by omega
      have hp1 := p1 hn
      have hpn := HR.out.le hn
      have hps := square_bd hpn n1 (.inl hp1)
      have hps0 : 0 ≤ (p : Int) * (p : Int) := Int.mul_nonneg (by omega) (by omega)
      obtain ⟨g, rfl⟩ : ∃ g, f = g + 1 := ⟨f - 1, by omega⟩
      have hcast : ((p * p : Nat) : Int) = (p : Int) * (p : Int) := by push_cast; rfl
      have HCast := Lib.hid hcast
      clear hcast
      by_cases hpp : n < p * p
      · have HQ := Lib.hid (nextP_gt hpp)
        have hpi : (n : Int) < (p : Int) * (p : Int) := by have := HCast.out; omega
        have hq2 : 2 ≤ n := by omega
        have hqz : ((n : Int) == 0) = false := beq_eq_false_iff_ne.2 (by omega)
        have hq0 : (0 : Int) ≤ (n : Int) := by omega
        have hd : n % n = 0 := Nat.mod_self n
        obtain ⟨hk1, _, _⟩ := valN_div hq2 n0 hd
        obtain ⟨k, hk⟩ : ∃ k, valN n n = k := ⟨_, rfl⟩
        have HE2 := Lib.hid (facF_yes (f := g) hn (by rw [HQ.out]; exact hd))
        have HR2 := Lib.hid (HR.out.yes hn (by rw [HQ.out]; exact hd))
        have hfy := fuel_yes (f := g) HR.out hn (by rw [HQ.out]; exact hd) (by omega)
        rw [HQ.out] at HE2 HR2 hfy
        rw [hk] at HE2
        have hk0 : (0 : Int) < (k : Int) := by omega
        have HK := Lib.hid hk
        have hkn := valN_le hk n0 hq2
        clear hk1 hd
        clear hk
        go_wp2_with (first | (go_at_call 108; refine (mdVal_nat n n k HK.out n0 n1 hq2 (by omega) _).mono ?_; rintro e w' ⟨rfl, rfl⟩) | (at_builtin; refine wpList_append_own _ rfl _ _ 50 rfl w.heap.size 54 j0 (.slice none 0 0) 1 24 underRows hj hy0 hy1 hy2 rfl (by decide) _ _ _ rfl (World.ownsRow.alloc (World.ownsRow.alloc HO.out _) _) ⟨wr.heap.size + 1, 0, none⟩ 1 1 [rowV wr.heap.size] rfl rfl (pair_at _ _ _) (row_one_cell _) (by unfold maxLen; omega) (by omega) (by simp; omega) ?_; intro v' w1 hown' hgrow _))
        have R1 := Lib.hid (pairs_step HN.out hsz hown' hgrow)
        have R2 := Lib.hid (show Below w.heap.size w w1 from ((HB.out.alloc (by omega) _).alloc (by simp; omega) _).grown hgrow (by simp; omega) fun j hj => (World.ownsRow.lt HN.out.2.1 j hj).1)
        clear hown' hgrow
        go_wp2
        go_loop [0, 5] (fun a b => ∃ y j : Nat, a = .int .i64 y ∧ b = .int .i64 j ∧ 1 ≤ y ∧ y ≤ n ∧ j ≤ k ∧ Hid (valN (n) y = j) ∧ Hid (strip (n) y = strip (n) n)) (fun _ b => (intOf b).toNat)
        case atStart => exact ⟨n, k, rfl, rfl, n0, Nat.le_refl _, Nat.le_refl _, HK, rfl⟩
        case round =>
          obtain ⟨y, j, rfl, rfl, y0, y1, j1, HJ, HS⟩ := hrel
          have hy0' : (0 : Int) ≤ (y : Int) := by omega
          by_cases hj0 : 0 < j
          · have hji : (0 : Int) < (j : Int) := by omega
            have hdy := valN_pos_mod HJ.out y0 hj0
            obtain ⟨u0, u1, u2⟩ := valN_div hq2 y0 hdy
            have HJ2 := Lib.hid (show valN n (y / n) = j - 1 by have := HJ.out; omega)
            have HS2 := Lib.hid ((strip_div hq2 y0 hdy).symm.trans HS.out)
            have HDV := Lib.hid (show ((y / n : Nat) : Int) = (y : Int) / (n : Int) from Int.natCast_ediv ..)
            clear hdy u0
            go_wp2
            go_round
            case rel => exact ⟨y / n, j - 1, by rw [HDV.out], by go_num, u1, by omega, by omega, HJ2, HS2⟩
            case measure => simp only [intOf]; omega
          · have hji : ¬ (0 : Int) < (j : Int) := by omega
            have hdy : y % n ≠ 0 := fun hd => by have := (valN_div hq2 y0 hd).1; have := HJ.out; omega
            have HS2 := Lib.hid ((strip_not y0 hdy).symm.trans HS.out)
            clear hdy
            rw [← HS2.out] at HE2 HR2 hfy
            go_wp2
            go_roundw
            case rel => exact ⟨y, n + 1, g, _, _, rfl, by go_num, y0, by omega, by omega, fun h => by have := strip_self (n := n) (by omega); have := HS2.out; omega, by omega, HR2, hfy, Lib.hid (by rw [HE.out, HE2.out, pairsI_cons, List.append_assoc]; rfl), R1, R2⟩
            case measure => simp [intOf]; (have := strip_self (n := n) (by omega)); (have := HS2.out); omega
      · have HQ := Lib.hid (nextP_le hpp)
        have hpi : (p : Int) * (p : Int) ≤ (n : Int) := by have := HCast.out; omega
        have hroot := root_bd n1 hpp
        have hq2 : 2 ≤ p := by omega
        have hqz : ((p : Int) == 0) = false := beq_eq_false_iff_ne.2 (by omega)
        have hq0 : (0 : Int) ≤ (p : Int) := by omega
        by_cases hd : n % p = 0
        · skip
          obtain ⟨hk1, _, _⟩ := valN_div hq2 n0 hd
          obtain ⟨k, hk⟩ : ∃ k, valN p n = k := ⟨_, rfl⟩
          have HE2 := Lib.hid (facF_yes (f := g) hn (by rw [HQ.out]; exact hd))
          have HR2 := Lib.hid (HR.out.yes hn (by rw [HQ.out]; exact hd))
          have hfy := fuel_yes (f := g) HR.out hn (by rw [HQ.out]; exact hd) (by omega)
          rw [HQ.out] at HE2 HR2 hfy
          rw [hk] at HE2
          have hk0 : (0 : Int) < (k : Int) := by omega
          have HK := Lib.hid hk
          have hkn := valN_le hk n0 hq2
          clear hk1 hd
          clear hk
          go_wp2_with (first | (go_at_call 108; refine (mdVal_nat n p k HK.out n0 n1 hq2 (by omega) _).mono ?_; rintro e w' ⟨rfl, rfl⟩) | (at_builtin; refine wpList_append_own _ rfl _ _ 50 rfl w.heap.size 54 j0 (.slice none 0 0) 1 24 underRows hj hy0 hy1 hy2 rfl (by decide) _ _ _ rfl (World.ownsRow.alloc (World.ownsRow.alloc HO.out _) _) ⟨wr.heap.size + 1, 0, none⟩ 1 1 [rowV wr.heap.size] rfl rfl (pair_at _ _ _) (row_one_cell _) (by unfold maxLen; omega) (by omega) (by simp; omega) ?_; intro v' w1 hown' hgrow _))
          have R1 := Lib.hid (pairs_step HN.out hsz hown' hgrow)
          have R2 := Lib.hid (show Below w.heap.size w w1 from ((HB.out.alloc (by omega) _).alloc (by simp; omega) _).grown hgrow (by simp; omega) fun j hj => (World.ownsRow.lt HN.out.2.1 j hj).1)
          clear hown' hgrow
          go_wp2
          go_loop [0, 5] (fun a b => ∃ y j : Nat, a = .int .i64 y ∧ b = .int .i64 j ∧ 1 ≤ y ∧ y ≤ n ∧ j ≤ k ∧ Hid (valN (p) y = j) ∧ Hid (strip (p) y = strip (p) n)) (fun _ b => (intOf b).toNat)
          case atStart => exact ⟨n, k, rfl, rfl, n0, Nat.le_refl _, Nat.le_refl _, HK, rfl⟩
          case round =>
            obtain ⟨y, j, rfl, rfl, y0, y1, j1, HJ, HS⟩ := hrel
            have hy0' : (0 : Int) ≤ (y : Int) := by omega
            by_cases hj0 : 0 < j
            · have hji : (0 : Int) < (j : Int) := by omega
              have hdy := valN_pos_mod HJ.out y0 hj0
              obtain ⟨u0, u1, u2⟩ := valN_div hq2 y0 hdy
              have HJ2 := Lib.hid (show valN p (y / p) = j - 1 by have := HJ.out; omega)
              have HS2 := Lib.hid ((strip_div hq2 y0 hdy).symm.trans HS.out)
              have HDV := Lib.hid (show ((y / p : Nat) : Int) = (y : Int) / (p : Int) from Int.natCast_ediv ..)
              clear hdy u0
              go_wp2
              go_round
              case rel => exact ⟨y / p, j - 1, by rw [HDV.out], by go_num, u1, by omega, by omega, HJ2, HS2⟩
              case measure => simp only [intOf]; omega
            · have hji : ¬ (0 : Int) < (j : Int) := by omega
              have hdy : y % p ≠ 0 := fun hd => by have := (valN_div hq2 y0 hd).1; have := HJ.out; omega
              have HS2 := Lib.hid ((strip_not y0 hdy).symm.trans HS.out)
              clear hdy
              rw [← HS2.out] at HE2 HR2 hfy
              go_wp2
              go_roundw
              case rel => exact ⟨y, p + 1, g, _, _, rfl, by go_num, y0, by omega, by omega, fun _ => by omega, by omega, HR2, hfy, Lib.hid (by rw [HE.out, HE2.out, pairsI_cons, List.append_assoc]; rfl), R1, R2⟩
              case measure => simp [intOf]; omega
        · skip
          have HE2 := Lib.hid (facF_no (f := g) hn (by rw [HQ.out]; exact hd))
          have HR2 := Lib.hid (HR.out.no hn (by rw [HQ.out]; exact hd)).1
          rw [HQ.out] at HE2 HR2
          have HK := Lib.hid (valN_not n0 hd)
          go_wp2_with (go_at_call 108; refine (mdVal_nat n p 0 HK.out n0 n1 hq2 (by omega) _).mono ?_; rintro e w' ⟨rfl, rfl⟩)
          go_wp2
          go_roundw
          case rel => exact ⟨n, p + 1, g, _, _, rfl, by go_num, n0, by omega, n1, fun _ => by omega, by omega, HR2, by omega, Lib.hid (by rw [HE.out, HE2.out]), HN, HB⟩
          case measure => simp [intOf]; omega
    · have hn1 : ¬ (1 : Int) < (n : Int) := by omega
      have HD := Lib.hid (facF_done (f := f) (p := p) (show n ≤ 1 by omega))
      have HX := Lib.hid (show pairsI (facs N) = ps by rw [HE.out, HD.out]; simp [pairsI])
      go_wp2
      go_ret
      rw [HX.out]
      exact ⟨_, rfl, ⟨gs, HN.out⟩, HB.out⟩
end Go.Proofs.Ytklhmaegpejdbaa
