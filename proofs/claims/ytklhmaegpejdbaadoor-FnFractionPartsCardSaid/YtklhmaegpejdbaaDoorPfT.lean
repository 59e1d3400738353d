/- spec.frParse and spec.ParseFraction. -/
import Derived.Test.YtklhmaegpejdbaaDoorPfI
import Derived.Test.YtklhmaegpejdbaaDoorPfR
import Derived.Test.YtklhmaegpejdbaaDoorPfS
namespace Go.Proofs.YtklhmaegpejdbaaDoor
open Go.RowKit
set_option linter.unusedVariables false
set_option linter.unusedSimpArgs false
set_option maxRecDepth 100000
/-- What spec reads of a numeral with a sign. -/
def rdN (p : List UInt8) : Int := if p.head? = some 45 then - frR p.tail else frR p
theorem rdN_itoa (n : Int) (h0 : -1000000000 ≤ n) (h1 : n ≤ 1000000000) : rdN (Lib.itoa n) = n := by
  unfold rdN Lib.itoa
  by_cases hn : n < 0
  · rw [if_pos hn]
    show (if some (45 : UInt8) = some 45 then - frR (Lib.decDigits n.natAbs) else _) = n
    rw [if_pos rfl, frR_dec _ (by omega)]
    omega
  · rw [if_neg hn]
    obtain ⟨b, r, e, b0, b1⟩ := dec_cons n.toNat
    rw [if_neg (by rw [e]; intro h; injection h with h; rw [h] at b0; exact absurd b0 (by decide)), frR_dec _ (by omega)]
    omega
theorem frR_itoa (d : Int) (h0 : 0 ≤ d) (h1 : d ≤ 1000000000) : frR (Lib.itoa d) = d := by
  unfold Lib.itoa
  rw [if_neg (by omega), frR_dec _ (by omega)]
  omega
theorem spec_one {s p : List UInt8} (hs : splitL s = [p]) (h : fracB (rdN p) 1 = true → ftL (rdN p) 1 ≠ s) : ∀ n d, ¬ pfP s n d := fun n d k => by
  obtain ⟨a0, a1, a2, a3, _⟩ := fracB_range k.1
  have e := split_pf k
  rw [hs] at e
  by_cases hd : d = 1
  · rw [if_pos hd] at e
    injection e with e
    rw [e, rdN_itoa n a2 a3] at h
    subst hd
    exact h k.1 k.2
  · rw [if_neg hd] at e; simp at e
theorem spec_two {s p q : List UInt8} (hs : splitL s = [p, q]) (h : fracB (rdN p) (frR q) = true → ftL (rdN p) (frR q) ≠ s) : ∀ n d, ¬ pfP s n d := fun n d k => by
  obtain ⟨a0, a1, a2, a3, _⟩ := fracB_range k.1
  have e := split_pf k
  rw [hs] at e
  by_cases hd : d = 1
  · rw [if_pos hd] at e; simp at e
  · rw [if_neg hd] at e
    injection e with e1 e2
    injection e2 with e2
    rw [e1, e2, rdN_itoa n a2 a3, frR_itoa d (by omega) a1] at h
    exact h k.1 k.2
theorem spec_many {s : List UInt8} (h : 3 ≤ (splitL s).length) : ∀ n d, ¬ pfP s n d := fun n d k => by
  rw [split_pf k] at h
  split at h <;> simp at h
theorem rdN_minus {p : List UInt8} {r : List UInt8} (h : p = 45 :: r) : rdN p = - frR r := by subst h; unfold rdN; rw [if_pos (show (45 :: r).head? = some 45 from rfl)]; rfl
theorem rdN_plain {p : List UInt8} (h : p.head? ≠ some 45) : rdN p = frR p := by unfold rdN; rw [if_neg h]
theorem text_ne {n d : Int} {s : List UInt8} (h : ftL n d ≠ s) : ((ftS n d).toList == (bsOf s).toList) = false := by
  rw [ftS_list, str_same]; exact decide_eq_false h
set_option maxHeartbeats 3000000 in
theorem frParse_any (s : List UInt8) (hl : s.length ≤ 1048576) (w : World) :
    Calls Tryd.prog 56 #[.string (bsOf s)] w fun e w' => e = .returned (.tuple #[.agg #[.int .i64 (pfN s), .int .i64 (pfE s)], .bool (pfB s)]) ∧ Below w.heap.size w w' := by
  obtain ⟨S, HS⟩ : ∃ S, Hid (bsOf s = S) := ⟨_, Lib.hid rfl⟩
  have hss : S.size = s.length := by rw [← HS.out, bsOf_size]
  have HSp := Lib.hid (fun w => Sp.l1Split_any s hl w)
  have hne := splitF_ne s []
  have hlen := splitF_len s []
  obtain ⟨ps, HPS⟩ : ∃ ps, Hid (splitL s = ps) := ⟨_, Lib.hid rfl⟩
  rw [show splitF [] s = splitL s from rfl, HPS.out] at hne hlen
  rw [HS.out]
  rw [HS.out, HPS.out] at HSp
  have HPL : Hid (∀ p ∈ ps, p.length ≤ 1048576) := Lib.hid (fun p hp => by have := hlen p hp; simp at this; omega)
  clear hlen
  have HSS := Lib.hid hss
  obtain ⟨hne, -⟩ := hne
  by_cases hlong : 22 < s.length
  · have HN := Lib.hid (pf_no (s := s) (fun n d k => by have := pf_short k; omega))
    have h22 : (22 : Int) < (S.size : Int) := by omega
    have hpn : ps ≠ [] := by intro e; rw [e] at hne; simp at hne
    clear hss hlong
    go_enter Tryd.func56, Tryd.ntmps56
    go_wp2_with fail
    (go_at_call 96; (with_reducible refine (HSp.out _).mono ?_); rintro e w1 ⟨v, rfl, hst, hb1⟩)
    obtain ⟨g, cap, hv, hg, hcap, hcell⟩ := hst.shape (by simpa using hpn)
    obtain ⟨m, hm⟩ : ∃ m, (ps.map bsOf).length = m := ⟨_, rfl⟩
    rw [hm] at hv
    subst hv
    have hB1 : Below w.heap.size w w1 := Below.trans (by (repeat' (first | (with_reducible exact Below.refl _ _) | (with_reducible assumption) | (with_reducible refine Below.alloc ?_ ?_ _) | (with_reducible refine Below.drew ?_) | (with_reducible refine below_drewN ?_ _) | (with_reducible refine Below.setCell ?_ ?_ _) | go_size))) (hb1.mono (by go_size))
    have hs1 := hb1.size
    (try simp at hs1)
    have hz1 : w.heap.size < w1.heap.size := by omega
    have k1_0 : w1.cell? ⟨w.heap.size, 0, none⟩ = some (.int .i64 0) := by rw [hb1.cell (p := ⟨w.heap.size, 0, none⟩) (by simp)]; simp [go_sem]
    have f1_0 : w1.frozen? ⟨w.heap.size, 0, none⟩ = false := by rw [hb1.frozen (p := ⟨w.heap.size, 0, none⟩) (by simp)]; simp [go_sem]
    have k1_1 : w1.cell? ⟨w.heap.size, 1, none⟩ = some (.int .i64 0) := by rw [hb1.cell (p := ⟨w.heap.size, 1, none⟩) (by simp)]; simp [go_sem]
    have f1_1 : w1.frozen? ⟨w.heap.size, 1, none⟩ = false := by rw [hb1.frozen (p := ⟨w.heap.size, 1, none⟩) (by simp)]; simp [go_sem]
    clear hcell hst hcap hm
    go_wp2
    refine bodyPost_ret (by simp [results, Tryd.results56, go_sem, *]; try rfl) rfl ?_
    exact ⟨ret_frac (s := s) HN.out.2.1.symm HN.out.2.2.symm HN.out.1.symm, by repeat' (first | (with_reducible exact Below.refl _ _) | (with_reducible assumption) | (with_reducible refine Below.alloc ?_ ?_ _) | (with_reducible refine Below.drew ?_) | (with_reducible refine below_drewN ?_ _) | (with_reducible refine Below.setCell ?_ ?_ _) | go_size)⟩
  · have h22 : ¬ (22 : Int) < (S.size : Int) := by omega
    clear hss
    cases ps with
    | nil => simp at hne
    | cons p ps =>
      cases ps with
      | nil =>
        obtain ⟨P0, HP0⟩ : ∃ P, Hid (bsOf p = P) := ⟨_, Lib.hid rfl⟩
        obtain ⟨r0, HR0⟩ : ∃ r, Hid (frR p = r) := ⟨_, Lib.hid rfl⟩
        have F0 : Hid (∀ w, Calls Tryd.prog 97 #[.string P0] w fun e w' => e = .returned (.int .i64 r0) ∧ w = w') := Lib.hid (fun w => by rw [← HP0.out, ← HR0.out]; exact frRead_any p (HPL.out _ (by simp)) w)
        have rr0 : -1 ≤ r0 ∧ r0 ≤ 9999999999 := by rw [← HR0.out]; exact frR_range _
        cases hp0 : p with
        | nil =>
          have hp : p.head? ≠ some 45 := by rw [hp0]; simp
          have hP : ¬ (0 : Int) < (P0.size : Int) := by rw [← HP0.out, hp0, bsOf_size]; simp
          clear hp0
          have HRD := Lib.hid (show rdN p = r0 by rw [rdN_plain hp, HR0.out])
          clear hp
          have HNO : Hid ((fracB r0 1 = true → ftL r0 1 ≠ s) → ∀ n d, ¬ pfP s n d) := Lib.hid (fun h => spec_one HPS.out (by rw [HRD.out]; exact h))
          rcases Bool.eq_false_or_eq_true (fracB r0 1) with hfr | hfr
          · have HX : Hid (∀ w, Calls Tryd.prog 62 #[.agg #[.int .i64 r0, .int .i64 1]] w fun e w' => e = .returned (.string (ftS r0 1)) ∧ Below w.heap.size w w') := Lib.hid (fun w => by obtain ⟨a0, a1, a2, a3, _⟩ := fracB_range hfr; exact frText_any _ _ a2 a3 a0 a1 w)
            obtain ⟨T, HTT⟩ : ∃ T, Hid (ftS r0 1 = T) := ⟨_, Lib.hid rfl⟩
            rw [HTT.out] at HX
            rcases Classical.em (ftL r0 1 = s) with ht | ht
            · skip
              have HY := Lib.hid (pf_yes (show pfP s r0 1 from ⟨hfr, ht⟩))
              obtain rfl : T = S := by rw [← HTT.out, ← HS.out, ftS_list, ht]
              clear ht
              go_enter Tryd.func56, Tryd.ntmps56
              go_wp2_with fail
              (go_at_call 96; (with_reducible refine (HSp.out _).mono ?_); rintro e w1 ⟨v, rfl, hst, hb1⟩)
              obtain ⟨g, cap, rfl, hg, hcap, hcell⟩ := hst.shape (by simp)
              have hB1 : Below w.heap.size w w1 := Below.trans (by (repeat' (first | (with_reducible exact Below.refl _ _) | (with_reducible assumption) | (with_reducible refine Below.alloc ?_ ?_ _) | (with_reducible refine Below.drew ?_) | (with_reducible refine below_drewN ?_ _) | (with_reducible refine Below.setCell ?_ ?_ _) | go_size))) (hb1.mono (by go_size))
              have hs1 := hb1.size
              (try simp at hs1)
              have hz1 : w.heap.size < w1.heap.size := by omega
              have k1_0 : w1.cell? ⟨w.heap.size, 0, none⟩ = some (.int .i64 0) := by rw [hb1.cell (p := ⟨w.heap.size, 0, none⟩) (by simp)]; simp [go_sem]
              have f1_0 : w1.frozen? ⟨w.heap.size, 0, none⟩ = false := by rw [hb1.frozen (p := ⟨w.heap.size, 0, none⟩) (by simp)]; simp [go_sem]
              have k1_1 : w1.cell? ⟨w.heap.size, 1, none⟩ = some (.int .i64 0) := by rw [hb1.cell (p := ⟨w.heap.size, 1, none⟩) (by simp)]; simp [go_sem]
              have f1_1 : w1.frozen? ⟨w.heap.size, 1, none⟩ = false := by rw [hb1.frozen (p := ⟨w.heap.size, 1, none⟩) (by simp)]; simp [go_sem]
              have c0 : w1.cell? ⟨g, 0, none⟩ = some (.string P0) := by have := hcell 0 P0 (by rw [← HP0.out]; rfl); simpa using this
              clear hcell hst hcap
              have hgn : g ≠ w1.heap.size := by omega
              go_wp2_with (first | (go_at_call 97; (with_reducible refine (F0.out _).mono ?_); rintro e w' ⟨rfl, rfl⟩))
              (go_at_call 61; refine (frGood_any _ _ _).mono ?_; rintro e w2 ⟨rfl, hb2⟩; obtain ⟨hc2, hf2⟩ := bcell hb2; have hB2 : Below w.heap.size w w2 := Below.trans (by repeat' (first | (with_reducible exact Below.refl _ _) | (with_reducible assumption) | (with_reducible refine Below.alloc ?_ ?_ _) | (with_reducible refine Below.drew ?_) | (with_reducible refine below_drewN ?_ _) | (with_reducible refine Below.setCell ?_ ?_ _) | go_size)) (hb2.mono (by go_size)); (have hs2 := hb2.size); (try simp at hs2); (try (have hl2 := Nat.lt_of_succ_le hs2)); (first | (have hz2 : w.heap.size < w2.heap.size := by omega) | (have hz2 : w.heap.size ≤ w2.heap.size := by omega)); (try (have hz1_2 : w1.heap.size < w2.heap.size := by omega)); (try (have hz3_2 : w3.heap.size < w2.heap.size := by omega)); (try (have hz4_2 : w4.heap.size < w2.heap.size := by omega)); (try (have hz5_2 : w5.heap.size < w2.heap.size := by omega)); (try (have hzc_2 : wc.heap.size < w2.heap.size := by omega)); (try (have hy1_2 : w.heap.size + 1 < w2.heap.size := by omega)); (try (have hy2_2 : w.heap.size + 2 < w2.heap.size := by omega)); (try (have hy3_2 : w.heap.size + 3 < w2.heap.size := by omega)); (have k2_0 : w2.cell? ⟨w.heap.size, 0, none⟩ = some (.int .i64 0) := by (rw [hb2.cell (by first | (simp; done) | (simp; omega) | omega)]; first | assumption | (simp [go_sem]; done) | (simp [*, go_sem]; done))); (have k2_1 : w2.cell? ⟨w.heap.size, 1, none⟩ = some (.int .i64 0) := by (rw [hb2.cell (by first | (simp; done) | (simp; omega) | omega)]; first | assumption | (simp [go_sem]; done) | (simp [*, go_sem]; done))); (have k2_2 : w2.frozen? ⟨w.heap.size, 0, none⟩ = false := by (rw [hb2.frozen (by first | (simp; done) | (simp; omega) | omega)]; first | assumption | (simp [go_sem]; done) | (simp [*, go_sem]; done))); (have k2_3 : w2.frozen? ⟨w.heap.size, 1, none⟩ = false := by (rw [hb2.frozen (by first | (simp; done) | (simp; omega) | omega)]; first | assumption | (simp [go_sem]; done) | (simp [*, go_sem]; done))); (have k2_4 : w2.cell? ⟨w1.heap.size, 0, none⟩ = some (.int .i64 r0) := by (rw [hb2.cell (by first | (simp; done) | (simp; omega) | omega)]; first | assumption | (simp [go_sem]; done) | (simp [*, go_sem]; done))); (have k2_5 : w2.cell? ⟨w1.heap.size, 1, none⟩ = some (.int .i64 1) := by (rw [hb2.cell (by first | (simp; done) | (simp; omega) | omega)]; first | assumption | (simp [go_sem]; done) | (simp [*, go_sem]; done))))
              rw [hfr]
              go_wp2_with fail
              (go_at_call 62; refine (HX.out _).mono ?_; rintro e w3 ⟨rfl, hb3⟩; obtain ⟨hc3, hf3⟩ := bcell hb3; have hB3 : Below w.heap.size w w3 := Below.trans (by repeat' (first | (with_reducible exact Below.refl _ _) | (with_reducible assumption) | (with_reducible refine Below.alloc ?_ ?_ _) | (with_reducible refine Below.drew ?_) | (with_reducible refine below_drewN ?_ _) | (with_reducible refine Below.setCell ?_ ?_ _) | go_size)) (hb3.mono (by go_size)); (have hs3 := hb3.size); (try simp at hs3); (try (have hl3 := Nat.lt_of_succ_le hs3)); (first | (have hz3 : w.heap.size < w3.heap.size := by omega) | (have hz3 : w.heap.size ≤ w3.heap.size := by omega)); (try (have hz1_3 : w1.heap.size < w3.heap.size := by omega)); (try (have hz2_3 : w2.heap.size < w3.heap.size := by omega)); (try (have hz4_3 : w4.heap.size < w3.heap.size := by omega)); (try (have hz5_3 : w5.heap.size < w3.heap.size := by omega)); (try (have hzc_3 : wc.heap.size < w3.heap.size := by omega)); (try (have hy1_3 : w.heap.size + 1 < w3.heap.size := by omega)); (try (have hy2_3 : w.heap.size + 2 < w3.heap.size := by omega)); (try (have hy3_3 : w.heap.size + 3 < w3.heap.size := by omega)); (have k3_0 : w3.cell? ⟨w.heap.size, 0, none⟩ = some (.int .i64 0) := by (rw [hb3.cell (by first | (simp; done) | (simp; omega) | omega)]; first | assumption | (simp [go_sem]; done) | (simp [*, go_sem]; done))); (have k3_1 : w3.cell? ⟨w.heap.size, 1, none⟩ = some (.int .i64 0) := by (rw [hb3.cell (by first | (simp; done) | (simp; omega) | omega)]; first | assumption | (simp [go_sem]; done) | (simp [*, go_sem]; done))); (have k3_2 : w3.frozen? ⟨w.heap.size, 0, none⟩ = false := by (rw [hb3.frozen (by first | (simp; done) | (simp; omega) | omega)]; first | assumption | (simp [go_sem]; done) | (simp [*, go_sem]; done))); (have k3_3 : w3.frozen? ⟨w.heap.size, 1, none⟩ = false := by (rw [hb3.frozen (by first | (simp; done) | (simp; omega) | omega)]; first | assumption | (simp [go_sem]; done) | (simp [*, go_sem]; done))); (have k3_4 : w3.cell? ⟨w1.heap.size, 0, none⟩ = some (.int .i64 r0) := by (rw [hb3.cell (by first | (simp; done) | (simp; omega) | omega)]; first | assumption | (simp [go_sem]; done) | (simp [*, go_sem]; done))); (have k3_5 : w3.cell? ⟨w1.heap.size, 1, none⟩ = some (.int .i64 1) := by (rw [hb3.cell (by first | (simp; done) | (simp; omega) | omega)]; first | assumption | (simp [go_sem]; done) | (simp [*, go_sem]; done))))
              go_wp2
              refine bodyPost_ret (by simp [results, Tryd.results56, go_sem, *]; try rfl) rfl ?_
              exact ⟨ret_frac (s := s) HY.out.2.1.symm HY.out.2.2.symm HY.out.1.symm, by repeat' (first | (with_reducible exact Below.refl _ _) | (with_reducible assumption) | (with_reducible refine Below.alloc ?_ ?_ _) | (with_reducible refine Below.drew ?_) | (with_reducible refine below_drewN ?_ _) | (with_reducible refine Below.setCell ?_ ?_ _) | go_size)⟩
            · skip
              have HN := Lib.hid (pf_no (HNO.out (fun _ => ht)))
              have hne2 : (T.toList == S.toList) = false := by rw [← HTT.out, ← HS.out]; exact text_ne ht
              clear ht
              go_enter Tryd.func56, Tryd.ntmps56
              go_wp2_with fail
              (go_at_call 96; (with_reducible refine (HSp.out _).mono ?_); rintro e w1 ⟨v, rfl, hst, hb1⟩)
              obtain ⟨g, cap, rfl, hg, hcap, hcell⟩ := hst.shape (by simp)
              have hB1 : Below w.heap.size w w1 := Below.trans (by (repeat' (first | (with_reducible exact Below.refl _ _) | (with_reducible assumption) | (with_reducible refine Below.alloc ?_ ?_ _) | (with_reducible refine Below.drew ?_) | (with_reducible refine below_drewN ?_ _) | (with_reducible refine Below.setCell ?_ ?_ _) | go_size))) (hb1.mono (by go_size))
              have hs1 := hb1.size
              (try simp at hs1)
              have hz1 : w.heap.size < w1.heap.size := by omega
              have k1_0 : w1.cell? ⟨w.heap.size, 0, none⟩ = some (.int .i64 0) := by rw [hb1.cell (p := ⟨w.heap.size, 0, none⟩) (by simp)]; simp [go_sem]
              have f1_0 : w1.frozen? ⟨w.heap.size, 0, none⟩ = false := by rw [hb1.frozen (p := ⟨w.heap.size, 0, none⟩) (by simp)]; simp [go_sem]
              have k1_1 : w1.cell? ⟨w.heap.size, 1, none⟩ = some (.int .i64 0) := by rw [hb1.cell (p := ⟨w.heap.size, 1, none⟩) (by simp)]; simp [go_sem]
              have f1_1 : w1.frozen? ⟨w.heap.size, 1, none⟩ = false := by rw [hb1.frozen (p := ⟨w.heap.size, 1, none⟩) (by simp)]; simp [go_sem]
              have c0 : w1.cell? ⟨g, 0, none⟩ = some (.string P0) := by have := hcell 0 P0 (by rw [← HP0.out]; rfl); simpa using this
              clear hcell hst hcap
              have hgn : g ≠ w1.heap.size := by omega
              go_wp2_with (first | (go_at_call 97; (with_reducible refine (F0.out _).mono ?_); rintro e w' ⟨rfl, rfl⟩))
              (go_at_call 61; refine (frGood_any _ _ _).mono ?_; rintro e w2 ⟨rfl, hb2⟩; obtain ⟨hc2, hf2⟩ := bcell hb2; have hB2 : Below w.heap.size w w2 := Below.trans (by repeat' (first | (with_reducible exact Below.refl _ _) | (with_reducible assumption) | (with_reducible refine Below.alloc ?_ ?_ _) | (with_reducible refine Below.drew ?_) | (with_reducible refine below_drewN ?_ _) | (with_reducible refine Below.setCell ?_ ?_ _) | go_size)) (hb2.mono (by go_size)); (have hs2 := hb2.size); (try simp at hs2); (try (have hl2 := Nat.lt_of_succ_le hs2)); (first | (have hz2 : w.heap.size < w2.heap.size := by omega) | (have hz2 : w.heap.size ≤ w2.heap.size := by omega)); (try (have hz1_2 : w1.heap.size < w2.heap.size := by omega)); (try (have hz3_2 : w3.heap.size < w2.heap.size := by omega)); (try (have hz4_2 : w4.heap.size < w2.heap.size := by omega)); (try (have hz5_2 : w5.heap.size < w2.heap.size := by omega)); (try (have hzc_2 : wc.heap.size < w2.heap.size := by omega)); (try (have hy1_2 : w.heap.size + 1 < w2.heap.size := by omega)); (try (have hy2_2 : w.heap.size + 2 < w2.heap.size := by omega)); (try (have hy3_2 : w.heap.size + 3 < w2.heap.size := by omega)); (have k2_0 : w2.cell? ⟨w.heap.size, 0, none⟩ = some (.int .i64 0) := by (rw [hb2.cell (by first | (simp; done) | (simp; omega) | omega)]; first | assumption | (simp [go_sem]; done) | (simp [*, go_sem]; done))); (have k2_1 : w2.cell? ⟨w.heap.size, 1, none⟩ = some (.int .i64 0) := by (rw [hb2.cell (by first | (simp; done) | (simp; omega) | omega)]; first | assumption | (simp [go_sem]; done) | (simp [*, go_sem]; done))); (have k2_2 : w2.frozen? ⟨w.heap.size, 0, none⟩ = false := by (rw [hb2.frozen (by first | (simp; done) | (simp; omega) | omega)]; first | assumption | (simp [go_sem]; done) | (simp [*, go_sem]; done))); (have k2_3 : w2.frozen? ⟨w.heap.size, 1, none⟩ = false := by (rw [hb2.frozen (by first | (simp; done) | (simp; omega) | omega)]; first | assumption | (simp [go_sem]; done) | (simp [*, go_sem]; done))); (have k2_4 : w2.cell? ⟨w1.heap.size, 0, none⟩ = some (.int .i64 r0) := by (rw [hb2.cell (by first | (simp; done) | (simp; omega) | omega)]; first | assumption | (simp [go_sem]; done) | (simp [*, go_sem]; done))); (have k2_5 : w2.cell? ⟨w1.heap.size, 1, none⟩ = some (.int .i64 1) := by (rw [hb2.cell (by first | (simp; done) | (simp; omega) | omega)]; first | assumption | (simp [go_sem]; done) | (simp [*, go_sem]; done))))
              rw [hfr]
              go_wp2_with fail
              (go_at_call 62; refine (HX.out _).mono ?_; rintro e w3 ⟨rfl, hb3⟩; obtain ⟨hc3, hf3⟩ := bcell hb3; have hB3 : Below w.heap.size w w3 := Below.trans (by repeat' (first | (with_reducible exact Below.refl _ _) | (with_reducible assumption) | (with_reducible refine Below.alloc ?_ ?_ _) | (with_reducible refine Below.drew ?_) | (with_reducible refine below_drewN ?_ _) | (with_reducible refine Below.setCell ?_ ?_ _) | go_size)) (hb3.mono (by go_size)); (have hs3 := hb3.size); (try simp at hs3); (try (have hl3 := Nat.lt_of_succ_le hs3)); (first | (have hz3 : w.heap.size < w3.heap.size := by omega) | (have hz3 : w.heap.size ≤ w3.heap.size := by omega)); (try (have hz1_3 : w1.heap.size < w3.heap.size := by omega)); (try (have hz2_3 : w2.heap.size < w3.heap.size := by omega)); (try (have hz4_3 : w4.heap.size < w3.heap.size := by omega)); (try (have hz5_3 : w5.heap.size < w3.heap.size := by omega)); (try (have hzc_3 : wc.heap.size < w3.heap.size := by omega)); (try (have hy1_3 : w.heap.size + 1 < w3.heap.size := by omega)); (try (have hy2_3 : w.heap.size + 2 < w3.heap.size := by omega)); (try (have hy3_3 : w.heap.size + 3 < w3.heap.size := by omega)); (have k3_0 : w3.cell? ⟨w.heap.size, 0, none⟩ = some (.int .i64 0) := by (rw [hb3.cell (by first | (simp; done) | (simp; omega) | omega)]; first | assumption | (simp [go_sem]; done) | (simp [*, go_sem]; done))); (have k3_1 : w3.cell? ⟨w.heap.size, 1, none⟩ = some (.int .i64 0) := by (rw [hb3.cell (by first | (simp; done) | (simp; omega) | omega)]; first | assumption | (simp [go_sem]; done) | (simp [*, go_sem]; done))); (have k3_2 : w3.frozen? ⟨w.heap.size, 0, none⟩ = false := by (rw [hb3.frozen (by first | (simp; done) | (simp; omega) | omega)]; first | assumption | (simp [go_sem]; done) | (simp [*, go_sem]; done))); (have k3_3 : w3.frozen? ⟨w.heap.size, 1, none⟩ = false := by (rw [hb3.frozen (by first | (simp; done) | (simp; omega) | omega)]; first | assumption | (simp [go_sem]; done) | (simp [*, go_sem]; done))); (have k3_4 : w3.cell? ⟨w1.heap.size, 0, none⟩ = some (.int .i64 r0) := by (rw [hb3.cell (by first | (simp; done) | (simp; omega) | omega)]; first | assumption | (simp [go_sem]; done) | (simp [*, go_sem]; done))); (have k3_5 : w3.cell? ⟨w1.heap.size, 1, none⟩ = some (.int .i64 1) := by (rw [hb3.cell (by first | (simp; done) | (simp; omega) | omega)]; first | assumption | (simp [go_sem]; done) | (simp [*, go_sem]; done))))
              go_wp2
              refine bodyPost_ret (by simp [results, Tryd.results56, go_sem, *]; try rfl) rfl ?_
              exact ⟨ret_frac (s := s) HN.out.2.1.symm HN.out.2.2.symm HN.out.1.symm, by repeat' (first | (with_reducible exact Below.refl _ _) | (with_reducible assumption) | (with_reducible refine Below.alloc ?_ ?_ _) | (with_reducible refine Below.drew ?_) | (with_reducible refine below_drewN ?_ _) | (with_reducible refine Below.setCell ?_ ?_ _) | go_size)⟩
          · have HN := Lib.hid (pf_no (HNO.out (fun h => by rw [hfr] at h; cases h)))
            go_enter Tryd.func56, Tryd.ntmps56
            go_wp2_with fail
            (go_at_call 96; (with_reducible refine (HSp.out _).mono ?_); rintro e w1 ⟨v, rfl, hst, hb1⟩)
            obtain ⟨g, cap, rfl, hg, hcap, hcell⟩ := hst.shape (by simp)
            have hB1 : Below w.heap.size w w1 := Below.trans (by (repeat' (first | (with_reducible exact Below.refl _ _) | (with_reducible assumption) | (with_reducible refine Below.alloc ?_ ?_ _) | (with_reducible refine Below.drew ?_) | (with_reducible refine below_drewN ?_ _) | (with_reducible refine Below.setCell ?_ ?_ _) | go_size))) (hb1.mono (by go_size))
            have hs1 := hb1.size
            (try simp at hs1)
            have hz1 : w.heap.size < w1.heap.size := by omega
            have k1_0 : w1.cell? ⟨w.heap.size, 0, none⟩ = some (.int .i64 0) := by rw [hb1.cell (p := ⟨w.heap.size, 0, none⟩) (by simp)]; simp [go_sem]
            have f1_0 : w1.frozen? ⟨w.heap.size, 0, none⟩ = false := by rw [hb1.frozen (p := ⟨w.heap.size, 0, none⟩) (by simp)]; simp [go_sem]
            have k1_1 : w1.cell? ⟨w.heap.size, 1, none⟩ = some (.int .i64 0) := by rw [hb1.cell (p := ⟨w.heap.size, 1, none⟩) (by simp)]; simp [go_sem]
            have f1_1 : w1.frozen? ⟨w.heap.size, 1, none⟩ = false := by rw [hb1.frozen (p := ⟨w.heap.size, 1, none⟩) (by simp)]; simp [go_sem]
            have c0 : w1.cell? ⟨g, 0, none⟩ = some (.string P0) := by have := hcell 0 P0 (by rw [← HP0.out]; rfl); simpa using this
            clear hcell hst hcap
            have hgn : g ≠ w1.heap.size := by omega
            go_wp2_with (first | (go_at_call 97; (with_reducible refine (F0.out _).mono ?_); rintro e w' ⟨rfl, rfl⟩))
            (go_at_call 61; refine (frGood_any _ _ _).mono ?_; rintro e w2 ⟨rfl, hb2⟩; obtain ⟨hc2, hf2⟩ := bcell hb2; have hB2 : Below w.heap.size w w2 := Below.trans (by repeat' (first | (with_reducible exact Below.refl _ _) | (with_reducible assumption) | (with_reducible refine Below.alloc ?_ ?_ _) | (with_reducible refine Below.drew ?_) | (with_reducible refine below_drewN ?_ _) | (with_reducible refine Below.setCell ?_ ?_ _) | go_size)) (hb2.mono (by go_size)); (have hs2 := hb2.size); (try simp at hs2); (try (have hl2 := Nat.lt_of_succ_le hs2)); (first | (have hz2 : w.heap.size < w2.heap.size := by omega) | (have hz2 : w.heap.size ≤ w2.heap.size := by omega)); (try (have hz1_2 : w1.heap.size < w2.heap.size := by omega)); (try (have hz3_2 : w3.heap.size < w2.heap.size := by omega)); (try (have hz4_2 : w4.heap.size < w2.heap.size := by omega)); (try (have hz5_2 : w5.heap.size < w2.heap.size := by omega)); (try (have hzc_2 : wc.heap.size < w2.heap.size := by omega)); (try (have hy1_2 : w.heap.size + 1 < w2.heap.size := by omega)); (try (have hy2_2 : w.heap.size + 2 < w2.heap.size := by omega)); (try (have hy3_2 : w.heap.size + 3 < w2.heap.size := by omega)); (have k2_0 : w2.cell? ⟨w.heap.size, 0, none⟩ = some (.int .i64 0) := by (rw [hb2.cell (by first | (simp; done) | (simp; omega) | omega)]; first | assumption | (simp [go_sem]; done) | (simp [*, go_sem]; done))); (have k2_1 : w2.cell? ⟨w.heap.size, 1, none⟩ = some (.int .i64 0) := by (rw [hb2.cell (by first | (simp; done) | (simp; omega) | omega)]; first | assumption | (simp [go_sem]; done) | (simp [*, go_sem]; done))); (have k2_2 : w2.frozen? ⟨w.heap.size, 0, none⟩ = false := by (rw [hb2.frozen (by first | (simp; done) | (simp; omega) | omega)]; first | assumption | (simp [go_sem]; done) | (simp [*, go_sem]; done))); (have k2_3 : w2.frozen? ⟨w.heap.size, 1, none⟩ = false := by (rw [hb2.frozen (by first | (simp; done) | (simp; omega) | omega)]; first | assumption | (simp [go_sem]; done) | (simp [*, go_sem]; done))); (have k2_4 : w2.cell? ⟨w1.heap.size, 0, none⟩ = some (.int .i64 r0) := by (rw [hb2.cell (by first | (simp; done) | (simp; omega) | omega)]; first | assumption | (simp [go_sem]; done) | (simp [*, go_sem]; done))); (have k2_5 : w2.cell? ⟨w1.heap.size, 1, none⟩ = some (.int .i64 1) := by (rw [hb2.cell (by first | (simp; done) | (simp; omega) | omega)]; first | assumption | (simp [go_sem]; done) | (simp [*, go_sem]; done))))
            rw [hfr]
            go_wp2
            refine bodyPost_ret (by simp [results, Tryd.results56, go_sem, *]; try rfl) rfl ?_
            exact ⟨ret_frac (s := s) HN.out.2.1.symm HN.out.2.2.symm HN.out.1.symm, by repeat' (first | (with_reducible exact Below.refl _ _) | (with_reducible assumption) | (with_reducible refine Below.alloc ?_ ?_ _) | (with_reducible refine Below.drew ?_) | (with_reducible refine below_drewN ?_ _) | (with_reducible refine Below.setCell ?_ ?_ _) | go_size)⟩
        | cons b r =>
          have hP : (0 : Int) < (P0.size : Int) := by rw [← HP0.out, hp0, bsOf_size]; simp
          have kx : ∀ w : World, (Instr.index 9 (.string P0) (.int .i64 0)).run Tryd.prog w = .ok (.int .u8 (b.toNat : Int)) w := fun w => by rw [← HP0.out]; exact index_at p 0 b (by rw [hp0]; rfl) w
          by_cases hb : b = 45
          · have hp : p = 45 :: r := by rw [hp0, hb]
            have e1 : ((b.toNat : Int) == 45) = true := by rw [hb]; rfl
            obtain ⟨PT, HPT⟩ : ∃ PT, Hid (P0.extract 1 P0.size = PT) := ⟨_, Lib.hid rfl⟩
            have HPTb := Lib.hid (show bsOf r = PT by rw [← HPT.out, ← HP0.out, hp]; have := ext_from (45 :: r) 1; exact this.symm)
            have ks : ∀ w : World, (Instr.slice 9 (.string P0) (some (.int .i64 1)) none none).run Tryd.prog w = .ok (.string PT) w := fun w => by
              rw [run_slice_string_l (ht := stringU) (h0 := by omega) (h1 := by omega)]
              exact congrArg (fun x => Result.ok (Value.string x) w) HPT.out
            obtain ⟨rt, HRT⟩ : ∃ rt, Hid (frR r = rt) := ⟨_, Lib.hid rfl⟩
            have FT : Hid (∀ w, Calls Tryd.prog 97 #[.string PT] w fun e w' => e = .returned (.int .i64 rt) ∧ w = w') := Lib.hid (fun w => by rw [← HPTb.out, ← HRT.out]; exact frRead_any r (by have := HPL.out p (by simp); rw [hp] at this; simp at this; omega) w)
            have rrt : -1 ≤ rt ∧ rt ≤ 9999999999 := by rw [← HRT.out]; exact frR_range _
            clear hp0 hb
            have HRD := Lib.hid (show rdN p = (-rt) by rw [rdN_minus hp, HRT.out])
            clear hp
            have HNO : Hid ((fracB (-rt) 1 = true → ftL (-rt) 1 ≠ s) → ∀ n d, ¬ pfP s n d) := Lib.hid (fun h => spec_one HPS.out (by rw [HRD.out]; exact h))
            rcases Bool.eq_false_or_eq_true (fracB (-rt) 1) with hfr | hfr
            · have HX : Hid (∀ w, Calls Tryd.prog 62 #[.agg #[.int .i64 (-rt), .int .i64 1]] w fun e w' => e = .returned (.string (ftS (-rt) 1)) ∧ Below w.heap.size w w') := Lib.hid (fun w => by obtain ⟨a0, a1, a2, a3, _⟩ := fracB_range hfr; exact frText_any _ _ a2 a3 a0 a1 w)
              obtain ⟨T, HTT⟩ : ∃ T, Hid (ftS (-rt) 1 = T) := ⟨_, Lib.hid rfl⟩
              rw [HTT.out] at HX
              rcases Classical.em (ftL (-rt) 1 = s) with ht | ht
              · skip
                have HY := Lib.hid (pf_yes (show pfP s (-rt) 1 from ⟨hfr, ht⟩))
                obtain rfl : T = S := by rw [← HTT.out, ← HS.out, ftS_list, ht]
                clear ht
                go_enter Tryd.func56, Tryd.ntmps56
                go_wp2_with fail
                (go_at_call 96; (with_reducible refine (HSp.out _).mono ?_); rintro e w1 ⟨v, rfl, hst, hb1⟩)
                obtain ⟨g, cap, rfl, hg, hcap, hcell⟩ := hst.shape (by simp)
                have hB1 : Below w.heap.size w w1 := Below.trans (by (repeat' (first | (with_reducible exact Below.refl _ _) | (with_reducible assumption) | (with_reducible refine Below.alloc ?_ ?_ _) | (with_reducible refine Below.drew ?_) | (with_reducible refine below_drewN ?_ _) | (with_reducible refine Below.setCell ?_ ?_ _) | go_size))) (hb1.mono (by go_size))
                have hs1 := hb1.size
                (try simp at hs1)
                have hz1 : w.heap.size < w1.heap.size := by omega
                have k1_0 : w1.cell? ⟨w.heap.size, 0, none⟩ = some (.int .i64 0) := by rw [hb1.cell (p := ⟨w.heap.size, 0, none⟩) (by simp)]; simp [go_sem]
                have f1_0 : w1.frozen? ⟨w.heap.size, 0, none⟩ = false := by rw [hb1.frozen (p := ⟨w.heap.size, 0, none⟩) (by simp)]; simp [go_sem]
                have k1_1 : w1.cell? ⟨w.heap.size, 1, none⟩ = some (.int .i64 0) := by rw [hb1.cell (p := ⟨w.heap.size, 1, none⟩) (by simp)]; simp [go_sem]
                have f1_1 : w1.frozen? ⟨w.heap.size, 1, none⟩ = false := by rw [hb1.frozen (p := ⟨w.heap.size, 1, none⟩) (by simp)]; simp [go_sem]
                have c0 : w1.cell? ⟨g, 0, none⟩ = some (.string P0) := by have := hcell 0 P0 (by rw [← HP0.out]; rfl); simpa using this
                clear hcell hst hcap
                have hgn : g ≠ w1.heap.size := by omega
                go_wp2_with (first | (go_at_call 97; (with_reducible refine (F0.out _).mono ?_); rintro e w' ⟨rfl, rfl⟩) | (go_at_call 97; (with_reducible refine (FT.out _).mono ?_); rintro e w' ⟨rfl, rfl⟩))
                (go_at_call 61; refine (frGood_any _ _ _).mono ?_; rintro e w2 ⟨rfl, hb2⟩; obtain ⟨hc2, hf2⟩ := bcell hb2; have hB2 : Below w.heap.size w w2 := Below.trans (by repeat' (first | (with_reducible exact Below.refl _ _) | (with_reducible assumption) | (with_reducible refine Below.alloc ?_ ?_ _) | (with_reducible refine Below.drew ?_) | (with_reducible refine below_drewN ?_ _) | (with_reducible refine Below.setCell ?_ ?_ _) | go_size)) (hb2.mono (by go_size)); (have hs2 := hb2.size); (try simp at hs2); (try (have hl2 := Nat.lt_of_succ_le hs2)); (first | (have hz2 : w.heap.size < w2.heap.size := by omega) | (have hz2 : w.heap.size ≤ w2.heap.size := by omega)); (try (have hz1_2 : w1.heap.size < w2.heap.size := by omega)); (try (have hz3_2 : w3.heap.size < w2.heap.size := by omega)); (try (have hz4_2 : w4.heap.size < w2.heap.size := by omega)); (try (have hz5_2 : w5.heap.size < w2.heap.size := by omega)); (try (have hzc_2 : wc.heap.size < w2.heap.size := by omega)); (try (have hy1_2 : w.heap.size + 1 < w2.heap.size := by omega)); (try (have hy2_2 : w.heap.size + 2 < w2.heap.size := by omega)); (try (have hy3_2 : w.heap.size + 3 < w2.heap.size := by omega)); (have k2_0 : w2.cell? ⟨w.heap.size, 0, none⟩ = some (.int .i64 0) := by (rw [hb2.cell (by first | (simp; done) | (simp; omega) | omega)]; first | assumption | (simp [go_sem]; done) | (simp [*, go_sem]; done))); (have k2_1 : w2.cell? ⟨w.heap.size, 1, none⟩ = some (.int .i64 0) := by (rw [hb2.cell (by first | (simp; done) | (simp; omega) | omega)]; first | assumption | (simp [go_sem]; done) | (simp [*, go_sem]; done))); (have k2_2 : w2.frozen? ⟨w.heap.size, 0, none⟩ = false := by (rw [hb2.frozen (by first | (simp; done) | (simp; omega) | omega)]; first | assumption | (simp [go_sem]; done) | (simp [*, go_sem]; done))); (have k2_3 : w2.frozen? ⟨w.heap.size, 1, none⟩ = false := by (rw [hb2.frozen (by first | (simp; done) | (simp; omega) | omega)]; first | assumption | (simp [go_sem]; done) | (simp [*, go_sem]; done))); (have k2_4 : w2.cell? ⟨w1.heap.size, 0, none⟩ = some (.int .i64 (-rt)) := by (rw [hb2.cell (by first | (simp; done) | (simp; omega) | omega)]; first | assumption | (simp [go_sem]; done) | (simp [*, go_sem]; done))); (have k2_5 : w2.cell? ⟨w1.heap.size, 1, none⟩ = some (.int .i64 1) := by (rw [hb2.cell (by first | (simp; done) | (simp; omega) | omega)]; first | assumption | (simp [go_sem]; done) | (simp [*, go_sem]; done))))
                rw [hfr]
                go_wp2_with fail
                (go_at_call 62; refine (HX.out _).mono ?_; rintro e w3 ⟨rfl, hb3⟩; obtain ⟨hc3, hf3⟩ := bcell hb3; have hB3 : Below w.heap.size w w3 := Below.trans (by repeat' (first | (with_reducible exact Below.refl _ _) | (with_reducible assumption) | (with_reducible refine Below.alloc ?_ ?_ _) | (with_reducible refine Below.drew ?_) | (with_reducible refine below_drewN ?_ _) | (with_reducible refine Below.setCell ?_ ?_ _) | go_size)) (hb3.mono (by go_size)); (have hs3 := hb3.size); (try simp at hs3); (try (have hl3 := Nat.lt_of_succ_le hs3)); (first | (have hz3 : w.heap.size < w3.heap.size := by omega) | (have hz3 : w.heap.size ≤ w3.heap.size := by omega)); (try (have hz1_3 : w1.heap.size < w3.heap.size := by omega)); (try (have hz2_3 : w2.heap.size < w3.heap.size := by omega)); (try (have hz4_3 : w4.heap.size < w3.heap.size := by omega)); (try (have hz5_3 : w5.heap.size < w3.heap.size := by omega)); (try (have hzc_3 : wc.heap.size < w3.heap.size := by omega)); (try (have hy1_3 : w.heap.size + 1 < w3.heap.size := by omega)); (try (have hy2_3 : w.heap.size + 2 < w3.heap.size := by omega)); (try (have hy3_3 : w.heap.size + 3 < w3.heap.size := by omega)); (have k3_0 : w3.cell? ⟨w.heap.size, 0, none⟩ = some (.int .i64 0) := by (rw [hb3.cell (by first | (simp; done) | (simp; omega) | omega)]; first | assumption | (simp [go_sem]; done) | (simp [*, go_sem]; done))); (have k3_1 : w3.cell? ⟨w.heap.size, 1, none⟩ = some (.int .i64 0) := by (rw [hb3.cell (by first | (simp; done) | (simp; omega) | omega)]; first | assumption | (simp [go_sem]; done) | (simp [*, go_sem]; done))); (have k3_2 : w3.frozen? ⟨w.heap.size, 0, none⟩ = false := by (rw [hb3.frozen (by first | (simp; done) | (simp; omega) | omega)]; first | assumption | (simp [go_sem]; done) | (simp [*, go_sem]; done))); (have k3_3 : w3.frozen? ⟨w.heap.size, 1, none⟩ = false := by (rw [hb3.frozen (by first | (simp; done) | (simp; omega) | omega)]; first | assumption | (simp [go_sem]; done) | (simp [*, go_sem]; done))); (have k3_4 : w3.cell? ⟨w1.heap.size, 0, none⟩ = some (.int .i64 (-rt)) := by (rw [hb3.cell (by first | (simp; done) | (simp; omega) | omega)]; first | assumption | (simp [go_sem]; done) | (simp [*, go_sem]; done))); (have k3_5 : w3.cell? ⟨w1.heap.size, 1, none⟩ = some (.int .i64 1) := by (rw [hb3.cell (by first | (simp; done) | (simp; omega) | omega)]; first | assumption | (simp [go_sem]; done) | (simp [*, go_sem]; done))))
                go_wp2
                refine bodyPost_ret (by simp [results, Tryd.results56, go_sem, *]; try rfl) rfl ?_
                exact ⟨ret_frac (s := s) HY.out.2.1.symm HY.out.2.2.symm HY.out.1.symm, by repeat' (first | (with_reducible exact Below.refl _ _) | (with_reducible assumption) | (with_reducible refine Below.alloc ?_ ?_ _) | (with_reducible refine Below.drew ?_) | (with_reducible refine below_drewN ?_ _) | (with_reducible refine Below.setCell ?_ ?_ _) | go_size)⟩
              · skip
                have HN := Lib.hid (pf_no (HNO.out (fun _ => ht)))
                have hne2 : (T.toList == S.toList) = false := by rw [← HTT.out, ← HS.out]; exact text_ne ht
                clear ht
                go_enter Tryd.func56, Tryd.ntmps56
                go_wp2_with fail
                (go_at_call 96; (with_reducible refine (HSp.out _).mono ?_); rintro e w1 ⟨v, rfl, hst, hb1⟩)
                obtain ⟨g, cap, rfl, hg, hcap, hcell⟩ := hst.shape (by simp)
                have hB1 : Below w.heap.size w w1 := Below.trans (by (repeat' (first | (with_reducible exact Below.refl _ _) | (with_reducible assumption) | (with_reducible refine Below.alloc ?_ ?_ _) | (with_reducible refine Below.drew ?_) | (with_reducible refine below_drewN ?_ _) | (with_reducible refine Below.setCell ?_ ?_ _) | go_size))) (hb1.mono (by go_size))
                have hs1 := hb1.size
                (try simp at hs1)
                have hz1 : w.heap.size < w1.heap.size := by omega
                have k1_0 : w1.cell? ⟨w.heap.size, 0, none⟩ = some (.int .i64 0) := by rw [hb1.cell (p := ⟨w.heap.size, 0, none⟩) (by simp)]; simp [go_sem]
                have f1_0 : w1.frozen? ⟨w.heap.size, 0, none⟩ = false := by rw [hb1.frozen (p := ⟨w.heap.size, 0, none⟩) (by simp)]; simp [go_sem]
                have k1_1 : w1.cell? ⟨w.heap.size, 1, none⟩ = some (.int .i64 0) := by rw [hb1.cell (p := ⟨w.heap.size, 1, none⟩) (by simp)]; simp [go_sem]
                have f1_1 : w1.frozen? ⟨w.heap.size, 1, none⟩ = false := by rw [hb1.frozen (p := ⟨w.heap.size, 1, none⟩) (by simp)]; simp [go_sem]
                have c0 : w1.cell? ⟨g, 0, none⟩ = some (.string P0) := by have := hcell 0 P0 (by rw [← HP0.out]; rfl); simpa using this
                clear hcell hst hcap
                have hgn : g ≠ w1.heap.size := by omega
                go_wp2_with (first | (go_at_call 97; (with_reducible refine (F0.out _).mono ?_); rintro e w' ⟨rfl, rfl⟩) | (go_at_call 97; (with_reducible refine (FT.out _).mono ?_); rintro e w' ⟨rfl, rfl⟩))
                (go_at_call 61; refine (frGood_any _ _ _).mono ?_; rintro e w2 ⟨rfl, hb2⟩; obtain ⟨hc2, hf2⟩ := bcell hb2; have hB2 : Below w.heap.size w w2 := Below.trans (by repeat' (first | (with_reducible exact Below.refl _ _) | (with_reducible assumption) | (with_reducible refine Below.alloc ?_ ?_ _) | (with_reducible refine Below.drew ?_) | (with_reducible refine below_drewN ?_ _) | (with_reducible refine Below.setCell ?_ ?_ _) | go_size)) (hb2.mono (by go_size)); (have hs2 := hb2.size); (try simp at hs2); (try (have hl2 := Nat.lt_of_succ_le hs2)); (first | (have hz2 : w.heap.size < w2.heap.size := by omega) | (have hz2 : w.heap.size ≤ w2.heap.size := by omega)); (try (have hz1_2 : w1.heap.size < w2.heap.size := by omega)); (try (have hz3_2 : w3.heap.size < w2.heap.size := by omega)); (try (have hz4_2 : w4.heap.size < w2.heap.size := by omega)); (try (have hz5_2 : w5.heap.size < w2.heap.size := by omega)); (try (have hzc_2 : wc.heap.size < w2.heap.size := by omega)); (try (have hy1_2 : w.heap.size + 1 < w2.heap.size := by omega)); (try (have hy2_2 : w.heap.size + 2 < w2.heap.size := by omega)); (try (have hy3_2 : w.heap.size + 3 < w2.heap.size := by omega)); (have k2_0 : w2.cell? ⟨w.heap.size, 0, none⟩ = some (.int .i64 0) := by (rw [hb2.cell (by first | (simp; done) | (simp; omega) | omega)]; first | assumption | (simp [go_sem]; done) | (simp [*, go_sem]; done))); (have k2_1 : w2.cell? ⟨w.heap.size, 1, none⟩ = some (.int .i64 0) := by (rw [hb2.cell (by first | (simp; done) | (simp; omega) | omega)]; first | assumption | (simp [go_sem]; done) | (simp [*, go_sem]; done))); (have k2_2 : w2.frozen? ⟨w.heap.size, 0, none⟩ = false := by (rw [hb2.frozen (by first | (simp; done) | (simp; omega) | omega)]; first | assumption | (simp [go_sem]; done) | (simp [*, go_sem]; done))); (have k2_3 : w2.frozen? ⟨w.heap.size, 1, none⟩ = false := by (rw [hb2.frozen (by first | (simp; done) | (simp; omega) | omega)]; first | assumption | (simp [go_sem]; done) | (simp [*, go_sem]; done))); (have k2_4 : w2.cell? ⟨w1.heap.size, 0, none⟩ = some (.int .i64 (-rt)) := by (rw [hb2.cell (by first | (simp; done) | (simp; omega) | omega)]; first | assumption | (simp [go_sem]; done) | (simp [*, go_sem]; done))); (have k2_5 : w2.cell? ⟨w1.heap.size, 1, none⟩ = some (.int .i64 1) := by (rw [hb2.cell (by first | (simp; done) | (simp; omega) | omega)]; first | assumption | (simp [go_sem]; done) | (simp [*, go_sem]; done))))
                rw [hfr]
                go_wp2_with fail
                (go_at_call 62; refine (HX.out _).mono ?_; rintro e w3 ⟨rfl, hb3⟩; obtain ⟨hc3, hf3⟩ := bcell hb3; have hB3 : Below w.heap.size w w3 := Below.trans (by repeat' (first | (with_reducible exact Below.refl _ _) | (with_reducible assumption) | (with_reducible refine Below.alloc ?_ ?_ _) | (with_reducible refine Below.drew ?_) | (with_reducible refine below_drewN ?_ _) | (with_reducible refine Below.setCell ?_ ?_ _) | go_size)) (hb3.mono (by go_size)); (have hs3 := hb3.size); (try simp at hs3); (try (have hl3 := Nat.lt_of_succ_le hs3)); (first | (have hz3 : w.heap.size < w3.heap.size := by omega) | (have hz3 : w.heap.size ≤ w3.heap.size := by omega)); (try (have hz1_3 : w1.heap.size < w3.heap.size := by omega)); (try (have hz2_3 : w2.heap.size < w3.heap.size := by omega)); (try (have hz4_3 : w4.heap.size < w3.heap.size := by omega)); (try (have hz5_3 : w5.heap.size < w3.heap.size := by omega)); (try (have hzc_3 : wc.heap.size < w3.heap.size := by omega)); (try (have hy1_3 : w.heap.size + 1 < w3.heap.size := by omega)); (try (have hy2_3 : w.heap.size + 2 < w3.heap.size := by omega)); (try (have hy3_3 : w.heap.size + 3 < w3.heap.size := by omega)); (have k3_0 : w3.cell? ⟨w.heap.size, 0, none⟩ = some (.int .i64 0) := by (rw [hb3.cell (by first | (simp; done) | (simp; omega) | omega)]; first | assumption | (simp [go_sem]; done) | (simp [*, go_sem]; done))); (have k3_1 : w3.cell? ⟨w.heap.size, 1, none⟩ = some (.int .i64 0) := by (rw [hb3.cell (by first | (simp; done) | (simp; omega) | omega)]; first | assumption | (simp [go_sem]; done) | (simp [*, go_sem]; done))); (have k3_2 : w3.frozen? ⟨w.heap.size, 0, none⟩ = false := by (rw [hb3.frozen (by first | (simp; done) | (simp; omega) | omega)]; first | assumption | (simp [go_sem]; done) | (simp [*, go_sem]; done))); (have k3_3 : w3.frozen? ⟨w.heap.size, 1, none⟩ = false := by (rw [hb3.frozen (by first | (simp; done) | (simp; omega) | omega)]; first | assumption | (simp [go_sem]; done) | (simp [*, go_sem]; done))); (have k3_4 : w3.cell? ⟨w1.heap.size, 0, none⟩ = some (.int .i64 (-rt)) := by (rw [hb3.cell (by first | (simp; done) | (simp; omega) | omega)]; first | assumption | (simp [go_sem]; done) | (simp [*, go_sem]; done))); (have k3_5 : w3.cell? ⟨w1.heap.size, 1, none⟩ = some (.int .i64 1) := by (rw [hb3.cell (by first | (simp; done) | (simp; omega) | omega)]; first | assumption | (simp [go_sem]; done) | (simp [*, go_sem]; done))))
                go_wp2
                refine bodyPost_ret (by simp [results, Tryd.results56, go_sem, *]; try rfl) rfl ?_
                exact ⟨ret_frac (s := s) HN.out.2.1.symm HN.out.2.2.symm HN.out.1.symm, by repeat' (first | (with_reducible exact Below.refl _ _) | (with_reducible assumption) | (with_reducible refine Below.alloc ?_ ?_ _) | (with_reducible refine Below.drew ?_) | (with_reducible refine below_drewN ?_ _) | (with_reducible refine Below.setCell ?_ ?_ _) | go_size)⟩
            · have HN := Lib.hid (pf_no (HNO.out (fun h => by rw [hfr] at h; cases h)))
              go_enter Tryd.func56, Tryd.ntmps56
              go_wp2_with fail
              (go_at_call 96; (with_reducible refine (HSp.out _).mono ?_); rintro e w1 ⟨v, rfl, hst, hb1⟩)
              obtain ⟨g, cap, rfl, hg, hcap, hcell⟩ := hst.shape (by simp)
              have hB1 : Below w.heap.size w w1 := Below.trans (by (repeat' (first | (with_reducible exact Below.refl _ _) | (with_reducible assumption) | (with_reducible refine Below.alloc ?_ ?_ _) | (with_reducible refine Below.drew ?_) | (with_reducible refine below_drewN ?_ _) | (with_reducible refine Below.setCell ?_ ?_ _) | go_size))) (hb1.mono (by go_size))
              have hs1 := hb1.size
              (try simp at hs1)
              have hz1 : w.heap.size < w1.heap.size := by omega
              have k1_0 : w1.cell? ⟨w.heap.size, 0, none⟩ = some (.int .i64 0) := by rw [hb1.cell (p := ⟨w.heap.size, 0, none⟩) (by simp)]; simp [go_sem]
              have f1_0 : w1.frozen? ⟨w.heap.size, 0, none⟩ = false := by rw [hb1.frozen (p := ⟨w.heap.size, 0, none⟩) (by simp)]; simp [go_sem]
              have k1_1 : w1.cell? ⟨w.heap.size, 1, none⟩ = some (.int .i64 0) := by rw [hb1.cell (p := ⟨w.heap.size, 1, none⟩) (by simp)]; simp [go_sem]
              have f1_1 : w1.frozen? ⟨w.heap.size, 1, none⟩ = false := by rw [hb1.frozen (p := ⟨w.heap.size, 1, none⟩) (by simp)]; simp [go_sem]
              have c0 : w1.cell? ⟨g, 0, none⟩ = some (.string P0) := by have := hcell 0 P0 (by rw [← HP0.out]; rfl); simpa using this
              clear hcell hst hcap
              have hgn : g ≠ w1.heap.size := by omega
              go_wp2_with (first | (go_at_call 97; (with_reducible refine (F0.out _).mono ?_); rintro e w' ⟨rfl, rfl⟩) | (go_at_call 97; (with_reducible refine (FT.out _).mono ?_); rintro e w' ⟨rfl, rfl⟩))
              (go_at_call 61; refine (frGood_any _ _ _).mono ?_; rintro e w2 ⟨rfl, hb2⟩; obtain ⟨hc2, hf2⟩ := bcell hb2; have hB2 : Below w.heap.size w w2 := Below.trans (by repeat' (first | (with_reducible exact Below.refl _ _) | (with_reducible assumption) | (with_reducible refine Below.alloc ?_ ?_ _) | (with_reducible refine Below.drew ?_) | (with_reducible refine below_drewN ?_ _) | (with_reducible refine Below.setCell ?_ ?_ _) | go_size)) (hb2.mono (by go_size)); (have hs2 := hb2.size); (try simp at hs2); (try (have hl2 := Nat.lt_of_succ_le hs2)); (first | (have hz2 : w.heap.size < w2.heap.size := by omega) | (have hz2 : w.heap.size ≤ w2.heap.size := by omega)); (try (have hz1_2 : w1.heap.size < w2.heap.size := by omega)); (try (have hz3_2 : w3.heap.size < w2.heap.size := by omega)); (try (have hz4_2 : w4.heap.size < w2.heap.size := by omega)); (try (have hz5_2 : w5.heap.size < w2.heap.size := by omega)); (try (have hzc_2 : wc.heap.size < w2.heap.size := by omega)); (try (have hy1_2 : w.heap.size + 1 < w2.heap.size := by omega)); (try (have hy2_2 : w.heap.size + 2 < w2.heap.size := by omega)); (try (have hy3_2 : w.heap.size + 3 < w2.heap.size := by omega)); (have k2_0 : w2.cell? ⟨w.heap.size, 0, none⟩ = some (.int .i64 0) := by (rw [hb2.cell (by first | (simp; done) | (simp; omega) | omega)]; first | assumption | (simp [go_sem]; done) | (simp [*, go_sem]; done))); (have k2_1 : w2.cell? ⟨w.heap.size, 1, none⟩ = some (.int .i64 0) := by (rw [hb2.cell (by first | (simp; done) | (simp; omega) | omega)]; first | assumption | (simp [go_sem]; done) | (simp [*, go_sem]; done))); (have k2_2 : w2.frozen? ⟨w.heap.size, 0, none⟩ = false := by (rw [hb2.frozen (by first | (simp; done) | (simp; omega) | omega)]; first | assumption | (simp [go_sem]; done) | (simp [*, go_sem]; done))); (have k2_3 : w2.frozen? ⟨w.heap.size, 1, none⟩ = false := by (rw [hb2.frozen (by first | (simp; done) | (simp; omega) | omega)]; first | assumption | (simp [go_sem]; done) | (simp [*, go_sem]; done))); (have k2_4 : w2.cell? ⟨w1.heap.size, 0, none⟩ = some (.int .i64 (-rt)) := by (rw [hb2.cell (by first | (simp; done) | (simp; omega) | omega)]; first | assumption | (simp [go_sem]; done) | (simp [*, go_sem]; done))); (have k2_5 : w2.cell? ⟨w1.heap.size, 1, none⟩ = some (.int .i64 1) := by (rw [hb2.cell (by first | (simp; done) | (simp; omega) | omega)]; first | assumption | (simp [go_sem]; done) | (simp [*, go_sem]; done))))
              rw [hfr]
              go_wp2
              refine bodyPost_ret (by simp [results, Tryd.results56, go_sem, *]; try rfl) rfl ?_
              exact ⟨ret_frac (s := s) HN.out.2.1.symm HN.out.2.2.symm HN.out.1.symm, by repeat' (first | (with_reducible exact Below.refl _ _) | (with_reducible assumption) | (with_reducible refine Below.alloc ?_ ?_ _) | (with_reducible refine Below.drew ?_) | (with_reducible refine below_drewN ?_ _) | (with_reducible refine Below.setCell ?_ ?_ _) | go_size)⟩
          · have hp : p.head? ≠ some 45 := by rw [hp0]; intro e; injection e with e; exact hb e
            have e1 : ((b.toNat : Int) == 45) = false := beq_false_of_ne fun e => hb (by apply UInt8.toNat_inj.1; show b.toNat = 45; omega)
            clear hp0 hb
            have HRD := Lib.hid (show rdN p = r0 by rw [rdN_plain hp, HR0.out])
            clear hp
            have HNO : Hid ((fracB r0 1 = true → ftL r0 1 ≠ s) → ∀ n d, ¬ pfP s n d) := Lib.hid (fun h => spec_one HPS.out (by rw [HRD.out]; exact h))
            rcases Bool.eq_false_or_eq_true (fracB r0 1) with hfr | hfr
            · have HX : Hid (∀ w, Calls Tryd.prog 62 #[.agg #[.int .i64 r0, .int .i64 1]] w fun e w' => e = .returned (.string (ftS r0 1)) ∧ Below w.heap.size w w') := Lib.hid (fun w => by obtain ⟨a0, a1, a2, a3, _⟩ := fracB_range hfr; exact frText_any _ _ a2 a3 a0 a1 w)
              obtain ⟨T, HTT⟩ : ∃ T, Hid (ftS r0 1 = T) := ⟨_, Lib.hid rfl⟩
              rw [HTT.out] at HX
              rcases Classical.em (ftL r0 1 = s) with ht | ht
              · skip
                have HY := Lib.hid (pf_yes (show pfP s r0 1 from ⟨hfr, ht⟩))
                obtain rfl : T = S := by rw [← HTT.out, ← HS.out, ftS_list, ht]
                clear ht
                go_enter Tryd.func56, Tryd.ntmps56
                go_wp2_with fail
                (go_at_call 96; (with_reducible refine (HSp.out _).mono ?_); rintro e w1 ⟨v, rfl, hst, hb1⟩)
                obtain ⟨g, cap, rfl, hg, hcap, hcell⟩ := hst.shape (by simp)
                have hB1 : Below w.heap.size w w1 := Below.trans (by (repeat' (first | (with_reducible exact Below.refl _ _) | (with_reducible assumption) | (with_reducible refine Below.alloc ?_ ?_ _) | (with_reducible refine Below.drew ?_) | (with_reducible refine below_drewN ?_ _) | (with_reducible refine Below.setCell ?_ ?_ _) | go_size))) (hb1.mono (by go_size))
                have hs1 := hb1.size
                (try simp at hs1)
                have hz1 : w.heap.size < w1.heap.size := by omega
                have k1_0 : w1.cell? ⟨w.heap.size, 0, none⟩ = some (.int .i64 0) := by rw [hb1.cell (p := ⟨w.heap.size, 0, none⟩) (by simp)]; simp [go_sem]
                have f1_0 : w1.frozen? ⟨w.heap.size, 0, none⟩ = false := by rw [hb1.frozen (p := ⟨w.heap.size, 0, none⟩) (by simp)]; simp [go_sem]
                have k1_1 : w1.cell? ⟨w.heap.size, 1, none⟩ = some (.int .i64 0) := by rw [hb1.cell (p := ⟨w.heap.size, 1, none⟩) (by simp)]; simp [go_sem]
                have f1_1 : w1.frozen? ⟨w.heap.size, 1, none⟩ = false := by rw [hb1.frozen (p := ⟨w.heap.size, 1, none⟩) (by simp)]; simp [go_sem]
                have c0 : w1.cell? ⟨g, 0, none⟩ = some (.string P0) := by have := hcell 0 P0 (by rw [← HP0.out]; rfl); simpa using this
                clear hcell hst hcap
                have hgn : g ≠ w1.heap.size := by omega
                go_wp2_with (first | (go_at_call 97; (with_reducible refine (F0.out _).mono ?_); rintro e w' ⟨rfl, rfl⟩))
                (go_at_call 61; refine (frGood_any _ _ _).mono ?_; rintro e w2 ⟨rfl, hb2⟩; obtain ⟨hc2, hf2⟩ := bcell hb2; have hB2 : Below w.heap.size w w2 := Below.trans (by repeat' (first | (with_reducible exact Below.refl _ _) | (with_reducible assumption) | (with_reducible refine Below.alloc ?_ ?_ _) | (with_reducible refine Below.drew ?_) | (with_reducible refine below_drewN ?_ _) | (with_reducible refine Below.setCell ?_ ?_ _) | go_size)) (hb2.mono (by go_size)); (have hs2 := hb2.size); (try simp at hs2); (try (have hl2 := Nat.lt_of_succ_le hs2)); (first | (have hz2 : w.heap.size < w2.heap.size := by omega) | (have hz2 : w.heap.size ≤ w2.heap.size := by omega)); (try (have hz1_2 : w1.heap.size < w2.heap.size := by omega)); (try (have hz3_2 : w3.heap.size < w2.heap.size := by omega)); (try (have hz4_2 : w4.heap.size < w2.heap.size := by omega)); (try (have hz5_2 : w5.heap.size < w2.heap.size := by omega)); (try (have hzc_2 : wc.heap.size < w2.heap.size := by omega)); (try (have hy1_2 : w.heap.size + 1 < w2.heap.size := by omega)); (try (have hy2_2 : w.heap.size + 2 < w2.heap.size := by omega)); (try (have hy3_2 : w.heap.size + 3 < w2.heap.size := by omega)); (have k2_0 : w2.cell? ⟨w.heap.size, 0, none⟩ = some (.int .i64 0) := by (rw [hb2.cell (by first | (simp; done) | (simp; omega) | omega)]; first | assumption | (simp [go_sem]; done) | (simp [*, go_sem]; done))); (have k2_1 : w2.cell? ⟨w.heap.size, 1, none⟩ = some (.int .i64 0) := by (rw [hb2.cell (by first | (simp; done) | (simp; omega) | omega)]; first | assumption | (simp [go_sem]; done) | (simp [*, go_sem]; done))); (have k2_2 : w2.frozen? ⟨w.heap.size, 0, none⟩ = false := by (rw [hb2.frozen (by first | (simp; done) | (simp; omega) | omega)]; first | assumption | (simp [go_sem]; done) | (simp [*, go_sem]; done))); (have k2_3 : w2.frozen? ⟨w.heap.size, 1, none⟩ = false := by (rw [hb2.frozen (by first | (simp; done) | (simp; omega) | omega)]; first | assumption | (simp [go_sem]; done) | (simp [*, go_sem]; done))); (have k2_4 : w2.cell? ⟨w1.heap.size, 0, none⟩ = some (.int .i64 r0) := by (rw [hb2.cell (by first | (simp; done) | (simp; omega) | omega)]; first | assumption | (simp [go_sem]; done) | (simp [*, go_sem]; done))); (have k2_5 : w2.cell? ⟨w1.heap.size, 1, none⟩ = some (.int .i64 1) := by (rw [hb2.cell (by first | (simp; done) | (simp; omega) | omega)]; first | assumption | (simp [go_sem]; done) | (simp [*, go_sem]; done))))
                rw [hfr]
                go_wp2_with fail
                (go_at_call 62; refine (HX.out _).mono ?_; rintro e w3 ⟨rfl, hb3⟩; obtain ⟨hc3, hf3⟩ := bcell hb3; have hB3 : Below w.heap.size w w3 := Below.trans (by repeat' (first | (with_reducible exact Below.refl _ _) | (with_reducible assumption) | (with_reducible refine Below.alloc ?_ ?_ _) | (with_reducible refine Below.drew ?_) | (with_reducible refine below_drewN ?_ _) | (with_reducible refine Below.setCell ?_ ?_ _) | go_size)) (hb3.mono (by go_size)); (have hs3 := hb3.size); (try simp at hs3); (try (have hl3 := Nat.lt_of_succ_le hs3)); (first | (have hz3 : w.heap.size < w3.heap.size := by omega) | (have hz3 : w.heap.size ≤ w3.heap.size := by omega)); (try (have hz1_3 : w1.heap.size < w3.heap.size := by omega)); (try (have hz2_3 : w2.heap.size < w3.heap.size := by omega)); (try (have hz4_3 : w4.heap.size < w3.heap.size := by omega)); (try (have hz5_3 : w5.heap.size < w3.heap.size := by omega)); (try (have hzc_3 : wc.heap.size < w3.heap.size := by omega)); (try (have hy1_3 : w.heap.size + 1 < w3.heap.size := by omega)); (try (have hy2_3 : w.heap.size + 2 < w3.heap.size := by omega)); (try (have hy3_3 : w.heap.size + 3 < w3.heap.size := by omega)); (have k3_0 : w3.cell? ⟨w.heap.size, 0, none⟩ = some (.int .i64 0) := by (rw [hb3.cell (by first | (simp; done) | (simp; omega) | omega)]; first | assumption | (simp [go_sem]; done) | (simp [*, go_sem]; done))); (have k3_1 : w3.cell? ⟨w.heap.size, 1, none⟩ = some (.int .i64 0) := by (rw [hb3.cell (by first | (simp; done) | (simp; omega) | omega)]; first | assumption | (simp [go_sem]; done) | (simp [*, go_sem]; done))); (have k3_2 : w3.frozen? ⟨w.heap.size, 0, none⟩ = false := by (rw [hb3.frozen (by first | (simp; done) | (simp; omega) | omega)]; first | assumption | (simp [go_sem]; done) | (simp [*, go_sem]; done))); (have k3_3 : w3.frozen? ⟨w.heap.size, 1, none⟩ = false := by (rw [hb3.frozen (by first | (simp; done) | (simp; omega) | omega)]; first | assumption | (simp [go_sem]; done) | (simp [*, go_sem]; done))); (have k3_4 : w3.cell? ⟨w1.heap.size, 0, none⟩ = some (.int .i64 r0) := by (rw [hb3.cell (by first | (simp; done) | (simp; omega) | omega)]; first | assumption | (simp [go_sem]; done) | (simp [*, go_sem]; done))); (have k3_5 : w3.cell? ⟨w1.heap.size, 1, none⟩ = some (.int .i64 1) := by (rw [hb3.cell (by first | (simp; done) | (simp; omega) | omega)]; first | assumption | (simp [go_sem]; done) | (simp [*, go_sem]; done))))
                go_wp2
                refine bodyPost_ret (by simp [results, Tryd.results56, go_sem, *]; try rfl) rfl ?_
                exact ⟨ret_frac (s := s) HY.out.2.1.symm HY.out.2.2.symm HY.out.1.symm, by repeat' (first | (with_reducible exact Below.refl _ _) | (with_reducible assumption) | (with_reducible refine Below.alloc ?_ ?_ _) | (with_reducible refine Below.drew ?_) | (with_reducible refine below_drewN ?_ _) | (with_reducible refine Below.setCell ?_ ?_ _) | go_size)⟩
              · skip
                have HN := Lib.hid (pf_no (HNO.out (fun _ => ht)))
                have hne2 : (T.toList == S.toList) = false := by rw [← HTT.out, ← HS.out]; exact text_ne ht
                clear ht
                go_enter Tryd.func56, Tryd.ntmps56
                go_wp2_with fail
                (go_at_call 96; (with_reducible refine (HSp.out _).mono ?_); rintro e w1 ⟨v, rfl, hst, hb1⟩)
                obtain ⟨g, cap, rfl, hg, hcap, hcell⟩ := hst.shape (by simp)
                have hB1 : Below w.heap.size w w1 := Below.trans (by (repeat' (first | (with_reducible exact Below.refl _ _) | (with_reducible assumption) | (with_reducible refine Below.alloc ?_ ?_ _) | (with_reducible refine Below.drew ?_) | (with_reducible refine below_drewN ?_ _) | (with_reducible refine Below.setCell ?_ ?_ _) | go_size))) (hb1.mono (by go_size))
                have hs1 := hb1.size
                (try simp at hs1)
                have hz1 : w.heap.size < w1.heap.size := by omega
                have k1_0 : w1.cell? ⟨w.heap.size, 0, none⟩ = some (.int .i64 0) := by rw [hb1.cell (p := ⟨w.heap.size, 0, none⟩) (by simp)]; simp [go_sem]
                have f1_0 : w1.frozen? ⟨w.heap.size, 0, none⟩ = false := by rw [hb1.frozen (p := ⟨w.heap.size, 0, none⟩) (by simp)]; simp [go_sem]
                have k1_1 : w1.cell? ⟨w.heap.size, 1, none⟩ = some (.int .i64 0) := by rw [hb1.cell (p := ⟨w.heap.size, 1, none⟩) (by simp)]; simp [go_sem]
                have f1_1 : w1.frozen? ⟨w.heap.size, 1, none⟩ = false := by rw [hb1.frozen (p := ⟨w.heap.size, 1, none⟩) (by simp)]; simp [go_sem]
                have c0 : w1.cell? ⟨g, 0, none⟩ = some (.string P0) := by have := hcell 0 P0 (by rw [← HP0.out]; rfl); simpa using this
                clear hcell hst hcap
                have hgn : g ≠ w1.heap.size := by omega
                go_wp2_with (first | (go_at_call 97; (with_reducible refine (F0.out _).mono ?_); rintro e w' ⟨rfl, rfl⟩))
                (go_at_call 61; refine (frGood_any _ _ _).mono ?_; rintro e w2 ⟨rfl, hb2⟩; obtain ⟨hc2, hf2⟩ := bcell hb2; have hB2 : Below w.heap.size w w2 := Below.trans (by repeat' (first | (with_reducible exact Below.refl _ _) | (with_reducible assumption) | (with_reducible refine Below.alloc ?_ ?_ _) | (with_reducible refine Below.drew ?_) | (with_reducible refine below_drewN ?_ _) | (with_reducible refine Below.setCell ?_ ?_ _) | go_size)) (hb2.mono (by go_size)); (have hs2 := hb2.size); (try simp at hs2); (try (have hl2 := Nat.lt_of_succ_le hs2)); (first | (have hz2 : w.heap.size < w2.heap.size := by omega) | (have hz2 : w.heap.size ≤ w2.heap.size := by omega)); (try (have hz1_2 : w1.heap.size < w2.heap.size := by omega)); (try (have hz3_2 : w3.heap.size < w2.heap.size := by omega)); (try (have hz4_2 : w4.heap.size < w2.heap.size := by omega)); (try (have hz5_2 : w5.heap.size < w2.heap.size := by omega)); (try (have hzc_2 : wc.heap.size < w2.heap.size := by omega)); (try (have hy1_2 : w.heap.size + 1 < w2.heap.size := by omega)); (try (have hy2_2 : w.heap.size + 2 < w2.heap.size := by omega)); (try (have hy3_2 : w.heap.size + 3 < w2.heap.size := by omega)); (have k2_0 : w2.cell? ⟨w.heap.size, 0, none⟩ = some (.int .i64 0) := by (rw [hb2.cell (by first | (simp; done) | (simp; omega) | omega)]; first | assumption | (simp [go_sem]; done) | (simp [*, go_sem]; done))); (have k2_1 : w2.cell? ⟨w.heap.size, 1, none⟩ = some (.int .i64 0) := by (rw [hb2.cell (by first | (simp; done) | (simp; omega) | omega)]; first | assumption | (simp [go_sem]; done) | (simp [*, go_sem]; done))); (have k2_2 : w2.frozen? ⟨w.heap.size, 0, none⟩ = false := by (rw [hb2.frozen (by first | (simp; done) | (simp; omega) | omega)]; first | assumption | (simp [go_sem]; done) | (simp [*, go_sem]; done))); (have k2_3 : w2.frozen? ⟨w.heap.size, 1, none⟩ = false := by (rw [hb2.frozen (by first | (simp; done) | (simp; omega) | omega)]; first | assumption | (simp [go_sem]; done) | (simp [*, go_sem]; done))); (have k2_4 : w2.cell? ⟨w1.heap.size, 0, none⟩ = some (.int .i64 r0) := by (rw [hb2.cell (by first | (simp; done) | (simp; omega) | omega)]; first | assumption | (simp [go_sem]; done) | (simp [*, go_sem]; done))); (have k2_5 : w2.cell? ⟨w1.heap.size, 1, none⟩ = some (.int .i64 1) := by (rw [hb2.cell (by first | (simp; done) | (simp; omega) | omega)]; first | assumption | (simp [go_sem]; done) | (simp [*, go_sem]; done))))
                rw [hfr]
                go_wp2_with fail
                (go_at_call 62; refine (HX.out _).mono ?_; rintro e w3 ⟨rfl, hb3⟩; obtain ⟨hc3, hf3⟩ := bcell hb3; have hB3 : Below w.heap.size w w3 := Below.trans (by repeat' (first | (with_reducible exact Below.refl _ _) | (with_reducible assumption) | (with_reducible refine Below.alloc ?_ ?_ _) | (with_reducible refine Below.drew ?_) | (with_reducible refine below_drewN ?_ _) | (with_reducible refine Below.setCell ?_ ?_ _) | go_size)) (hb3.mono (by go_size)); (have hs3 := hb3.size); (try simp at hs3); (try (have hl3 := Nat.lt_of_succ_le hs3)); (first | (have hz3 : w.heap.size < w3.heap.size := by omega) | (have hz3 : w.heap.size ≤ w3.heap.size := by omega)); (try (have hz1_3 : w1.heap.size < w3.heap.size := by omega)); (try (have hz2_3 : w2.heap.size < w3.heap.size := by omega)); (try (have hz4_3 : w4.heap.size < w3.heap.size := by omega)); (try (have hz5_3 : w5.heap.size < w3.heap.size := by omega)); (try (have hzc_3 : wc.heap.size < w3.heap.size := by omega)); (try (have hy1_3 : w.heap.size + 1 < w3.heap.size := by omega)); (try (have hy2_3 : w.heap.size + 2 < w3.heap.size := by omega)); (try (have hy3_3 : w.heap.size + 3 < w3.heap.size := by omega)); (have k3_0 : w3.cell? ⟨w.heap.size, 0, none⟩ = some (.int .i64 0) := by (rw [hb3.cell (by first | (simp; done) | (simp; omega) | omega)]; first | assumption | (simp [go_sem]; done) | (simp [*, go_sem]; done))); (have k3_1 : w3.cell? ⟨w.heap.size, 1, none⟩ = some (.int .i64 0) := by (rw [hb3.cell (by first | (simp; done) | (simp; omega) | omega)]; first | assumption | (simp [go_sem]; done) | (simp [*, go_sem]; done))); (have k3_2 : w3.frozen? ⟨w.heap.size, 0, none⟩ = false := by (rw [hb3.frozen (by first | (simp; done) | (simp; omega) | omega)]; first | assumption | (simp [go_sem]; done) | (simp [*, go_sem]; done))); (have k3_3 : w3.frozen? ⟨w.heap.size, 1, none⟩ = false := by (rw [hb3.frozen (by first | (simp; done) | (simp; omega) | omega)]; first | assumption | (simp [go_sem]; done) | (simp [*, go_sem]; done))); (have k3_4 : w3.cell? ⟨w1.heap.size, 0, none⟩ = some (.int .i64 r0) := by (rw [hb3.cell (by first | (simp; done) | (simp; omega) | omega)]; first | assumption | (simp [go_sem]; done) | (simp [*, go_sem]; done))); (have k3_5 : w3.cell? ⟨w1.heap.size, 1, none⟩ = some (.int .i64 1) := by (rw [hb3.cell (by first | (simp; done) | (simp; omega) | omega)]; first | assumption | (simp [go_sem]; done) | (simp [*, go_sem]; done))))
                go_wp2
                refine bodyPost_ret (by simp [results, Tryd.results56, go_sem, *]; try rfl) rfl ?_
                exact ⟨ret_frac (s := s) HN.out.2.1.symm HN.out.2.2.symm HN.out.1.symm, by repeat' (first | (with_reducible exact Below.refl _ _) | (with_reducible assumption) | (with_reducible refine Below.alloc ?_ ?_ _) | (with_reducible refine Below.drew ?_) | (with_reducible refine below_drewN ?_ _) | (with_reducible refine Below.setCell ?_ ?_ _) | go_size)⟩
            · have HN := Lib.hid (pf_no (HNO.out (fun h => by rw [hfr] at h; cases h)))
              go_enter Tryd.func56, Tryd.ntmps56
              go_wp2_with fail
              (go_at_call 96; (with_reducible refine (HSp.out _).mono ?_); rintro e w1 ⟨v, rfl, hst, hb1⟩)
              obtain ⟨g, cap, rfl, hg, hcap, hcell⟩ := hst.shape (by simp)
              have hB1 : Below w.heap.size w w1 := Below.trans (by (repeat' (first | (with_reducible exact Below.refl _ _) | (with_reducible assumption) | (with_reducible refine Below.alloc ?_ ?_ _) | (with_reducible refine Below.drew ?_) | (with_reducible refine below_drewN ?_ _) | (with_reducible refine Below.setCell ?_ ?_ _) | go_size))) (hb1.mono (by go_size))
              have hs1 := hb1.size
              (try simp at hs1)
              have hz1 : w.heap.size < w1.heap.size := by omega
              have k1_0 : w1.cell? ⟨w.heap.size, 0, none⟩ = some (.int .i64 0) := by rw [hb1.cell (p := ⟨w.heap.size, 0, none⟩) (by simp)]; simp [go_sem]
              have f1_0 : w1.frozen? ⟨w.heap.size, 0, none⟩ = false := by rw [hb1.frozen (p := ⟨w.heap.size, 0, none⟩) (by simp)]; simp [go_sem]
              have k1_1 : w1.cell? ⟨w.heap.size, 1, none⟩ = some (.int .i64 0) := by rw [hb1.cell (p := ⟨w.heap.size, 1, none⟩) (by simp)]; simp [go_sem]
              have f1_1 : w1.frozen? ⟨w.heap.size, 1, none⟩ = false := by rw [hb1.frozen (p := ⟨w.heap.size, 1, none⟩) (by simp)]; simp [go_sem]
              have c0 : w1.cell? ⟨g, 0, none⟩ = some (.string P0) := by have := hcell 0 P0 (by rw [← HP0.out]; rfl); simpa using this
              clear hcell hst hcap
              have hgn : g ≠ w1.heap.size := by omega
              go_wp2_with (first | (go_at_call 97; (with_reducible refine (F0.out _).mono ?_); rintro e w' ⟨rfl, rfl⟩))
              (go_at_call 61; refine (frGood_any _ _ _).mono ?_; rintro e w2 ⟨rfl, hb2⟩; obtain ⟨hc2, hf2⟩ := bcell hb2; have hB2 : Below w.heap.size w w2 := Below.trans (by repeat' (first | (with_reducible exact Below.refl _ _) | (with_reducible assumption) | (with_reducible refine Below.alloc ?_ ?_ _) | (with_reducible refine Below.drew ?_) | (with_reducible refine below_drewN ?_ _) | (with_reducible refine Below.setCell ?_ ?_ _) | go_size)) (hb2.mono (by go_size)); (have hs2 := hb2.size); (try simp at hs2); (try (have hl2 := Nat.lt_of_succ_le hs2)); (first | (have hz2 : w.heap.size < w2.heap.size := by omega) | (have hz2 : w.heap.size ≤ w2.heap.size := by omega)); (try (have hz1_2 : w1.heap.size < w2.heap.size := by omega)); (try (have hz3_2 : w3.heap.size < w2.heap.size := by omega)); (try (have hz4_2 : w4.heap.size < w2.heap.size := by omega)); (try (have hz5_2 : w5.heap.size < w2.heap.size := by omega)); (try (have hzc_2 : wc.heap.size < w2.heap.size := by omega)); (try (have hy1_2 : w.heap.size + 1 < w2.heap.size := by omega)); (try (have hy2_2 : w.heap.size + 2 < w2.heap.size := by omega)); (try (have hy3_2 : w.heap.size + 3 < w2.heap.size := by omega)); (have k2_0 : w2.cell? ⟨w.heap.size, 0, none⟩ = some (.int .i64 0) := by (rw [hb2.cell (by first | (simp; done) | (simp; omega) | omega)]; first | assumption | (simp [go_sem]; done) | (simp [*, go_sem]; done))); (have k2_1 : w2.cell? ⟨w.heap.size, 1, none⟩ = some (.int .i64 0) := by (rw [hb2.cell (by first | (simp; done) | (simp; omega) | omega)]; first | assumption | (simp [go_sem]; done) | (simp [*, go_sem]; done))); (have k2_2 : w2.frozen? ⟨w.heap.size, 0, none⟩ = false := by (rw [hb2.frozen (by first | (simp; done) | (simp; omega) | omega)]; first | assumption | (simp [go_sem]; done) | (simp [*, go_sem]; done))); (have k2_3 : w2.frozen? ⟨w.heap.size, 1, none⟩ = false := by (rw [hb2.frozen (by first | (simp; done) | (simp; omega) | omega)]; first | assumption | (simp [go_sem]; done) | (simp [*, go_sem]; done))); (have k2_4 : w2.cell? ⟨w1.heap.size, 0, none⟩ = some (.int .i64 r0) := by (rw [hb2.cell (by first | (simp; done) | (simp; omega) | omega)]; first | assumption | (simp [go_sem]; done) | (simp [*, go_sem]; done))); (have k2_5 : w2.cell? ⟨w1.heap.size, 1, none⟩ = some (.int .i64 1) := by (rw [hb2.cell (by first | (simp; done) | (simp; omega) | omega)]; first | assumption | (simp [go_sem]; done) | (simp [*, go_sem]; done))))
              rw [hfr]
              go_wp2
              refine bodyPost_ret (by simp [results, Tryd.results56, go_sem, *]; try rfl) rfl ?_
              exact ⟨ret_frac (s := s) HN.out.2.1.symm HN.out.2.2.symm HN.out.1.symm, by repeat' (first | (with_reducible exact Below.refl _ _) | (with_reducible assumption) | (with_reducible refine Below.alloc ?_ ?_ _) | (with_reducible refine Below.drew ?_) | (with_reducible refine below_drewN ?_ _) | (with_reducible refine Below.setCell ?_ ?_ _) | go_size)⟩
      | cons q ps =>
        cases ps with
        | nil =>
          obtain ⟨P0, HP0⟩ : ∃ P, Hid (bsOf p = P) := ⟨_, Lib.hid rfl⟩
          obtain ⟨r0, HR0⟩ : ∃ r, Hid (frR p = r) := ⟨_, Lib.hid rfl⟩
          have F0 : Hid (∀ w, Calls Tryd.prog 97 #[.string P0] w fun e w' => e = .returned (.int .i64 r0) ∧ w = w') := Lib.hid (fun w => by rw [← HP0.out, ← HR0.out]; exact frRead_any p (HPL.out _ (by simp)) w)
          have rr0 : -1 ≤ r0 ∧ r0 ≤ 9999999999 := by rw [← HR0.out]; exact frR_range _
          obtain ⟨P1, HP1⟩ : ∃ P, Hid (bsOf q = P) := ⟨_, Lib.hid rfl⟩
          obtain ⟨r1, HR1⟩ : ∃ r, Hid (frR q = r) := ⟨_, Lib.hid rfl⟩
          have F1 : Hid (∀ w, Calls Tryd.prog 97 #[.string P1] w fun e w' => e = .returned (.int .i64 r1) ∧ w = w') := Lib.hid (fun w => by rw [← HP1.out, ← HR1.out]; exact frRead_any q (HPL.out _ (by simp)) w)
          have rr1 : -1 ≤ r1 ∧ r1 ≤ 9999999999 := by rw [← HR1.out]; exact frR_range _
          cases hp0 : p with
          | nil =>
            have hp : p.head? ≠ some 45 := by rw [hp0]; simp
            have hP : ¬ (0 : Int) < (P0.size : Int) := by rw [← HP0.out, hp0, bsOf_size]; simp
            clear hp0
            have HRD := Lib.hid (show rdN p = r0 by rw [rdN_plain hp, HR0.out])
            clear hp
            have HNO : Hid ((fracB r0 r1 = true → ftL r0 r1 ≠ s) → ∀ n d, ¬ pfP s n d) := Lib.hid (fun h => spec_two HPS.out (by rw [HRD.out, HR1.out]; exact h))
            rcases Bool.eq_false_or_eq_true (fracB r0 r1) with hfr | hfr
            · have HX : Hid (∀ w, Calls Tryd.prog 62 #[.agg #[.int .i64 r0, .int .i64 r1]] w fun e w' => e = .returned (.string (ftS r0 r1)) ∧ Below w.heap.size w w') := Lib.hid (fun w => by obtain ⟨a0, a1, a2, a3, _⟩ := fracB_range hfr; exact frText_any _ _ a2 a3 a0 a1 w)
              obtain ⟨T, HTT⟩ : ∃ T, Hid (ftS r0 r1 = T) := ⟨_, Lib.hid rfl⟩
              rw [HTT.out] at HX
              rcases Classical.em (ftL r0 r1 = s) with ht | ht
              · skip
                have HY := Lib.hid (pf_yes (show pfP s r0 r1 from ⟨hfr, ht⟩))
                obtain rfl : T = S := by rw [← HTT.out, ← HS.out, ftS_list, ht]
                clear ht
                go_enter Tryd.func56, Tryd.ntmps56
                go_wp2_with fail
                (go_at_call 96; (with_reducible refine (HSp.out _).mono ?_); rintro e w1 ⟨v, rfl, hst, hb1⟩)
                obtain ⟨g, cap, rfl, hg, hcap, hcell⟩ := hst.shape (by simp)
                have hB1 : Below w.heap.size w w1 := Below.trans (by (repeat' (first | (with_reducible exact Below.refl _ _) | (with_reducible assumption) | (with_reducible refine Below.alloc ?_ ?_ _) | (with_reducible refine Below.drew ?_) | (with_reducible refine below_drewN ?_ _) | (with_reducible refine Below.setCell ?_ ?_ _) | go_size))) (hb1.mono (by go_size))
                have hs1 := hb1.size
                (try simp at hs1)
                have hz1 : w.heap.size < w1.heap.size := by omega
                have k1_0 : w1.cell? ⟨w.heap.size, 0, none⟩ = some (.int .i64 0) := by rw [hb1.cell (p := ⟨w.heap.size, 0, none⟩) (by simp)]; simp [go_sem]
                have f1_0 : w1.frozen? ⟨w.heap.size, 0, none⟩ = false := by rw [hb1.frozen (p := ⟨w.heap.size, 0, none⟩) (by simp)]; simp [go_sem]
                have k1_1 : w1.cell? ⟨w.heap.size, 1, none⟩ = some (.int .i64 0) := by rw [hb1.cell (p := ⟨w.heap.size, 1, none⟩) (by simp)]; simp [go_sem]
                have f1_1 : w1.frozen? ⟨w.heap.size, 1, none⟩ = false := by rw [hb1.frozen (p := ⟨w.heap.size, 1, none⟩) (by simp)]; simp [go_sem]
                have c0 : w1.cell? ⟨g, 0, none⟩ = some (.string P0) := by have := hcell 0 P0 (by rw [← HP0.out]; rfl); simpa using this
                have c1 : w1.cell? ⟨g, 1, none⟩ = some (.string P1) := by have := hcell 1 P1 (by rw [← HP1.out]; rfl); simpa using this
                clear hcell hst hcap
                have hgn : g ≠ w1.heap.size := by omega
                go_wp2_with (first | (go_at_call 97; (with_reducible refine (F0.out _).mono ?_); rintro e w' ⟨rfl, rfl⟩) | (go_at_call 97; (with_reducible refine (F1.out _).mono ?_); rintro e w' ⟨rfl, rfl⟩))
                (go_at_call 61; refine (frGood_any _ _ _).mono ?_; rintro e w2 ⟨rfl, hb2⟩; obtain ⟨hc2, hf2⟩ := bcell hb2; have hB2 : Below w.heap.size w w2 := Below.trans (by repeat' (first | (with_reducible exact Below.refl _ _) | (with_reducible assumption) | (with_reducible refine Below.alloc ?_ ?_ _) | (with_reducible refine Below.drew ?_) | (with_reducible refine below_drewN ?_ _) | (with_reducible refine Below.setCell ?_ ?_ _) | go_size)) (hb2.mono (by go_size)); (have hs2 := hb2.size); (try simp at hs2); (try (have hl2 := Nat.lt_of_succ_le hs2)); (first | (have hz2 : w.heap.size < w2.heap.size := by omega) | (have hz2 : w.heap.size ≤ w2.heap.size := by omega)); (try (have hz1_2 : w1.heap.size < w2.heap.size := by omega)); (try (have hz3_2 : w3.heap.size < w2.heap.size := by omega)); (try (have hz4_2 : w4.heap.size < w2.heap.size := by omega)); (try (have hz5_2 : w5.heap.size < w2.heap.size := by omega)); (try (have hzc_2 : wc.heap.size < w2.heap.size := by omega)); (try (have hy1_2 : w.heap.size + 1 < w2.heap.size := by omega)); (try (have hy2_2 : w.heap.size + 2 < w2.heap.size := by omega)); (try (have hy3_2 : w.heap.size + 3 < w2.heap.size := by omega)); (have k2_0 : w2.cell? ⟨w.heap.size, 0, none⟩ = some (.int .i64 0) := by (rw [hb2.cell (by first | (simp; done) | (simp; omega) | omega)]; first | assumption | (simp [go_sem]; done) | (simp [*, go_sem]; done))); (have k2_1 : w2.cell? ⟨w.heap.size, 1, none⟩ = some (.int .i64 0) := by (rw [hb2.cell (by first | (simp; done) | (simp; omega) | omega)]; first | assumption | (simp [go_sem]; done) | (simp [*, go_sem]; done))); (have k2_2 : w2.frozen? ⟨w.heap.size, 0, none⟩ = false := by (rw [hb2.frozen (by first | (simp; done) | (simp; omega) | omega)]; first | assumption | (simp [go_sem]; done) | (simp [*, go_sem]; done))); (have k2_3 : w2.frozen? ⟨w.heap.size, 1, none⟩ = false := by (rw [hb2.frozen (by first | (simp; done) | (simp; omega) | omega)]; first | assumption | (simp [go_sem]; done) | (simp [*, go_sem]; done))); (have k2_4 : w2.cell? ⟨w1.heap.size, 0, none⟩ = some (.int .i64 r0) := by (rw [hb2.cell (by first | (simp; done) | (simp; omega) | omega)]; first | assumption | (simp [go_sem]; done) | (simp [*, go_sem]; done))); (have k2_5 : w2.cell? ⟨w1.heap.size, 1, none⟩ = some (.int .i64 r1) := by (rw [hb2.cell (by first | (simp; done) | (simp; omega) | omega)]; first | assumption | (simp [go_sem]; done) | (simp [*, go_sem]; done))))
                rw [hfr]
                go_wp2_with fail
                (go_at_call 62; refine (HX.out _).mono ?_; rintro e w3 ⟨rfl, hb3⟩; obtain ⟨hc3, hf3⟩ := bcell hb3; have hB3 : Below w.heap.size w w3 := Below.trans (by repeat' (first | (with_reducible exact Below.refl _ _) | (with_reducible assumption) | (with_reducible refine Below.alloc ?_ ?_ _) | (with_reducible refine Below.drew ?_) | (with_reducible refine below_drewN ?_ _) | (with_reducible refine Below.setCell ?_ ?_ _) | go_size)) (hb3.mono (by go_size)); (have hs3 := hb3.size); (try simp at hs3); (try (have hl3 := Nat.lt_of_succ_le hs3)); (first | (have hz3 : w.heap.size < w3.heap.size := by omega) | (have hz3 : w.heap.size ≤ w3.heap.size := by omega)); (try (have hz1_3 : w1.heap.size < w3.heap.size := by omega)); (try (have hz2_3 : w2.heap.size < w3.heap.size := by omega)); (try (have hz4_3 : w4.heap.size < w3.heap.size := by omega)); (try (have hz5_3 : w5.heap.size < w3.heap.size := by omega)); (try (have hzc_3 : wc.heap.size < w3.heap.size := by omega)); (try (have hy1_3 : w.heap.size + 1 < w3.heap.size := by omega)); (try (have hy2_3 : w.heap.size + 2 < w3.heap.size := by omega)); (try (have hy3_3 : w.heap.size + 3 < w3.heap.size := by omega)); (have k3_0 : w3.cell? ⟨w.heap.size, 0, none⟩ = some (.int .i64 0) := by (rw [hb3.cell (by first | (simp; done) | (simp; omega) | omega)]; first | assumption | (simp [go_sem]; done) | (simp [*, go_sem]; done))); (have k3_1 : w3.cell? ⟨w.heap.size, 1, none⟩ = some (.int .i64 0) := by (rw [hb3.cell (by first | (simp; done) | (simp; omega) | omega)]; first | assumption | (simp [go_sem]; done) | (simp [*, go_sem]; done))); (have k3_2 : w3.frozen? ⟨w.heap.size, 0, none⟩ = false := by (rw [hb3.frozen (by first | (simp; done) | (simp; omega) | omega)]; first | assumption | (simp [go_sem]; done) | (simp [*, go_sem]; done))); (have k3_3 : w3.frozen? ⟨w.heap.size, 1, none⟩ = false := by (rw [hb3.frozen (by first | (simp; done) | (simp; omega) | omega)]; first | assumption | (simp [go_sem]; done) | (simp [*, go_sem]; done))); (have k3_4 : w3.cell? ⟨w1.heap.size, 0, none⟩ = some (.int .i64 r0) := by (rw [hb3.cell (by first | (simp; done) | (simp; omega) | omega)]; first | assumption | (simp [go_sem]; done) | (simp [*, go_sem]; done))); (have k3_5 : w3.cell? ⟨w1.heap.size, 1, none⟩ = some (.int .i64 r1) := by (rw [hb3.cell (by first | (simp; done) | (simp; omega) | omega)]; first | assumption | (simp [go_sem]; done) | (simp [*, go_sem]; done))))
                go_wp2
                refine bodyPost_ret (by simp [results, Tryd.results56, go_sem, *]; try rfl) rfl ?_
                exact ⟨ret_frac (s := s) HY.out.2.1.symm HY.out.2.2.symm HY.out.1.symm, by repeat' (first | (with_reducible exact Below.refl _ _) | (with_reducible assumption) | (with_reducible refine Below.alloc ?_ ?_ _) | (with_reducible refine Below.drew ?_) | (with_reducible refine below_drewN ?_ _) | (with_reducible refine Below.setCell ?_ ?_ _) | go_size)⟩
              · skip
                have HN := Lib.hid (pf_no (HNO.out (fun _ => ht)))
                have hne2 : (T.toList == S.toList) = false := by rw [← HTT.out, ← HS.out]; exact text_ne ht
                clear ht
                go_enter Tryd.func56, Tryd.ntmps56
                go_wp2_with fail
                (go_at_call 96; (with_reducible refine (HSp.out _).mono ?_); rintro e w1 ⟨v, rfl, hst, hb1⟩)
                obtain ⟨g, cap, rfl, hg, hcap, hcell⟩ := hst.shape (by simp)
                have hB1 : Below w.heap.size w w1 := Below.trans (by (repeat' (first | (with_reducible exact Below.refl _ _) | (with_reducible assumption) | (with_reducible refine Below.alloc ?_ ?_ _) | (with_reducible refine Below.drew ?_) | (with_reducible refine below_drewN ?_ _) | (with_reducible refine Below.setCell ?_ ?_ _) | go_size))) (hb1.mono (by go_size))
                have hs1 := hb1.size
                (try simp at hs1)
                have hz1 : w.heap.size < w1.heap.size := by omega
                have k1_0 : w1.cell? ⟨w.heap.size, 0, none⟩ = some (.int .i64 0) := by rw [hb1.cell (p := ⟨w.heap.size, 0, none⟩) (by simp)]; simp [go_sem]
                have f1_0 : w1.frozen? ⟨w.heap.size, 0, none⟩ = false := by rw [hb1.frozen (p := ⟨w.heap.size, 0, none⟩) (by simp)]; simp [go_sem]
                have k1_1 : w1.cell? ⟨w.heap.size, 1, none⟩ = some (.int .i64 0) := by rw [hb1.cell (p := ⟨w.heap.size, 1, none⟩) (by simp)]; simp [go_sem]
                have f1_1 : w1.frozen? ⟨w.heap.size, 1, none⟩ = false := by rw [hb1.frozen (p := ⟨w.heap.size, 1, none⟩) (by simp)]; simp [go_sem]
                have c0 : w1.cell? ⟨g, 0, none⟩ = some (.string P0) := by have := hcell 0 P0 (by rw [← HP0.out]; rfl); simpa using this
                have c1 : w1.cell? ⟨g, 1, none⟩ = some (.string P1) := by have := hcell 1 P1 (by rw [← HP1.out]; rfl); simpa using this
                clear hcell hst hcap
                have hgn : g ≠ w1.heap.size := by omega
                go_wp2_with (first | (go_at_call 97; (with_reducible refine (F0.out _).mono ?_); rintro e w' ⟨rfl, rfl⟩) | (go_at_call 97; (with_reducible refine (F1.out _).mono ?_); rintro e w' ⟨rfl, rfl⟩))
                (go_at_call 61; refine (frGood_any _ _ _).mono ?_; rintro e w2 ⟨rfl, hb2⟩; obtain ⟨hc2, hf2⟩ := bcell hb2; have hB2 : Below w.heap.size w w2 := Below.trans (by repeat' (first | (with_reducible exact Below.refl _ _) | (with_reducible assumption) | (with_reducible refine Below.alloc ?_ ?_ _) | (with_reducible refine Below.drew ?_) | (with_reducible refine below_drewN ?_ _) | (with_reducible refine Below.setCell ?_ ?_ _) | go_size)) (hb2.mono (by go_size)); (have hs2 := hb2.size); (try simp at hs2); (try (have hl2 := Nat.lt_of_succ_le hs2)); (first | (have hz2 : w.heap.size < w2.heap.size := by omega) | (have hz2 : w.heap.size ≤ w2.heap.size := by omega)); (try (have hz1_2 : w1.heap.size < w2.heap.size := by omega)); (try (have hz3_2 : w3.heap.size < w2.heap.size := by omega)); (try (have hz4_2 : w4.heap.size < w2.heap.size := by omega)); (try (have hz5_2 : w5.heap.size < w2.heap.size := by omega)); (try (have hzc_2 : wc.heap.size < w2.heap.size := by omega)); (try (have hy1_2 : w.heap.size + 1 < w2.heap.size := by omega)); (try (have hy2_2 : w.heap.size + 2 < w2.heap.size := by omega)); (try (have hy3_2 : w.heap.size + 3 < w2.heap.size := by omega)); (have k2_0 : w2.cell? ⟨w.heap.size, 0, none⟩ = some (.int .i64 0) := by (rw [hb2.cell (by first | (simp; done) | (simp; omega) | omega)]; first | assumption | (simp [go_sem]; done) | (simp [*, go_sem]; done))); (have k2_1 : w2.cell? ⟨w.heap.size, 1, none⟩ = some (.int .i64 0) := by (rw [hb2.cell (by first | (simp; done) | (simp; omega) | omega)]; first | assumption | (simp [go_sem]; done) | (simp [*, go_sem]; done))); (have k2_2 : w2.frozen? ⟨w.heap.size, 0, none⟩ = false := by (rw [hb2.frozen (by first | (simp; done) | (simp; omega) | omega)]; first | assumption | (simp [go_sem]; done) | (simp [*, go_sem]; done))); (have k2_3 : w2.frozen? ⟨w.heap.size, 1, none⟩ = false := by (rw [hb2.frozen (by first | (simp; done) | (simp; omega) | omega)]; first | assumption | (simp [go_sem]; done) | (simp [*, go_sem]; done))); (have k2_4 : w2.cell? ⟨w1.heap.size, 0, none⟩ = some (.int .i64 r0) := by (rw [hb2.cell (by first | (simp; done) | (simp; omega) | omega)]; first | assumption | (simp [go_sem]; done) | (simp [*, go_sem]; done))); (have k2_5 : w2.cell? ⟨w1.heap.size, 1, none⟩ = some (.int .i64 r1) := by (rw [hb2.cell (by first | (simp; done) | (simp; omega) | omega)]; first | assumption | (simp [go_sem]; done) | (simp [*, go_sem]; done))))
                rw [hfr]
                go_wp2_with fail
                (go_at_call 62; refine (HX.out _).mono ?_; rintro e w3 ⟨rfl, hb3⟩; obtain ⟨hc3, hf3⟩ := bcell hb3; have hB3 : Below w.heap.size w w3 := Below.trans (by repeat' (first | (with_reducible exact Below.refl _ _) | (with_reducible assumption) | (with_reducible refine Below.alloc ?_ ?_ _) | (with_reducible refine Below.drew ?_) | (with_reducible refine below_drewN ?_ _) | (with_reducible refine Below.setCell ?_ ?_ _) | go_size)) (hb3.mono (by go_size)); (have hs3 := hb3.size); (try simp at hs3); (try (have hl3 := Nat.lt_of_succ_le hs3)); (first | (have hz3 : w.heap.size < w3.heap.size := by omega) | (have hz3 : w.heap.size ≤ w3.heap.size := by omega)); (try (have hz1_3 : w1.heap.size < w3.heap.size := by omega)); (try (have hz2_3 : w2.heap.size < w3.heap.size := by omega)); (try (have hz4_3 : w4.heap.size < w3.heap.size := by omega)); (try (have hz5_3 : w5.heap.size < w3.heap.size := by omega)); (try (have hzc_3 : wc.heap.size < w3.heap.size := by omega)); (try (have hy1_3 : w.heap.size + 1 < w3.heap.size := by omega)); (try (have hy2_3 : w.heap.size + 2 < w3.heap.size := by omega)); (try (have hy3_3 : w.heap.size + 3 < w3.heap.size := by omega)); (have k3_0 : w3.cell? ⟨w.heap.size, 0, none⟩ = some (.int .i64 0) := by (rw [hb3.cell (by first | (simp; done) | (simp; omega) | omega)]; first | assumption | (simp [go_sem]; done) | (simp [*, go_sem]; done))); (have k3_1 : w3.cell? ⟨w.heap.size, 1, none⟩ = some (.int .i64 0) := by (rw [hb3.cell (by first | (simp; done) | (simp; omega) | omega)]; first | assumption | (simp [go_sem]; done) | (simp [*, go_sem]; done))); (have k3_2 : w3.frozen? ⟨w.heap.size, 0, none⟩ = false := by (rw [hb3.frozen (by first | (simp; done) | (simp; omega) | omega)]; first | assumption | (simp [go_sem]; done) | (simp [*, go_sem]; done))); (have k3_3 : w3.frozen? ⟨w.heap.size, 1, none⟩ = false := by (rw [hb3.frozen (by first | (simp; done) | (simp; omega) | omega)]; first | assumption | (simp [go_sem]; done) | (simp [*, go_sem]; done))); (have k3_4 : w3.cell? ⟨w1.heap.size, 0, none⟩ = some (.int .i64 r0) := by (rw [hb3.cell (by first | (simp; done) | (simp; omega) | omega)]; first | assumption | (simp [go_sem]; done) | (simp [*, go_sem]; done))); (have k3_5 : w3.cell? ⟨w1.heap.size, 1, none⟩ = some (.int .i64 r1) := by (rw [hb3.cell (by first | (simp; done) | (simp; omega) | omega)]; first | assumption | (simp [go_sem]; done) | (simp [*, go_sem]; done))))
                go_wp2
                refine bodyPost_ret (by simp [results, Tryd.results56, go_sem, *]; try rfl) rfl ?_
                exact ⟨ret_frac (s := s) HN.out.2.1.symm HN.out.2.2.symm HN.out.1.symm, by repeat' (first | (with_reducible exact Below.refl _ _) | (with_reducible assumption) | (with_reducible refine Below.alloc ?_ ?_ _) | (with_reducible refine Below.drew ?_) | (with_reducible refine below_drewN ?_ _) | (with_reducible refine Below.setCell ?_ ?_ _) | go_size)⟩
            · have HN := Lib.hid (pf_no (HNO.out (fun h => by rw [hfr] at h; cases h)))
              go_enter Tryd.func56, Tryd.ntmps56
              go_wp2_with fail
              (go_at_call 96; (with_reducible refine (HSp.out _).mono ?_); rintro e w1 ⟨v, rfl, hst, hb1⟩)
              obtain ⟨g, cap, rfl, hg, hcap, hcell⟩ := hst.shape (by simp)
              have hB1 : Below w.heap.size w w1 := Below.trans (by (repeat' (first | (with_reducible exact Below.refl _ _) | (with_reducible assumption) | (with_reducible refine Below.alloc ?_ ?_ _) | (with_reducible refine Below.drew ?_) | (with_reducible refine below_drewN ?_ _) | (with_reducible refine Below.setCell ?_ ?_ _) | go_size))) (hb1.mono (by go_size))
              have hs1 := hb1.size
              (try simp at hs1)
              have hz1 : w.heap.size < w1.heap.size := by omega
              have k1_0 : w1.cell? ⟨w.heap.size, 0, none⟩ = some (.int .i64 0) := by rw [hb1.cell (p := ⟨w.heap.size, 0, none⟩) (by simp)]; simp [go_sem]
              have f1_0 : w1.frozen? ⟨w.heap.size, 0, none⟩ = false := by rw [hb1.frozen (p := ⟨w.heap.size, 0, none⟩) (by simp)]; simp [go_sem]
              have k1_1 : w1.cell? ⟨w.heap.size, 1, none⟩ = some (.int .i64 0) := by rw [hb1.cell (p := ⟨w.heap.size, 1, none⟩) (by simp)]; simp [go_sem]
              have f1_1 : w1.frozen? ⟨w.heap.size, 1, none⟩ = false := by rw [hb1.frozen (p := ⟨w.heap.size, 1, none⟩) (by simp)]; simp [go_sem]
              have c0 : w1.cell? ⟨g, 0, none⟩ = some (.string P0) := by have := hcell 0 P0 (by rw [← HP0.out]; rfl); simpa using this
              have c1 : w1.cell? ⟨g, 1, none⟩ = some (.string P1) := by have := hcell 1 P1 (by rw [← HP1.out]; rfl); simpa using this
              clear hcell hst hcap
              have hgn : g ≠ w1.heap.size := by omega
              go_wp2_with (first | (go_at_call 97; (with_reducible refine (F0.out _).mono ?_); rintro e w' ⟨rfl, rfl⟩) | (go_at_call 97; (with_reducible refine (F1.out _).mono ?_); rintro e w' ⟨rfl, rfl⟩))
              (go_at_call 61; refine (frGood_any _ _ _).mono ?_; rintro e w2 ⟨rfl, hb2⟩; obtain ⟨hc2, hf2⟩ := bcell hb2; have hB2 : Below w.heap.size w w2 := Below.trans (by repeat' (first | (with_reducible exact Below.refl _ _) | (with_reducible assumption) | (with_reducible refine Below.alloc ?_ ?_ _) | (with_reducible refine Below.drew ?_) | (with_reducible refine below_drewN ?_ _) | (with_reducible refine Below.setCell ?_ ?_ _) | go_size)) (hb2.mono (by go_size)); (have hs2 := hb2.size); (try simp at hs2); (try (have hl2 := Nat.lt_of_succ_le hs2)); (first | (have hz2 : w.heap.size < w2.heap.size := by omega) | (have hz2 : w.heap.size ≤ w2.heap.size := by omega)); (try (have hz1_2 : w1.heap.size < w2.heap.size := by omega)); (try (have hz3_2 : w3.heap.size < w2.heap.size := by omega)); (try (have hz4_2 : w4.heap.size < w2.heap.size := by omega)); (try (have hz5_2 : w5.heap.size < w2.heap.size := by omega)); (try (have hzc_2 : wc.heap.size < w2.heap.size := by omega)); (try (have hy1_2 : w.heap.size + 1 < w2.heap.size := by omega)); (try (have hy2_2 : w.heap.size + 2 < w2.heap.size := by omega)); (try (have hy3_2 : w.heap.size + 3 < w2.heap.size := by omega)); (have k2_0 : w2.cell? ⟨w.heap.size, 0, none⟩ = some (.int .i64 0) := by (rw [hb2.cell (by first | (simp; done) | (simp; omega) | omega)]; first | assumption | (simp [go_sem]; done) | (simp [*, go_sem]; done))); (have k2_1 : w2.cell? ⟨w.heap.size, 1, none⟩ = some (.int .i64 0) := by (rw [hb2.cell (by first | (simp; done) | (simp; omega) | omega)]; first | assumption | (simp [go_sem]; done) | (simp [*, go_sem]; done))); (have k2_2 : w2.frozen? ⟨w.heap.size, 0, none⟩ = false := by (rw [hb2.frozen (by first | (simp; done) | (simp; omega) | omega)]; first | assumption | (simp [go_sem]; done) | (simp [*, go_sem]; done))); (have k2_3 : w2.frozen? ⟨w.heap.size, 1, none⟩ = false := by (rw [hb2.frozen (by first | (simp; done) | (simp; omega) | omega)]; first | assumption | (simp [go_sem]; done) | (simp [*, go_sem]; done))); (have k2_4 : w2.cell? ⟨w1.heap.size, 0, none⟩ = some (.int .i64 r0) := by (rw [hb2.cell (by first | (simp; done) | (simp; omega) | omega)]; first | assumption | (simp [go_sem]; done) | (simp [*, go_sem]; done))); (have k2_5 : w2.cell? ⟨w1.heap.size, 1, none⟩ = some (.int .i64 r1) := by (rw [hb2.cell (by first | (simp; done) | (simp; omega) | omega)]; first | assumption | (simp [go_sem]; done) | (simp [*, go_sem]; done))))
              rw [hfr]
              go_wp2
              refine bodyPost_ret (by simp [results, Tryd.results56, go_sem, *]; try rfl) rfl ?_
              exact ⟨ret_frac (s := s) HN.out.2.1.symm HN.out.2.2.symm HN.out.1.symm, by repeat' (first | (with_reducible exact Below.refl _ _) | (with_reducible assumption) | (with_reducible refine Below.alloc ?_ ?_ _) | (with_reducible refine Below.drew ?_) | (with_reducible refine below_drewN ?_ _) | (with_reducible refine Below.setCell ?_ ?_ _) | go_size)⟩
          | cons b r =>
            have hP : (0 : Int) < (P0.size : Int) := by rw [← HP0.out, hp0, bsOf_size]; simp
            have kx : ∀ w : World, (Instr.index 9 (.string P0) (.int .i64 0)).run Tryd.prog w = .ok (.int .u8 (b.toNat : Int)) w := fun w => by rw [← HP0.out]; exact index_at p 0 b (by rw [hp0]; rfl) w
            by_cases hb : b = 45
            · have hp : p = 45 :: r := by rw [hp0, hb]
              have e1 : ((b.toNat : Int) == 45) = true := by rw [hb]; rfl
              obtain ⟨PT, HPT⟩ : ∃ PT, Hid (P0.extract 1 P0.size = PT) := ⟨_, Lib.hid rfl⟩
              have HPTb := Lib.hid (show bsOf r = PT by rw [← HPT.out, ← HP0.out, hp]; have := ext_from (45 :: r) 1; exact this.symm)
              have ks : ∀ w : World, (Instr.slice 9 (.string P0) (some (.int .i64 1)) none none).run Tryd.prog w = .ok (.string PT) w := fun w => by
                rw [run_slice_string_l (ht := stringU) (h0 := by omega) (h1 := by omega)]
                exact congrArg (fun x => Result.ok (Value.string x) w) HPT.out
              obtain ⟨rt, HRT⟩ : ∃ rt, Hid (frR r = rt) := ⟨_, Lib.hid rfl⟩
              have FT : Hid (∀ w, Calls Tryd.prog 97 #[.string PT] w fun e w' => e = .returned (.int .i64 rt) ∧ w = w') := Lib.hid (fun w => by rw [← HPTb.out, ← HRT.out]; exact frRead_any r (by have := HPL.out p (by simp); rw [hp] at this; simp at this; omega) w)
              have rrt : -1 ≤ rt ∧ rt ≤ 9999999999 := by rw [← HRT.out]; exact frR_range _
              clear hp0 hb
              have HRD := Lib.hid (show rdN p = (-rt) by rw [rdN_minus hp, HRT.out])
              clear hp
              have HNO : Hid ((fracB (-rt) r1 = true → ftL (-rt) r1 ≠ s) → ∀ n d, ¬ pfP s n d) := Lib.hid (fun h => spec_two HPS.out (by rw [HRD.out, HR1.out]; exact h))
              rcases Bool.eq_false_or_eq_true (fracB (-rt) r1) with hfr | hfr
              · have HX : Hid (∀ w, Calls Tryd.prog 62 #[.agg #[.int .i64 (-rt), .int .i64 r1]] w fun e w' => e = .returned (.string (ftS (-rt) r1)) ∧ Below w.heap.size w w') := Lib.hid (fun w => by obtain ⟨a0, a1, a2, a3, _⟩ := fracB_range hfr; exact frText_any _ _ a2 a3 a0 a1 w)
                obtain ⟨T, HTT⟩ : ∃ T, Hid (ftS (-rt) r1 = T) := ⟨_, Lib.hid rfl⟩
                rw [HTT.out] at HX
                rcases Classical.em (ftL (-rt) r1 = s) with ht | ht
                · skip
                  have HY := Lib.hid (pf_yes (show pfP s (-rt) r1 from ⟨hfr, ht⟩))
                  obtain rfl : T = S := by rw [← HTT.out, ← HS.out, ftS_list, ht]
                  clear ht
                  go_enter Tryd.func56, Tryd.ntmps56
                  go_wp2_with fail
                  (go_at_call 96; (with_reducible refine (HSp.out _).mono ?_); rintro e w1 ⟨v, rfl, hst, hb1⟩)
                  obtain ⟨g, cap, rfl, hg, hcap, hcell⟩ := hst.shape (by simp)
                  have hB1 : Below w.heap.size w w1 := Below.trans (by (repeat' (first | (with_reducible exact Below.refl _ _) | (with_reducible assumption) | (with_reducible refine Below.alloc ?_ ?_ _) | (with_reducible refine Below.drew ?_) | (with_reducible refine below_drewN ?_ _) | (with_reducible refine Below.setCell ?_ ?_ _) | go_size))) (hb1.mono (by go_size))
                  have hs1 := hb1.size
                  (try simp at hs1)
                  have hz1 : w.heap.size < w1.heap.size := by omega
                  have k1_0 : w1.cell? ⟨w.heap.size, 0, none⟩ = some (.int .i64 0) := by rw [hb1.cell (p := ⟨w.heap.size, 0, none⟩) (by simp)]; simp [go_sem]
                  have f1_0 : w1.frozen? ⟨w.heap.size, 0, none⟩ = false := by rw [hb1.frozen (p := ⟨w.heap.size, 0, none⟩) (by simp)]; simp [go_sem]
                  have k1_1 : w1.cell? ⟨w.heap.size, 1, none⟩ = some (.int .i64 0) := by rw [hb1.cell (p := ⟨w.heap.size, 1, none⟩) (by simp)]; simp [go_sem]
                  have f1_1 : w1.frozen? ⟨w.heap.size, 1, none⟩ = false := by rw [hb1.frozen (p := ⟨w.heap.size, 1, none⟩) (by simp)]; simp [go_sem]
                  have c0 : w1.cell? ⟨g, 0, none⟩ = some (.string P0) := by have := hcell 0 P0 (by rw [← HP0.out]; rfl); simpa using this
                  have c1 : w1.cell? ⟨g, 1, none⟩ = some (.string P1) := by have := hcell 1 P1 (by rw [← HP1.out]; rfl); simpa using this
                  clear hcell hst hcap
                  have hgn : g ≠ w1.heap.size := by omega
                  go_wp2_with (first | (go_at_call 97; (with_reducible refine (F0.out _).mono ?_); rintro e w' ⟨rfl, rfl⟩) | (go_at_call 97; (with_reducible refine (FT.out _).mono ?_); rintro e w' ⟨rfl, rfl⟩) | (go_at_call 97; (with_reducible refine (F1.out _).mono ?_); rintro e w' ⟨rfl, rfl⟩))
                  (go_at_call 61; refine (frGood_any _ _ _).mono ?_; rintro e w2 ⟨rfl, hb2⟩; obtain ⟨hc2, hf2⟩ := bcell hb2; have hB2 : Below w.heap.size w w2 := Below.trans (by repeat' (first | (with_reducible exact Below.refl _ _) | (with_reducible assumption) | (with_reducible refine Below.alloc ?_ ?_ _) | (with_reducible refine Below.drew ?_) | (with_reducible refine below_drewN ?_ _) | (with_reducible refine Below.setCell ?_ ?_ _) | go_size)) (hb2.mono (by go_size)); (have hs2 := hb2.size); (try simp at hs2); (try (have hl2 := Nat.lt_of_succ_le hs2)); (first | (have hz2 : w.heap.size < w2.heap.size := by omega) | (have hz2 : w.heap.size ≤ w2.heap.size := by omega)); (try (have hz1_2 : w1.heap.size < w2.heap.size := by omega)); (try (have hz3_2 : w3.heap.size < w2.heap.size := by omega)); (try (have hz4_2 : w4.heap.size < w2.heap.size := by omega)); (try (have hz5_2 : w5.heap.size < w2.heap.size := by omega)); (try (have hzc_2 : wc.heap.size < w2.heap.size := by omega)); (try (have hy1_2 : w.heap.size + 1 < w2.heap.size := by omega)); (try (have hy2_2 : w.heap.size + 2 < w2.heap.size := by omega)); (try (have hy3_2 : w.heap.size + 3 < w2.heap.size := by omega)); (have k2_0 : w2.cell? ⟨w.heap.size, 0, none⟩ = some (.int .i64 0) := by (rw [hb2.cell (by first | (simp; done) | (simp; omega) | omega)]; first | assumption | (simp [go_sem]; done) | (simp [*, go_sem]; done))); (have k2_1 : w2.cell? ⟨w.heap.size, 1, none⟩ = some (.int .i64 0) := by (rw [hb2.cell (by first | (simp; done) | (simp; omega) | omega)]; first | assumption | (simp [go_sem]; done) | (simp [*, go_sem]; done))); (have k2_2 : w2.frozen? ⟨w.heap.size, 0, none⟩ = false := by (rw [hb2.frozen (by first | (simp; done) | (simp; omega) | omega)]; first | assumption | (simp [go_sem]; done) | (simp [*, go_sem]; done))); (have k2_3 : w2.frozen? ⟨w.heap.size, 1, none⟩ = false := by (rw [hb2.frozen (by first | (simp; done) | (simp; omega) | omega)]; first | assumption | (simp [go_sem]; done) | (simp [*, go_sem]; done))); (have k2_4 : w2.cell? ⟨w1.heap.size, 0, none⟩ = some (.int .i64 (-rt)) := by (rw [hb2.cell (by first | (simp; done) | (simp; omega) | omega)]; first | assumption | (simp [go_sem]; done) | (simp [*, go_sem]; done))); (have k2_5 : w2.cell? ⟨w1.heap.size, 1, none⟩ = some (.int .i64 r1) := by (rw [hb2.cell (by first | (simp; done) | (simp; omega) | omega)]; first | assumption | (simp [go_sem]; done) | (simp [*, go_sem]; done))))
                  rw [hfr]
                  go_wp2_with fail
                  (go_at_call 62; refine (HX.out _).mono ?_; rintro e w3 ⟨rfl, hb3⟩; obtain ⟨hc3, hf3⟩ := bcell hb3; have hB3 : Below w.heap.size w w3 := Below.trans (by repeat' (first | (with_reducible exact Below.refl _ _) | (with_reducible assumption) | (with_reducible refine Below.alloc ?_ ?_ _) | (with_reducible refine Below.drew ?_) | (with_reducible refine below_drewN ?_ _) | (with_reducible refine Below.setCell ?_ ?_ _) | go_size)) (hb3.mono (by go_size)); (have hs3 := hb3.size); (try simp at hs3); (try (have hl3 := Nat.lt_of_succ_le hs3)); (first | (have hz3 : w.heap.size < w3.heap.size := by omega) | (have hz3 : w.heap.size ≤ w3.heap.size := by omega)); (try (have hz1_3 : w1.heap.size < w3.heap.size := by omega)); (try (have hz2_3 : w2.heap.size < w3.heap.size := by omega)); (try (have hz4_3 : w4.heap.size < w3.heap.size := by omega)); (try (have hz5_3 : w5.heap.size < w3.heap.size := by omega)); (try (have hzc_3 : wc.heap.size < w3.heap.size := by omega)); (try (have hy1_3 : w.heap.size + 1 < w3.heap.size := by omega)); (try (have hy2_3 : w.heap.size + 2 < w3.heap.size := by omega)); (try (have hy3_3 : w.heap.size + 3 < w3.heap.size := by omega)); (have k3_0 : w3.cell? ⟨w.heap.size, 0, none⟩ = some (.int .i64 0) := by (rw [hb3.cell (by first | (simp; done) | (simp; omega) | omega)]; first | assumption | (simp [go_sem]; done) | (simp [*, go_sem]; done))); (have k3_1 : w3.cell? ⟨w.heap.size, 1, none⟩ = some (.int .i64 0) := by (rw [hb3.cell (by first | (simp; done) | (simp; omega) | omega)]; first | assumption | (simp [go_sem]; done) | (simp [*, go_sem]; done))); (have k3_2 : w3.frozen? ⟨w.heap.size, 0, none⟩ = false := by (rw [hb3.frozen (by first | (simp; done) | (simp; omega) | omega)]; first | assumption | (simp [go_sem]; done) | (simp [*, go_sem]; done))); (have k3_3 : w3.frozen? ⟨w.heap.size, 1, none⟩ = false := by (rw [hb3.frozen (by first | (simp; done) | (simp; omega) | omega)]; first | assumption | (simp [go_sem]; done) | (simp [*, go_sem]; done))); (have k3_4 : w3.cell? ⟨w1.heap.size, 0, none⟩ = some (.int .i64 (-rt)) := by (rw [hb3.cell (by first | (simp; done) | (simp; omega) | omega)]; first | assumption | (simp [go_sem]; done) | (simp [*, go_sem]; done))); (have k3_5 : w3.cell? ⟨w1.heap.size, 1, none⟩ = some (.int .i64 r1) := by (rw [hb3.cell (by first | (simp; done) | (simp; omega) | omega)]; first | assumption | (simp [go_sem]; done) | (simp [*, go_sem]; done))))
                  go_wp2
                  refine bodyPost_ret (by simp [results, Tryd.results56, go_sem, *]; try rfl) rfl ?_
                  exact ⟨ret_frac (s := s) HY.out.2.1.symm HY.out.2.2.symm HY.out.1.symm, by repeat' (first | (with_reducible exact Below.refl _ _) | (with_reducible assumption) | (with_reducible refine Below.alloc ?_ ?_ _) | (with_reducible refine Below.drew ?_) | (with_reducible refine below_drewN ?_ _) | (with_reducible refine Below.setCell ?_ ?_ _) | go_size)⟩
                · skip
                  have HN := Lib.hid (pf_no (HNO.out (fun _ => ht)))
                  have hne2 : (T.toList == S.toList) = false := by rw [← HTT.out, ← HS.out]; exact text_ne ht
                  clear ht
                  go_enter Tryd.func56, Tryd.ntmps56
                  go_wp2_with fail
                  (go_at_call 96; (with_reducible refine (HSp.out _).mono ?_); rintro e w1 ⟨v, rfl, hst, hb1⟩)
                  obtain ⟨g, cap, rfl, hg, hcap, hcell⟩ := hst.shape (by simp)
                  have hB1 : Below w.heap.size w w1 := Below.trans (by (repeat' (first | (with_reducible exact Below.refl _ _) | (with_reducible assumption) | (with_reducible refine Below.alloc ?_ ?_ _) | (with_reducible refine Below.drew ?_) | (with_reducible refine below_drewN ?_ _) | (with_reducible refine Below.setCell ?_ ?_ _) | go_size))) (hb1.mono (by go_size))
                  have hs1 := hb1.size
                  (try simp at hs1)
                  have hz1 : w.heap.size < w1.heap.size := by omega
                  have k1_0 : w1.cell? ⟨w.heap.size, 0, none⟩ = some (.int .i64 0) := by rw [hb1.cell (p := ⟨w.heap.size, 0, none⟩) (by simp)]; simp [go_sem]
                  have f1_0 : w1.frozen? ⟨w.heap.size, 0, none⟩ = false := by rw [hb1.frozen (p := ⟨w.heap.size, 0, none⟩) (by simp)]; simp [go_sem]
                  have k1_1 : w1.cell? ⟨w.heap.size, 1, none⟩ = some (.int .i64 0) := by rw [hb1.cell (p := ⟨w.heap.size, 1, none⟩) (by simp)]; simp [go_sem]
                  have f1_1 : w1.frozen? ⟨w.heap.size, 1, none⟩ = false := by rw [hb1.frozen (p := ⟨w.heap.size, 1, none⟩) (by simp)]; simp [go_sem]
                  have c0 : w1.cell? ⟨g, 0, none⟩ = some (.string P0) := by have := hcell 0 P0 (by rw [← HP0.out]; rfl); simpa using this
                  have c1 : w1.cell? ⟨g, 1, none⟩ = some (.string P1) := by have := hcell 1 P1 (by rw [← HP1.out]; rfl); simpa using this
                  clear hcell hst hcap
                  have hgn : g ≠ w1.heap.size := by omega
                  go_wp2_with (first | (go_at_call 97; (with_reducible refine (F0.out _).mono ?_); rintro e w' ⟨rfl, rfl⟩) | (go_at_call 97; (with_reducible refine (FT.out _).mono ?_); rintro e w' ⟨rfl, rfl⟩) | (go_at_call 97; (with_reducible refine (F1.out _).mono ?_); rintro e w' ⟨rfl, rfl⟩))
                  (go_at_call 61; refine (frGood_any _ _ _).mono ?_; rintro e w2 ⟨rfl, hb2⟩; obtain ⟨hc2, hf2⟩ := bcell hb2; have hB2 : Below w.heap.size w w2 := Below.trans (by repeat' (first | (with_reducible exact Below.refl _ _) | (with_reducible assumption) | (with_reducible refine Below.alloc ?_ ?_ _) | (with_reducible refine Below.drew ?_) | (with_reducible refine below_drewN ?_ _) | (with_reducible refine Below.setCell ?_ ?_ _) | go_size)) (hb2.mono (by go_size)); (have hs2 := hb2.size); (try simp at hs2); (try (have hl2 := Nat.lt_of_succ_le hs2)); (first | (have hz2 : w.heap.size < w2.heap.size := by omega) | (have hz2 : w.heap.size ≤ w2.heap.size := by omega)); (try (have hz1_2 : w1.heap.size < w2.heap.size := by omega)); (try (have hz3_2 : w3.heap.size < w2.heap.size := by omega)); (try (have hz4_2 : w4.heap.size < w2.heap.size := by omega)); (try (have hz5_2 : w5.heap.size < w2.heap.size := by omega)); (try (have hzc_2 : wc.heap.size < w2.heap.size := by omega)); (try (have hy1_2 : w.heap.size + 1 < w2.heap.size := by omega)); (try (have hy2_2 : w.heap.size + 2 < w2.heap.size := by omega)); (try (have hy3_2 : w.heap.size + 3 < w2.heap.size := by omega)); (have k2_0 : w2.cell? ⟨w.heap.size, 0, none⟩ = some (.int .i64 0) := by (rw [hb2.cell (by first | (simp; done) | (simp; omega) | omega)]; first | assumption | (simp [go_sem]; done) | (simp [*, go_sem]; done))); (have k2_1 : w2.cell? ⟨w.heap.size, 1, none⟩ = some (.int .i64 0) := by (rw [hb2.cell (by first | (simp; done) | (simp; omega) | omega)]; first | assumption | (simp [go_sem]; done) | (simp [*, go_sem]; done))); (have k2_2 : w2.frozen? ⟨w.heap.size, 0, none⟩ = false := by (rw [hb2.frozen (by first | (simp; done) | (simp; omega) | omega)]; first | assumption | (simp [go_sem]; done) | (simp [*, go_sem]; done))); (have k2_3 : w2.frozen? ⟨w.heap.size, 1, none⟩ = false := by (rw [hb2.frozen (by first | (simp; done) | (simp; omega) | omega)]; first | assumption | (simp [go_sem]; done) | (simp [*, go_sem]; done))); (have k2_4 : w2.cell? ⟨w1.heap.size, 0, none⟩ = some (.int .i64 (-rt)) := by (rw [hb2.cell (by first | (simp; done) | (simp; omega) | omega)]; first | assumption | (simp [go_sem]; done) | (simp [*, go_sem]; done))); (have k2_5 : w2.cell? ⟨w1.heap.size, 1, none⟩ = some (.int .i64 r1) := by (rw [hb2.cell (by first | (simp; done) | (simp; omega) | omega)]; first | assumption | (simp [go_sem]; done) | (simp [*, go_sem]; done))))
                  rw [hfr]
                  go_wp2_with fail
                  (go_at_call 62; refine (HX.out _).mono ?_; rintro e w3 ⟨rfl, hb3⟩; obtain ⟨hc3, hf3⟩ := bcell hb3; have hB3 : Below w.heap.size w w3 := Below.trans (by repeat' (first | (with_reducible exact Below.refl _ _) | (with_reducible assumption) | (with_reducible refine Below.alloc ?_ ?_ _) | (with_reducible refine Below.drew ?_) | (with_reducible refine below_drewN ?_ _) | (with_reducible refine Below.setCell ?_ ?_ _) | go_size)) (hb3.mono (by go_size)); (have hs3 := hb3.size); (try simp at hs3); (try (have hl3 := Nat.lt_of_succ_le hs3)); (first | (have hz3 : w.heap.size < w3.heap.size := by omega) | (have hz3 : w.heap.size ≤ w3.heap.size := by omega)); (try (have hz1_3 : w1.heap.size < w3.heap.size := by omega)); (try (have hz2_3 : w2.heap.size < w3.heap.size := by omega)); (try (have hz4_3 : w4.heap.size < w3.heap.size := by omega)); (try (have hz5_3 : w5.heap.size < w3.heap.size := by omega)); (try (have hzc_3 : wc.heap.size < w3.heap.size := by omega)); (try (have hy1_3 : w.heap.size + 1 < w3.heap.size := by omega)); (try (have hy2_3 : w.heap.size + 2 < w3.heap.size := by omega)); (try (have hy3_3 : w.heap.size + 3 < w3.heap.size := by omega)); (have k3_0 : w3.cell? ⟨w.heap.size, 0, none⟩ = some (.int .i64 0) := by (rw [hb3.cell (by first | (simp; done) | (simp; omega) | omega)]; first | assumption | (simp [go_sem]; done) | (simp [*, go_sem]; done))); (have k3_1 : w3.cell? ⟨w.heap.size, 1, none⟩ = some (.int .i64 0) := by (rw [hb3.cell (by first | (simp; done) | (simp; omega) | omega)]; first | assumption | (simp [go_sem]; done) | (simp [*, go_sem]; done))); (have k3_2 : w3.frozen? ⟨w.heap.size, 0, none⟩ = false := by (rw [hb3.frozen (by first | (simp; done) | (simp; omega) | omega)]; first | assumption | (simp [go_sem]; done) | (simp [*, go_sem]; done))); (have k3_3 : w3.frozen? ⟨w.heap.size, 1, none⟩ = false := by (rw [hb3.frozen (by first | (simp; done) | (simp; omega) | omega)]; first | assumption | (simp [go_sem]; done) | (simp [*, go_sem]; done))); (have k3_4 : w3.cell? ⟨w1.heap.size, 0, none⟩ = some (.int .i64 (-rt)) := by (rw [hb3.cell (by first | (simp; done) | (simp; omega) | omega)]; first | assumption | (simp [go_sem]; done) | (simp [*, go_sem]; done))); (have k3_5 : w3.cell? ⟨w1.heap.size, 1, none⟩ = some (.int .i64 r1) := by (rw [hb3.cell (by first | (simp; done) | (simp; omega) | omega)]; first | assumption | (simp [go_sem]; done) | (simp [*, go_sem]; done))))
                  go_wp2
                  refine bodyPost_ret (by simp [results, Tryd.results56, go_sem, *]; try rfl) rfl ?_
                  exact ⟨ret_frac (s := s) HN.out.2.1.symm HN.out.2.2.symm HN.out.1.symm, by repeat' (first | (with_reducible exact Below.refl _ _) | (with_reducible assumption) | (with_reducible refine Below.alloc ?_ ?_ _) | (with_reducible refine Below.drew ?_) | (with_reducible refine below_drewN ?_ _) | (with_reducible refine Below.setCell ?_ ?_ _) | go_size)⟩
              · have HN := Lib.hid (pf_no (HNO.out (fun h => by rw [hfr] at h; cases h)))
                go_enter Tryd.func56, Tryd.ntmps56
                go_wp2_with fail
                (go_at_call 96; (with_reducible refine (HSp.out _).mono ?_); rintro e w1 ⟨v, rfl, hst, hb1⟩)
                obtain ⟨g, cap, rfl, hg, hcap, hcell⟩ := hst.shape (by simp)
                have hB1 : Below w.heap.size w w1 := Below.trans (by (repeat' (first | (with_reducible exact Below.refl _ _) | (with_reducible assumption) | (with_reducible refine Below.alloc ?_ ?_ _) | (with_reducible refine Below.drew ?_) | (with_reducible refine below_drewN ?_ _) | (with_reducible refine Below.setCell ?_ ?_ _) | go_size))) (hb1.mono (by go_size))
                have hs1 := hb1.size
                (try simp at hs1)
                have hz1 : w.heap.size < w1.heap.size := by omega
                have k1_0 : w1.cell? ⟨w.heap.size, 0, none⟩ = some (.int .i64 0) := by rw [hb1.cell (p := ⟨w.heap.size, 0, none⟩) (by simp)]; simp [go_sem]
                have f1_0 : w1.frozen? ⟨w.heap.size, 0, none⟩ = false := by rw [hb1.frozen (p := ⟨w.heap.size, 0, none⟩) (by simp)]; simp [go_sem]
                have k1_1 : w1.cell? ⟨w.heap.size, 1, none⟩ = some (.int .i64 0) := by rw [hb1.cell (p := ⟨w.heap.size, 1, none⟩) (by simp)]; simp [go_sem]
                have f1_1 : w1.frozen? ⟨w.heap.size, 1, none⟩ = false := by rw [hb1.frozen (p := ⟨w.heap.size, 1, none⟩) (by simp)]; simp [go_sem]
                have c0 : w1.cell? ⟨g, 0, none⟩ = some (.string P0) := by have := hcell 0 P0 (by rw [← HP0.out]; rfl); simpa using this
                have c1 : w1.cell? ⟨g, 1, none⟩ = some (.string P1) := by have := hcell 1 P1 (by rw [← HP1.out]; rfl); simpa using this
                clear hcell hst hcap
                have hgn : g ≠ w1.heap.size := by omega
                go_wp2_with (first | (go_at_call 97; (with_reducible refine (F0.out _).mono ?_); rintro e w' ⟨rfl, rfl⟩) | (go_at_call 97; (with_reducible refine (FT.out _).mono ?_); rintro e w' ⟨rfl, rfl⟩) | (go_at_call 97; (with_reducible refine (F1.out _).mono ?_); rintro e w' ⟨rfl, rfl⟩))
                (go_at_call 61; refine (frGood_any _ _ _).mono ?_; rintro e w2 ⟨rfl, hb2⟩; obtain ⟨hc2, hf2⟩ := bcell hb2; have hB2 : Below w.heap.size w w2 := Below.trans (by repeat' (first | (with_reducible exact Below.refl _ _) | (with_reducible assumption) | (with_reducible refine Below.alloc ?_ ?_ _) | (with_reducible refine Below.drew ?_) | (with_reducible refine below_drewN ?_ _) | (with_reducible refine Below.setCell ?_ ?_ _) | go_size)) (hb2.mono (by go_size)); (have hs2 := hb2.size); (try simp at hs2); (try (have hl2 := Nat.lt_of_succ_le hs2)); (first | (have hz2 : w.heap.size < w2.heap.size := by omega) | (have hz2 : w.heap.size ≤ w2.heap.size := by omega)); (try (have hz1_2 : w1.heap.size < w2.heap.size := by omega)); (try (have hz3_2 : w3.heap.size < w2.heap.size := by omega)); (try (have hz4_2 : w4.heap.size < w2.heap.size := by omega)); (try (have hz5_2 : w5.heap.size < w2.heap.size := by omega)); (try (have hzc_2 : wc.heap.size < w2.heap.size := by omega)); (try (have hy1_2 : w.heap.size + 1 < w2.heap.size := by omega)); (try (have hy2_2 : w.heap.size + 2 < w2.heap.size := by omega)); (try (have hy3_2 : w.heap.size + 3 < w2.heap.size := by omega)); (have k2_0 : w2.cell? ⟨w.heap.size, 0, none⟩ = some (.int .i64 0) := by (rw [hb2.cell (by first | (simp; done) | (simp; omega) | omega)]; first | assumption | (simp [go_sem]; done) | (simp [*, go_sem]; done))); (have k2_1 : w2.cell? ⟨w.heap.size, 1, none⟩ = some (.int .i64 0) := by (rw [hb2.cell (by first | (simp; done) | (simp; omega) | omega)]; first | assumption | (simp [go_sem]; done) | (simp [*, go_sem]; done))); (have k2_2 : w2.frozen? ⟨w.heap.size, 0, none⟩ = false := by (rw [hb2.frozen (by first | (simp; done) | (simp; omega) | omega)]; first | assumption | (simp [go_sem]; done) | (simp [*, go_sem]; done))); (have k2_3 : w2.frozen? ⟨w.heap.size, 1, none⟩ = false := by (rw [hb2.frozen (by first | (simp; done) | (simp; omega) | omega)]; first | assumption | (simp [go_sem]; done) | (simp [*, go_sem]; done))); (have k2_4 : w2.cell? ⟨w1.heap.size, 0, none⟩ = some (.int .i64 (-rt)) := by (rw [hb2.cell (by first | (simp; done) | (simp; omega) | omega)]; first | assumption | (simp [go_sem]; done) | (simp [*, go_sem]; done))); (have k2_5 : w2.cell? ⟨w1.heap.size, 1, none⟩ = some (.int .i64 r1) := by (rw [hb2.cell (by first | (simp; done) | (simp; omega) | omega)]; first | assumption | (simp [go_sem]; done) | (simp [*, go_sem]; done))))
                rw [hfr]
                go_wp2
                refine bodyPost_ret (by simp [results, Tryd.results56, go_sem, *]; try rfl) rfl ?_
                exact ⟨ret_frac (s := s) HN.out.2.1.symm HN.out.2.2.symm HN.out.1.symm, by repeat' (first | (with_reducible exact Below.refl _ _) | (with_reducible assumption) | (with_reducible refine Below.alloc ?_ ?_ _) | (with_reducible refine Below.drew ?_) | (with_reducible refine below_drewN ?_ _) | (with_reducible refine Below.setCell ?_ ?_ _) | go_size)⟩
            · have hp : p.head? ≠ some 45 := by rw [hp0]; intro e; injection e with e; exact hb e
              have e1 : ((b.toNat : Int) == 45) = false := beq_false_of_ne fun e => hb (by apply UInt8.toNat_inj.1; show b.toNat = 45; omega)
              clear hp0 hb
              have HRD := Lib.hid (show rdN p = r0 by rw [rdN_plain hp, HR0.out])
              clear hp
              have HNO : Hid ((fracB r0 r1 = true → ftL r0 r1 ≠ s) → ∀ n d, ¬ pfP s n d) := Lib.hid (fun h => spec_two HPS.out (by rw [HRD.out, HR1.out]; exact h))
              rcases Bool.eq_false_or_eq_true (fracB r0 r1) with hfr | hfr
              · have HX : Hid (∀ w, Calls Tryd.prog 62 #[.agg #[.int .i64 r0, .int .i64 r1]] w fun e w' => e = .returned (.string (ftS r0 r1)) ∧ Below w.heap.size w w') := Lib.hid (fun w => by obtain ⟨a0, a1, a2, a3, _⟩ := fracB_range hfr; exact frText_any _ _ a2 a3 a0 a1 w)
                obtain ⟨T, HTT⟩ : ∃ T, Hid (ftS r0 r1 = T) := ⟨_, Lib.hid rfl⟩
                rw [HTT.out] at HX
                rcases Classical.em (ftL r0 r1 = s) with ht | ht
                · skip
                  have HY := Lib.hid (pf_yes (show pfP s r0 r1 from ⟨hfr, ht⟩))
                  obtain rfl : T = S := by rw [← HTT.out, ← HS.out, ftS_list, ht]
                  clear ht
                  go_enter Tryd.func56, Tryd.ntmps56
                  go_wp2_with fail
                  (go_at_call 96; (with_reducible refine (HSp.out _).mono ?_); rintro e w1 ⟨v, rfl, hst, hb1⟩)
                  obtain ⟨g, cap, rfl, hg, hcap, hcell⟩ := hst.shape (by simp)
                  have hB1 : Below w.heap.size w w1 := Below.trans (by (repeat' (first | (with_reducible exact Below.refl _ _) | (with_reducible assumption) | (with_reducible refine Below.alloc ?_ ?_ _) | (with_reducible refine Below.drew ?_) | (with_reducible refine below_drewN ?_ _) | (with_reducible refine Below.setCell ?_ ?_ _) | go_size))) (hb1.mono (by go_size))
                  have hs1 := hb1.size
                  (try simp at hs1)
                  have hz1 : w.heap.size < w1.heap.size := by omega
                  have k1_0 : w1.cell? ⟨w.heap.size, 0, none⟩ = some (.int .i64 0) := by rw [hb1.cell (p := ⟨w.heap.size, 0, none⟩) (by simp)]; simp [go_sem]
                  have f1_0 : w1.frozen? ⟨w.heap.size, 0, none⟩ = false := by rw [hb1.frozen (p := ⟨w.heap.size, 0, none⟩) (by simp)]; simp [go_sem]
                  have k1_1 : w1.cell? ⟨w.heap.size, 1, none⟩ = some (.int .i64 0) := by rw [hb1.cell (p := ⟨w.heap.size, 1, none⟩) (by simp)]; simp [go_sem]
                  have f1_1 : w1.frozen? ⟨w.heap.size, 1, none⟩ = false := by rw [hb1.frozen (p := ⟨w.heap.size, 1, none⟩) (by simp)]; simp [go_sem]
                  have c0 : w1.cell? ⟨g, 0, none⟩ = some (.string P0) := by have := hcell 0 P0 (by rw [← HP0.out]; rfl); simpa using this
                  have c1 : w1.cell? ⟨g, 1, none⟩ = some (.string P1) := by have := hcell 1 P1 (by rw [← HP1.out]; rfl); simpa using this
                  clear hcell hst hcap
                  have hgn : g ≠ w1.heap.size := by omega
                  go_wp2_with (first | (go_at_call 97; (with_reducible refine (F0.out _).mono ?_); rintro e w' ⟨rfl, rfl⟩) | (go_at_call 97; (with_reducible refine (F1.out _).mono ?_); rintro e w' ⟨rfl, rfl⟩))
                  (go_at_call 61; refine (frGood_any _ _ _).mono ?_; rintro e w2 ⟨rfl, hb2⟩; obtain ⟨hc2, hf2⟩ := bcell hb2; have hB2 : Below w.heap.size w w2 := Below.trans (by repeat' (first | (with_reducible exact Below.refl _ _) | (with_reducible assumption) | (with_reducible refine Below.alloc ?_ ?_ _) | (with_reducible refine Below.drew ?_) | (with_reducible refine below_drewN ?_ _) | (with_reducible refine Below.setCell ?_ ?_ _) | go_size)) (hb2.mono (by go_size)); (have hs2 := hb2.size); (try simp at hs2); (try (have hl2 := Nat.lt_of_succ_le hs2)); (first | (have hz2 : w.heap.size < w2.heap.size := by omega) | (have hz2 : w.heap.size ≤ w2.heap.size := by omega)); (try (have hz1_2 : w1.heap.size < w2.heap.size := by omega)); (try (have hz3_2 : w3.heap.size < w2.heap.size := by omega)); (try (have hz4_2 : w4.heap.size < w2.heap.size := by omega)); (try (have hz5_2 : w5.heap.size < w2.heap.size := by omega)); (try (have hzc_2 : wc.heap.size < w2.heap.size := by omega)); (try (have hy1_2 : w.heap.size + 1 < w2.heap.size := by omega)); (try (have hy2_2 : w.heap.size + 2 < w2.heap.size := by omega)); (try (have hy3_2 : w.heap.size + 3 < w2.heap.size := by omega)); (have k2_0 : w2.cell? ⟨w.heap.size, 0, none⟩ = some (.int .i64 0) := by (rw [hb2.cell (by first | (simp; done) | (simp; omega) | omega)]; first | assumption | (simp [go_sem]; done) | (simp [*, go_sem]; done))); (have k2_1 : w2.cell? ⟨w.heap.size, 1, none⟩ = some (.int .i64 0) := by (rw [hb2.cell (by first | (simp; done) | (simp; omega) | omega)]; first | assumption | (simp [go_sem]; done) | (simp [*, go_sem]; done))); (have k2_2 : w2.frozen? ⟨w.heap.size, 0, none⟩ = false := by (rw [hb2.frozen (by first | (simp; done) | (simp; omega) | omega)]; first | assumption | (simp [go_sem]; done) | (simp [*, go_sem]; done))); (have k2_3 : w2.frozen? ⟨w.heap.size, 1, none⟩ = false := by (rw [hb2.frozen (by first | (simp; done) | (simp; omega) | omega)]; first | assumption | (simp [go_sem]; done) | (simp [*, go_sem]; done))); (have k2_4 : w2.cell? ⟨w1.heap.size, 0, none⟩ = some (.int .i64 r0) := by (rw [hb2.cell (by first | (simp; done) | (simp; omega) | omega)]; first | assumption | (simp [go_sem]; done) | (simp [*, go_sem]; done))); (have k2_5 : w2.cell? ⟨w1.heap.size, 1, none⟩ = some (.int .i64 r1) := by (rw [hb2.cell (by first | (simp; done) | (simp; omega) | omega)]; first | assumption | (simp [go_sem]; done) | (simp [*, go_sem]; done))))
                  rw [hfr]
                  go_wp2_with fail
                  (go_at_call 62; refine (HX.out _).mono ?_; rintro e w3 ⟨rfl, hb3⟩; obtain ⟨hc3, hf3⟩ := bcell hb3; have hB3 : Below w.heap.size w w3 := Below.trans (by repeat' (first | (with_reducible exact Below.refl _ _) | (with_reducible assumption) | (with_reducible refine Below.alloc ?_ ?_ _) | (with_reducible refine Below.drew ?_) | (with_reducible refine below_drewN ?_ _) | (with_reducible refine Below.setCell ?_ ?_ _) | go_size)) (hb3.mono (by go_size)); (have hs3 := hb3.size); (try simp at hs3); (try (have hl3 := Nat.lt_of_succ_le hs3)); (first | (have hz3 : w.heap.size < w3.heap.size := by omega) | (have hz3 : w.heap.size ≤ w3.heap.size := by omega)); (try (have hz1_3 : w1.heap.size < w3.heap.size := by omega)); (try (have hz2_3 : w2.heap.size < w3.heap.size := by omega)); (try (have hz4_3 : w4.heap.size < w3.heap.size := by omega)); (try (have hz5_3 : w5.heap.size < w3.heap.size := by omega)); (try (have hzc_3 : wc.heap.size < w3.heap.size := by omega)); (try (have hy1_3 : w.heap.size + 1 < w3.heap.size := by omega)); (try (have hy2_3 : w.heap.size + 2 < w3.heap.size := by omega)); (try (have hy3_3 : w.heap.size + 3 < w3.heap.size := by omega)); (have k3_0 : w3.cell? ⟨w.heap.size, 0, none⟩ = some (.int .i64 0) := by (rw [hb3.cell (by first | (simp; done) | (simp; omega) | omega)]; first | assumption | (simp [go_sem]; done) | (simp [*, go_sem]; done))); (have k3_1 : w3.cell? ⟨w.heap.size, 1, none⟩ = some (.int .i64 0) := by (rw [hb3.cell (by first | (simp; done) | (simp; omega) | omega)]; first | assumption | (simp [go_sem]; done) | (simp [*, go_sem]; done))); (have k3_2 : w3.frozen? ⟨w.heap.size, 0, none⟩ = false := by (rw [hb3.frozen (by first | (simp; done) | (simp; omega) | omega)]; first | assumption | (simp [go_sem]; done) | (simp [*, go_sem]; done))); (have k3_3 : w3.frozen? ⟨w.heap.size, 1, none⟩ = false := by (rw [hb3.frozen (by first | (simp; done) | (simp; omega) | omega)]; first | assumption | (simp [go_sem]; done) | (simp [*, go_sem]; done))); (have k3_4 : w3.cell? ⟨w1.heap.size, 0, none⟩ = some (.int .i64 r0) := by (rw [hb3.cell (by first | (simp; done) | (simp; omega) | omega)]; first | assumption | (simp [go_sem]; done) | (simp [*, go_sem]; done))); (have k3_5 : w3.cell? ⟨w1.heap.size, 1, none⟩ = some (.int .i64 r1) := by (rw [hb3.cell (by first | (simp; done) | (simp; omega) | omega)]; first | assumption | (simp [go_sem]; done) | (simp [*, go_sem]; done))))
                  go_wp2
                  refine bodyPost_ret (by simp [results, Tryd.results56, go_sem, *]; try rfl) rfl ?_
                  exact ⟨ret_frac (s := s) HY.out.2.1.symm HY.out.2.2.symm HY.out.1.symm, by repeat' (first | (with_reducible exact Below.refl _ _) | (with_reducible assumption) | (with_reducible refine Below.alloc ?_ ?_ _) | (with_reducible refine Below.drew ?_) | (with_reducible refine below_drewN ?_ _) | (with_reducible refine Below.setCell ?_ ?_ _) | go_size)⟩
                · skip
                  have HN := Lib.hid (pf_no (HNO.out (fun _ => ht)))
                  have hne2 : (T.toList == S.toList) = false := by rw [← HTT.out, ← HS.out]; exact text_ne ht
                  clear ht
                  go_enter Tryd.func56, Tryd.ntmps56
                  go_wp2_with fail
                  (go_at_call 96; (with_reducible refine (HSp.out _).mono ?_); rintro e w1 ⟨v, rfl, hst, hb1⟩)
                  obtain ⟨g, cap, rfl, hg, hcap, hcell⟩ := hst.shape (by simp)
                  have hB1 : Below w.heap.size w w1 := Below.trans (by (repeat' (first | (with_reducible exact Below.refl _ _) | (with_reducible assumption) | (with_reducible refine Below.alloc ?_ ?_ _) | (with_reducible refine Below.drew ?_) | (with_reducible refine below_drewN ?_ _) | (with_reducible refine Below.setCell ?_ ?_ _) | go_size))) (hb1.mono (by go_size))
                  have hs1 := hb1.size
                  (try simp at hs1)
                  have hz1 : w.heap.size < w1.heap.size := by omega
                  have k1_0 : w1.cell? ⟨w.heap.size, 0, none⟩ = some (.int .i64 0) := by rw [hb1.cell (p := ⟨w.heap.size, 0, none⟩) (by simp)]; simp [go_sem]
                  have f1_0 : w1.frozen? ⟨w.heap.size, 0, none⟩ = false := by rw [hb1.frozen (p := ⟨w.heap.size, 0, none⟩) (by simp)]; simp [go_sem]
                  have k1_1 : w1.cell? ⟨w.heap.size, 1, none⟩ = some (.int .i64 0) := by rw [hb1.cell (p := ⟨w.heap.size, 1, none⟩) (by simp)]; simp [go_sem]
                  have f1_1 : w1.frozen? ⟨w.heap.size, 1, none⟩ = false := by rw [hb1.frozen (p := ⟨w.heap.size, 1, none⟩) (by simp)]; simp [go_sem]
                  have c0 : w1.cell? ⟨g, 0, none⟩ = some (.string P0) := by have := hcell 0 P0 (by rw [← HP0.out]; rfl); simpa using this
                  have c1 : w1.cell? ⟨g, 1, none⟩ = some (.string P1) := by have := hcell 1 P1 (by rw [← HP1.out]; rfl); simpa using this
                  clear hcell hst hcap
                  have hgn : g ≠ w1.heap.size := by omega
                  go_wp2_with (first | (go_at_call 97; (with_reducible refine (F0.out _).mono ?_); rintro e w' ⟨rfl, rfl⟩) | (go_at_call 97; (with_reducible refine (F1.out _).mono ?_); rintro e w' ⟨rfl, rfl⟩))
                  (go_at_call 61; refine (frGood_any _ _ _).mono ?_; rintro e w2 ⟨rfl, hb2⟩; obtain ⟨hc2, hf2⟩ := bcell hb2; have hB2 : Below w.heap.size w w2 := Below.trans (by repeat' (first | (with_reducible exact Below.refl _ _) | (with_reducible assumption) | (with_reducible refine Below.alloc ?_ ?_ _) | (with_reducible refine Below.drew ?_) | (with_reducible refine below_drewN ?_ _) | (with_reducible refine Below.setCell ?_ ?_ _) | go_size)) (hb2.mono (by go_size)); (have hs2 := hb2.size); (try simp at hs2); (try (have hl2 := Nat.lt_of_succ_le hs2)); (first | (have hz2 : w.heap.size < w2.heap.size := by omega) | (have hz2 : w.heap.size ≤ w2.heap.size := by omega)); (try (have hz1_2 : w1.heap.size < w2.heap.size := by omega)); (try (have hz3_2 : w3.heap.size < w2.heap.size := by omega)); (try (have hz4_2 : w4.heap.size < w2.heap.size := by omega)); (try (have hz5_2 : w5.heap.size < w2.heap.size := by omega)); (try (have hzc_2 : wc.heap.size < w2.heap.size := by omega)); (try (have hy1_2 : w.heap.size + 1 < w2.heap.size := by omega)); (try (have hy2_2 : w.heap.size + 2 < w2.heap.size := by omega)); (try (have hy3_2 : w.heap.size + 3 < w2.heap.size := by omega)); (have k2_0 : w2.cell? ⟨w.heap.size, 0, none⟩ = some (.int .i64 0) := by (rw [hb2.cell (by first | (simp; done) | (simp; omega) | omega)]; first | assumption | (simp [go_sem]; done) | (simp [*, go_sem]; done))); (have k2_1 : w2.cell? ⟨w.heap.size, 1, none⟩ = some (.int .i64 0) := by (rw [hb2.cell (by first | (simp; done) | (simp; omega) | omega)]; first | assumption | (simp [go_sem]; done) | (simp [*, go_sem]; done))); (have k2_2 : w2.frozen? ⟨w.heap.size, 0, none⟩ = false := by (rw [hb2.frozen (by first | (simp; done) | (simp; omega) | omega)]; first | assumption | (simp [go_sem]; done) | (simp [*, go_sem]; done))); (have k2_3 : w2.frozen? ⟨w.heap.size, 1, none⟩ = false := by (rw [hb2.frozen (by first | (simp; done) | (simp; omega) | omega)]; first | assumption | (simp [go_sem]; done) | (simp [*, go_sem]; done))); (have k2_4 : w2.cell? ⟨w1.heap.size, 0, none⟩ = some (.int .i64 r0) := by (rw [hb2.cell (by first | (simp; done) | (simp; omega) | omega)]; first | assumption | (simp [go_sem]; done) | (simp [*, go_sem]; done))); (have k2_5 : w2.cell? ⟨w1.heap.size, 1, none⟩ = some (.int .i64 r1) := by (rw [hb2.cell (by first | (simp; done) | (simp; omega) | omega)]; first | assumption | (simp [go_sem]; done) | (simp [*, go_sem]; done))))
                  rw [hfr]
                  go_wp2_with fail
                  (go_at_call 62; refine (HX.out _).mono ?_; rintro e w3 ⟨rfl, hb3⟩; obtain ⟨hc3, hf3⟩ := bcell hb3; have hB3 : Below w.heap.size w w3 := Below.trans (by repeat' (first | (with_reducible exact Below.refl _ _) | (with_reducible assumption) | (with_reducible refine Below.alloc ?_ ?_ _) | (with_reducible refine Below.drew ?_) | (with_reducible refine below_drewN ?_ _) | (with_reducible refine Below.setCell ?_ ?_ _) | go_size)) (hb3.mono (by go_size)); (have hs3 := hb3.size); (try simp at hs3); (try (have hl3 := Nat.lt_of_succ_le hs3)); (first | (have hz3 : w.heap.size < w3.heap.size := by omega) | (have hz3 : w.heap.size ≤ w3.heap.size := by omega)); (try (have hz1_3 : w1.heap.size < w3.heap.size := by omega)); (try (have hz2_3 : w2.heap.size < w3.heap.size := by omega)); (try (have hz4_3 : w4.heap.size < w3.heap.size := by omega)); (try (have hz5_3 : w5.heap.size < w3.heap.size := by omega)); (try (have hzc_3 : wc.heap.size < w3.heap.size := by omega)); (try (have hy1_3 : w.heap.size + 1 < w3.heap.size := by omega)); (try (have hy2_3 : w.heap.size + 2 < w3.heap.size := by omega)); (try (have hy3_3 : w.heap.size + 3 < w3.heap.size := by omega)); (have k3_0 : w3.cell? ⟨w.heap.size, 0, none⟩ = some (.int .i64 0) := by (rw [hb3.cell (by first | (simp; done) | (simp; omega) | omega)]; first | assumption | (simp [go_sem]; done) | (simp [*, go_sem]; done))); (have k3_1 : w3.cell? ⟨w.heap.size, 1, none⟩ = some (.int .i64 0) := by (rw [hb3.cell (by first | (simp; done) | (simp; omega) | omega)]; first | assumption | (simp [go_sem]; done) | (simp [*, go_sem]; done))); (have k3_2 : w3.frozen? ⟨w.heap.size, 0, none⟩ = false := by (rw [hb3.frozen (by first | (simp; done) | (simp; omega) | omega)]; first | assumption | (simp [go_sem]; done) | (simp [*, go_sem]; done))); (have k3_3 : w3.frozen? ⟨w.heap.size, 1, none⟩ = false := by (rw [hb3.frozen (by first | (simp; done) | (simp; omega) | omega)]; first | assumption | (simp [go_sem]; done) | (simp [*, go_sem]; done))); (have k3_4 : w3.cell? ⟨w1.heap.size, 0, none⟩ = some (.int .i64 r0) := by (rw [hb3.cell (by first | (simp; done) | (simp; omega) | omega)]; first | assumption | (simp [go_sem]; done) | (simp [*, go_sem]; done))); (have k3_5 : w3.cell? ⟨w1.heap.size, 1, none⟩ = some (.int .i64 r1) := by (rw [hb3.cell (by first | (simp; done) | (simp; omega) | omega)]; first | assumption | (simp [go_sem]; done) | (simp [*, go_sem]; done))))
                  go_wp2
                  refine bodyPost_ret (by simp [results, Tryd.results56, go_sem, *]; try rfl) rfl ?_
                  exact ⟨ret_frac (s := s) HN.out.2.1.symm HN.out.2.2.symm HN.out.1.symm, by repeat' (first | (with_reducible exact Below.refl _ _) | (with_reducible assumption) | (with_reducible refine Below.alloc ?_ ?_ _) | (with_reducible refine Below.drew ?_) | (with_reducible refine below_drewN ?_ _) | (with_reducible refine Below.setCell ?_ ?_ _) | go_size)⟩
              · have HN := Lib.hid (pf_no (HNO.out (fun h => by rw [hfr] at h; cases h)))
                go_enter Tryd.func56, Tryd.ntmps56
                go_wp2_with fail
                (go_at_call 96; (with_reducible refine (HSp.out _).mono ?_); rintro e w1 ⟨v, rfl, hst, hb1⟩)
                obtain ⟨g, cap, rfl, hg, hcap, hcell⟩ := hst.shape (by simp)
                have hB1 : Below w.heap.size w w1 := Below.trans (by (repeat' (first | (with_reducible exact Below.refl _ _) | (with_reducible assumption) | (with_reducible refine Below.alloc ?_ ?_ _) | (with_reducible refine Below.drew ?_) | (with_reducible refine below_drewN ?_ _) | (with_reducible refine Below.setCell ?_ ?_ _) | go_size))) (hb1.mono (by go_size))
                have hs1 := hb1.size
                (try simp at hs1)
                have hz1 : w.heap.size < w1.heap.size := by omega
                have k1_0 : w1.cell? ⟨w.heap.size, 0, none⟩ = some (.int .i64 0) := by rw [hb1.cell (p := ⟨w.heap.size, 0, none⟩) (by simp)]; simp [go_sem]
                have f1_0 : w1.frozen? ⟨w.heap.size, 0, none⟩ = false := by rw [hb1.frozen (p := ⟨w.heap.size, 0, none⟩) (by simp)]; simp [go_sem]
                have k1_1 : w1.cell? ⟨w.heap.size, 1, none⟩ = some (.int .i64 0) := by rw [hb1.cell (p := ⟨w.heap.size, 1, none⟩) (by simp)]; simp [go_sem]
                have f1_1 : w1.frozen? ⟨w.heap.size, 1, none⟩ = false := by rw [hb1.frozen (p := ⟨w.heap.size, 1, none⟩) (by simp)]; simp [go_sem]
                have c0 : w1.cell? ⟨g, 0, none⟩ = some (.string P0) := by have := hcell 0 P0 (by rw [← HP0.out]; rfl); simpa using this
                have c1 : w1.cell? ⟨g, 1, none⟩ = some (.string P1) := by have := hcell 1 P1 (by rw [← HP1.out]; rfl); simpa using this
                clear hcell hst hcap
                have hgn : g ≠ w1.heap.size := by omega
                go_wp2_with (first | (go_at_call 97; (with_reducible refine (F0.out _).mono ?_); rintro e w' ⟨rfl, rfl⟩) | (go_at_call 97; (with_reducible refine (F1.out _).mono ?_); rintro e w' ⟨rfl, rfl⟩))
                (go_at_call 61; refine (frGood_any _ _ _).mono ?_; rintro e w2 ⟨rfl, hb2⟩; obtain ⟨hc2, hf2⟩ := bcell hb2; have hB2 : Below w.heap.size w w2 := Below.trans (by repeat' (first | (with_reducible exact Below.refl _ _) | (with_reducible assumption) | (with_reducible refine Below.alloc ?_ ?_ _) | (with_reducible refine Below.drew ?_) | (with_reducible refine below_drewN ?_ _) | (with_reducible refine Below.setCell ?_ ?_ _) | go_size)) (hb2.mono (by go_size)); (have hs2 := hb2.size); (try simp at hs2); (try (have hl2 := Nat.lt_of_succ_le hs2)); (first | (have hz2 : w.heap.size < w2.heap.size := by omega) | (have hz2 : w.heap.size ≤ w2.heap.size := by omega)); (try (have hz1_2 : w1.heap.size < w2.heap.size := by omega)); (try (have hz3_2 : w3.heap.size < w2.heap.size := by omega)); (try (have hz4_2 : w4.heap.size < w2.heap.size := by omega)); (try (have hz5_2 : w5.heap.size < w2.heap.size := by omega)); (try (have hzc_2 : wc.heap.size < w2.heap.size := by omega)); (try (have hy1_2 : w.heap.size + 1 < w2.heap.size := by omega)); (try (have hy2_2 : w.heap.size + 2 < w2.heap.size := by omega)); (try (have hy3_2 : w.heap.size + 3 < w2.heap.size := by omega)); (have k2_0 : w2.cell? ⟨w.heap.size, 0, none⟩ = some (.int .i64 0) := by (rw [hb2.cell (by first | (simp; done) | (simp; omega) | omega)]; first | assumption | (simp [go_sem]; done) | (simp [*, go_sem]; done))); (have k2_1 : w2.cell? ⟨w.heap.size, 1, none⟩ = some (.int .i64 0) := by (rw [hb2.cell (by first | (simp; done) | (simp; omega) | omega)]; first | assumption | (simp [go_sem]; done) | (simp [*, go_sem]; done))); (have k2_2 : w2.frozen? ⟨w.heap.size, 0, none⟩ = false := by (rw [hb2.frozen (by first | (simp; done) | (simp; omega) | omega)]; first | assumption | (simp [go_sem]; done) | (simp [*, go_sem]; done))); (have k2_3 : w2.frozen? ⟨w.heap.size, 1, none⟩ = false := by (rw [hb2.frozen (by first | (simp; done) | (simp; omega) | omega)]; first | assumption | (simp [go_sem]; done) | (simp [*, go_sem]; done))); (have k2_4 : w2.cell? ⟨w1.heap.size, 0, none⟩ = some (.int .i64 r0) := by (rw [hb2.cell (by first | (simp; done) | (simp; omega) | omega)]; first | assumption | (simp [go_sem]; done) | (simp [*, go_sem]; done))); (have k2_5 : w2.cell? ⟨w1.heap.size, 1, none⟩ = some (.int .i64 r1) := by (rw [hb2.cell (by first | (simp; done) | (simp; omega) | omega)]; first | assumption | (simp [go_sem]; done) | (simp [*, go_sem]; done))))
                rw [hfr]
                go_wp2
                refine bodyPost_ret (by simp [results, Tryd.results56, go_sem, *]; try rfl) rfl ?_
                exact ⟨ret_frac (s := s) HN.out.2.1.symm HN.out.2.2.symm HN.out.1.symm, by repeat' (first | (with_reducible exact Below.refl _ _) | (with_reducible assumption) | (with_reducible refine Below.alloc ?_ ?_ _) | (with_reducible refine Below.drew ?_) | (with_reducible refine below_drewN ?_ _) | (with_reducible refine Below.setCell ?_ ?_ _) | go_size)⟩
        | cons t ps =>
          have HN := Lib.hid (pf_no (spec_many (s := s) (by rw [HPS.out]; simp)))
          have hpn : p :: q :: t :: ps ≠ [] := by simp
          have hm3 : 3 ≤ ((p :: q :: t :: ps).map bsOf).length := by simp
          go_enter Tryd.func56, Tryd.ntmps56
          go_wp2_with fail
          (go_at_call 96; (with_reducible refine (HSp.out _).mono ?_); rintro e w1 ⟨v, rfl, hst, hb1⟩)
          obtain ⟨g, cap, hv, hg, hcap, hcell⟩ := hst.shape (by simp)
          obtain ⟨m, hm⟩ : ∃ m, ((p :: q :: t :: ps).map bsOf).length = m := ⟨_, rfl⟩
          rw [hm] at hv
          subst hv
          have hB1 : Below w.heap.size w w1 := Below.trans (by (repeat' (first | (with_reducible exact Below.refl _ _) | (with_reducible assumption) | (with_reducible refine Below.alloc ?_ ?_ _) | (with_reducible refine Below.drew ?_) | (with_reducible refine below_drewN ?_ _) | (with_reducible refine Below.setCell ?_ ?_ _) | go_size))) (hb1.mono (by go_size))
          have hs1 := hb1.size
          (try simp at hs1)
          have hz1 : w.heap.size < w1.heap.size := by omega
          have k1_0 : w1.cell? ⟨w.heap.size, 0, none⟩ = some (.int .i64 0) := by rw [hb1.cell (p := ⟨w.heap.size, 0, none⟩) (by simp)]; simp [go_sem]
          have f1_0 : w1.frozen? ⟨w.heap.size, 0, none⟩ = false := by rw [hb1.frozen (p := ⟨w.heap.size, 0, none⟩) (by simp)]; simp [go_sem]
          have k1_1 : w1.cell? ⟨w.heap.size, 1, none⟩ = some (.int .i64 0) := by rw [hb1.cell (p := ⟨w.heap.size, 1, none⟩) (by simp)]; simp [go_sem]
          have f1_1 : w1.frozen? ⟨w.heap.size, 1, none⟩ = false := by rw [hb1.frozen (p := ⟨w.heap.size, 1, none⟩) (by simp)]; simp [go_sem]
          have hm4 : (2 : Int) < (m : Int) := by omega
          clear hcell hst hcap hm hm3
          go_wp2
          refine bodyPost_ret (by simp [results, Tryd.results56, go_sem, *]; try rfl) rfl ?_
          exact ⟨ret_frac (s := s) HN.out.2.1.symm HN.out.2.2.symm HN.out.1.symm, by repeat' (first | (with_reducible exact Below.refl _ _) | (with_reducible assumption) | (with_reducible refine Below.alloc ?_ ?_ _) | (with_reducible refine Below.drew ?_) | (with_reducible refine below_drewN ?_ _) | (with_reducible refine Below.setCell ?_ ?_ _) | go_size)⟩
theorem ParseFraction_spec (s : List UInt8) (hl : s.length ≤ 1048576) (w : World) :
    Calls Tryd.prog 18 #[.string (bsOf s)] w fun e w' => e = .returned (.tuple #[.agg #[.int .i64 (pfN s), .int .i64 (pfE s)], .bool (pfB s)]) ∧ Below w.heap.size w w' := by
  have HC := Lib.hid (fun w => frParse_any s hl w)
  obtain ⟨S, HS⟩ : ∃ S, Hid (bsOf s = S) := ⟨_, Lib.hid rfl⟩
  obtain ⟨n, Hn⟩ : ∃ n, Hid (pfN s = n) := ⟨_, Lib.hid rfl⟩
  obtain ⟨d, Hd⟩ : ∃ d, Hid (pfE s = d) := ⟨_, Lib.hid rfl⟩
  obtain ⟨b, Hb⟩ : ∃ b, Hid (pfB s = b) := ⟨_, Lib.hid rfl⟩
  rw [HS.out, Hn.out, Hd.out, Hb.out] at HC ⊢
  go_enter Tryd.func18, Tryd.ntmps18
  go_wp2_with fail
  (go_at_call 56; refine (HC.out _).mono ?_; rintro e w1 ⟨rfl, hb1⟩; obtain ⟨hc1, hf1⟩ := bcell hb1; have hB1 : Below w.heap.size w w1 := Below.trans (by repeat' (first | (with_reducible exact Below.refl _ _) | (with_reducible assumption) | (with_reducible refine Below.alloc ?_ ?_ _) | (with_reducible refine Below.drew ?_) | (with_reducible refine below_drewN ?_ _) | (with_reducible refine Below.setCell ?_ ?_ _) | go_size)) (hb1.mono (by go_size)); (have hs1 := hb1.size); (try simp at hs1); (try (have hl1 := Nat.lt_of_succ_le hs1)); (first | (have hz1 : w.heap.size < w1.heap.size := by omega) | (have hz1 : w.heap.size ≤ w1.heap.size := by omega)); (try (have hz2_1 : w2.heap.size < w1.heap.size := by omega)); (try (have hz3_1 : w3.heap.size < w1.heap.size := by omega)); (try (have hz4_1 : w4.heap.size < w1.heap.size := by omega)); (try (have hz5_1 : w5.heap.size < w1.heap.size := by omega)); (try (have hzc_1 : wc.heap.size < w1.heap.size := by omega)); (try (have hy1_1 : w.heap.size + 1 < w1.heap.size := by omega)); (try (have hy2_1 : w.heap.size + 2 < w1.heap.size := by omega)); (try (have hy3_1 : w.heap.size + 3 < w1.heap.size := by omega)); (have k1_0 : w1.cell? ⟨w.heap.size, 0, none⟩ = some (.int .i64 0) := by (rw [hb1.cell (by first | (simp; done) | (simp; omega) | omega)]; first | assumption | (simp [go_sem]; done) | (simp [*, go_sem]; done))); (have k1_1 : w1.cell? ⟨w.heap.size, 1, none⟩ = some (.int .i64 0) := by (rw [hb1.cell (by first | (simp; done) | (simp; omega) | omega)]; first | assumption | (simp [go_sem]; done) | (simp [*, go_sem]; done))); (have k1_2 : w1.frozen? ⟨w.heap.size, 0, none⟩ = false := by (rw [hb1.frozen (by first | (simp; done) | (simp; omega) | omega)]; first | assumption | (simp [go_sem]; done) | (simp [*, go_sem]; done))); (have k1_3 : w1.frozen? ⟨w.heap.size, 1, none⟩ = false := by (rw [hb1.frozen (by first | (simp; done) | (simp; omega) | omega)]; first | assumption | (simp [go_sem]; done) | (simp [*, go_sem]; done))))
  go_wp2
  refine bodyPost_ret (by simp [results, Tryd.results18, go_sem, *]; try rfl) rfl ?_
  exact ⟨rfl, by repeat' (first | (with_reducible exact Below.refl _ _) | (with_reducible assumption) | (with_reducible refine Below.alloc ?_ ?_ _) | (with_reducible refine Below.drew ?_) | (with_reducible refine below_drewN ?_ _) | (with_reducible refine Below.setCell ?_ ?_ _) | go_size)⟩
end Go.Proofs.YtklhmaegpejdbaaDoor
