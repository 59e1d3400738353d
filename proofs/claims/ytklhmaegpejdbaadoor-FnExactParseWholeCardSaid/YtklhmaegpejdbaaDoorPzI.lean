/- impl.ParseWhole. -/
import Derived.Test.YtklhmaegpejdbaaDoorPzH
namespace Go.Proofs.YtklhmaegpejdbaaDoor
open Go.RowKit
set_option linter.unusedVariables false
set_option linter.unusedSimpArgs false
set_option maxRecDepth 100000
set_option maxHeartbeats 8000000 in
theorem ParseWhole_impl (s : List UInt8) (hl : s.length ≤ 1048576) (w : World) (ht : Tab w) :
    Calls Tryd.prog 10 #[.string (bsOf s)] w fun e w' => ∃ A c, e = .returned (.tuple #[.agg #[.bool (wneg (pwZ s)), .slice A (wlimbs (pwZ s)).length c], .bool (pwB s)]) ∧ Nums w' w.heap.size (.slice A (wlimbs (pwZ s)).length c) (wlimbs (pwZ s)) ∧ Below w.heap.size w w' := by
  have HT := Lib.hid ht
  clear ht
  obtain ⟨i0, hi, hz0, hz1, hz2⟩ := info_parts infoInt
  have hps := pw_size s
  have hpd : (pwD s).length ≤ s.length := by omega
  clear hps
  obtain ⟨S, HS⟩ : ∃ S, Hid (bsOf s = S) := ⟨_, Lib.hid rfl⟩
  obtain ⟨D, HDl⟩ : ∃ D, Hid (pwD s = D) := ⟨_, Lib.hid rfl⟩
  obtain ⟨DB, HDB⟩ : ∃ DB, Hid (bsOf D = DB) := ⟨_, Lib.hid rfl⟩
  obtain ⟨neg, HN⟩ : ∃ neg, Hid (pwN s = neg) := ⟨_, Lib.hid rfl⟩
  rw [HDl.out] at hpd
  have hds : DB.size = D.length := by rw [← HDB.out, bsOf_size]
  have HC : Hid (∀ w, Calls Tryd.prog 47 #[.string S, .string ⟨#[45]⟩] w fun e w' => e = .returned (.tuple #[.string DB, .bool neg]) ∧ w' = w) := Lib.hid (fun w => by rw [← HS.out, ← HDB.out, ← HDl.out, ← HN.out]; exact cut_prefix s w)
  rw [HS.out]
  by_cases hlen : 1 ≤ D.length ∧ D.length ≤ 1600
  · skip
    obtain ⟨hlo, hhi⟩ := hlen
    have l1 : ((DB.size : Int) == 0) = false := beq_false_of_ne (by omega)
    have l2 : ¬ (1600 : Int) < (DB.size : Int) := by omega
    have HDS := Lib.hid hds
    clear hds
    go_enter Tryd.func10, Tryd.ntmps10
    go_wp2_with (go_at_call 47; refine (HC.out _).mono ?_; rintro e w' ⟨rfl, rfl⟩)
    go_loopw [7] (fun i wr => ∃ (z : Int) (ys : List Int) (v : Value), i = .int .i64 z ∧ -4 < z ∧ z ≤ DB.size ∧ Hid (Reads D ys z) ∧ Hid (Nums wr (w.heap.size + 2) v ys) ∧ Hid (Below w.heap.size w wr) ∧ w.heap.size + 2 ≤ wr.heap.size ∧ Hid (BoxAt wr w.heap.size (.bool false) (.slice none 0 0)) ∧ Hid (BoxAt wr (w.heap.size + 1) (.bool neg) v)) (fun i _ => (intOf i).toNat)
    case atStart => exact ⟨_, [], _, rfl, by omega, by omega, Reads.start D _ (by rw [HDS.out]), Lib.hid (Nums.nil _ _), Lib.hid (by (repeat' (first | (with_reducible exact Below.refl _ _) | (with_reducible assumption) | (with_reducible refine Below.alloc ?_ ?_ _) | (with_reducible refine Below.drew ?_) | (with_reducible refine below_drewN ?_ _) | (with_reducible refine Below.setCell ?_ ?_ _) | go_size))), by simp, Lib.hid (by simp [BoxAt, go_sem]), Lib.hid (by simp [BoxAt, go_sem])⟩
    case round =>
      obtain ⟨z, ys, v, rfl, hz3, hz4, HR, HNu, HB, hsz, HB0, HB1⟩ := hrel
      by_cases hzp : 0 < z
      · obtain ⟨e, rfl⟩ := Int.eq_ofNat_of_zero_le (show 0 ≤ z by omega)
        have heD : e ≤ D.length := by have := HDS.out; omega
        obtain ⟨l, HL⟩ : ∃ l, Hid (chunk D e = l) := ⟨_, Lib.hid rfl⟩
        have hll : l.length ≤ 4 := by rw [← HL.out, chunk_length heD]; omega
        have hlen1 : 4 * ys.length ≤ D.length + 4 := HR.out.len
        obtain ⟨X0, HX0⟩ : ∃ X0, Hid (DB.extract (e - 4) e = X0) := ⟨_, Lib.hid rfl⟩
        obtain ⟨w1, cp, hcv, hb1, hs1, hcell⟩ := conv_bytes l X0 (by rw [← HX0.out, ← HDB.out, ← HL.out]; exact sub_chunk D e _ rfl) wr
        have HCE := Lib.hid hcell
        have HBB := Lib.hid (HB.out.trans (hb1.mono HB.out.size))
        have HN1 := Lib.hid (HNu.out.below hb1)
        have HX := Lib.hid (HB0.out.below hb1 (by omega))
        have HY := Lib.hid (HB1.out.below hb1 (by omega))
        have hsz1 : w.heap.size + 2 ≤ w1.heap.size := by omega
        have hsz2 : wr.heap.size < w1.heap.size := by omega
        clear hs1
        obtain ⟨x0, x1, x2, x3⟩ := HX.out
        obtain ⟨y0, y1, y2, y3⟩ := HY.out
        have hbw := HBB.out
        clear hcell hb1
        by_cases h4 : 4 ≤ e
        · skip
          have c1 : (e : Int) - 4 = ((e - 4 : Nat) : Int) := by omega
          obtain ⟨p, hp⟩ : ∃ p, e - 4 = p := ⟨_, rfl⟩
          rw [hp] at c1 HX0
          have hpe : (p : Int) ≤ (e : Int) := by omega
          have hpe2 : ¬ (p : Int) < 0 := by omega
          have hE := HX0.out
          have HP := Lib.hid hp
          clear hp
          go_wp2
          go_loop [41, 8] (fun i x => ∃ (j : Nat) (X : Int), j ≤ l.length ∧ i = .int .i64 j ∧ x = .int .i64 X ∧ Hid (X = numV (l.take j)) ∧ Hid (AllDg (l.take j)) ∧ 0 ≤ X ∧ X ≤ 9999) (fun i _ => l.length - (intOf i).toNat)
          case atStart => exact ⟨0, 0, by omega, rfl, rfl, Lib.hid rfl, Lib.hid AllDg.nil, by omega, by omega⟩
          case round =>
            obtain ⟨j, X, hj, rfl, rfl, HXv, HA, X0', X1'⟩ := hrel
            by_cases hjl : j < l.length
            · obtain ⟨b, hb⟩ : ∃ b, l[j]? = some b := ⟨_, List.getElem?_eq_getElem hjl⟩
              have hcb := HCE.out j b hb
              have HBt := Lib.hid hb
              have d0 : (0 : Int) ≤ (j : Int) := by omega
              have d1 : (j : Int) < (l.length : Int) := by omega
              have d2 : (b.toNat : Int) < 256 := by have := b.toNat_lt; omega
              have HDat : Hid ((pwD s)[e - 4 + j]? = some b) := Lib.hid (by rw [HDl.out]; exact chunk_at heD (by rw [HL.out]; exact hb))
              clear hb
              by_cases hblt : (b.toNat : Int) < 48
              · have HF := Lib.hid (pwB_dig HDat.out (not_dg_lt hblt))
                go_wp2
                refine bodyPost_ret (by simp [results, Tryd.results10, go_sem, *]; try rfl) rfl ?_
                exact fail_ret HF.out (by repeat' (first | (with_reducible exact Below.refl _ _) | (with_reducible assumption) | (with_reducible refine Below.alloc ?_ ?_ _) | (with_reducible refine Below.drew ?_) | (with_reducible refine below_drewN ?_ _) | (with_reducible refine Below.setCell ?_ ?_ _) | go_size)) rfl
              · skip
                by_cases hbgt : 57 < (b.toNat : Int)
                · have HF := Lib.hid (pwB_dig HDat.out (not_dg_gt hbgt))
                  go_wp2
                  refine bodyPost_ret (by simp [results, Tryd.results10, go_sem, *]; try rfl) rfl ?_
                  exact fail_ret HF.out (by repeat' (first | (with_reducible exact Below.refl _ _) | (with_reducible assumption) | (with_reducible refine Below.alloc ?_ ?_ _) | (with_reducible refine Below.drew ?_) | (with_reducible refine below_drewN ?_ _) | (with_reducible refine Below.setCell ?_ ?_ _) | go_size)) rfl
                · skip
                  have hdg : isDg b = true := isDg_iff.2 ⟨by omega, by omega⟩
                  have HXn := Lib.hid (show numV (l.take (j + 1)) = 10 * X + ((b.toNat : Int) - 48) by rw [take_snoc HBt.out, numV_snoc, ← HXv.out]; rfl)
                  have HAn : Hid (AllDg (l.take (j + 1))) := Lib.hid (by rw [take_snoc HBt.out]; exact HA.out.append (AllDg.one hdg))
                  have hr := numV_four HAn.out (by rw [List.length_take]; omega)
                  rw [HXn.out] at hr
                  have f1 : IntKind.u8.wrap ((b.toNat : Int) - 48) = (b.toNat : Int) - 48 := u8_in _ (by omega) (by omega)
                  have HXm : Hid (10 * X + ((b.toNat : Int) - 48) = numV (l.take (j + 1))) := Lib.hid HXn.out.symm
                  have HAm := HAn
                  clear HXn hdg HAn
                  go_wp2
                  go_round
                  case rel => exact ⟨j + 1, _, by omega, by go_num, rfl, HXm, HAm, by omega, by omega⟩
                  case measure => simp [intOf]; omega
            · obtain rfl : j = l.length := by omega
              have HXl := Lib.hid (show X = numV (chunk D e) by rw [HXv.out, List.take_length, HL.out])
              have HAl : Hid (AllDg (chunk D e)) := Lib.hid (by rw [HL.out]; have := HA.out; rwa [List.take_length] at this)
              have HRn := Lib.hid (HR.out.next (by omega) heD HAl.out)
              rw [← HXl.out] at HRn
              have HO := Lib.hid (show w1.ownsRow (w.heap.size + 2) 3 1 v ys.length (ys.map (Value.int .i64)) from HN1.out)
              clear HXv HXl
              go_wp2_with (at_builtin; refine wpList_append_own _ rfl _ _ 22 rfl (w.heap.size + 2) 3 i0 (.int .i64 0) 1 8 underInts hi hz0 hz1 hz2 rfl (by decide) _ _ _ rfl (World.ownsRow.alloc HO.out _) ⟨w1.heap.size, 0, none⟩ 1 1 [.int .i64 X] rfl rfl (one_at _ _ rfl) (one_cell _) (by unfold maxLen; omega) (by omega) (by simp; omega) ?_; intro v' w2 hown' hgrow _; refine Hid.out ?_)
              have R := nums_step HN1.out HBB.out (show w.heap.size ≤ w.heap.size + 2 by omega) (by omega) hown' hgrow
              have R1 := Lib.hid R.1
              have R2 := Lib.hid R.2
              have Z0 := Lib.hid (HX.out.step HN1.out (show w.heap.size < w.heap.size + 2 by omega) (by omega) hgrow)
              have Z1 := Lib.hid (HY.out.step HN1.out (show w.heap.size + 1 < w.heap.size + 2 by omega) (by omega) hgrow)
              have Z2 : w.heap.size + 2 ≤ w2.heap.size := by have := hgrow.size; simp at this; omega
              obtain ⟨A', c', hv'⟩ : ∃ A' c', v' = .slice A' (ys.length + 1) c' := by obtain ⟨A', c', h⟩ := R1.out.slice; exact ⟨A', c', by rw [h]; simp⟩
              clear R hown' hgrow
              subst hv'
              refine Lib.hid ?_
              obtain ⟨p0, p1, p2, p3⟩ := Z1.out
              have Y0 := Lib.hid (BoxAt.set0 (u := .bool false) (v := .slice none 0 0) (o := 1) (v' := .slice A' (ys.length + 1) c') Z0.out (show w.heap.size ≠ w.heap.size + 1 by omega))
              have Y1 := Lib.hid (BoxAt.set1 (v' := .slice A' (ys.length + 1) c') Z1.out)
              have R3 := Lib.hid (R1.out.setBelow (a := ⟨w.heap.size + 1, 1, none⟩) (show w.heap.size + 1 < w.heap.size + 2 by omega) (.slice A' (ys.length + 1) c'))
              have R4 := Lib.hid (R2.out.setCell (p := ⟨w.heap.size + 1, 1, none⟩) (show w.heap.size ≤ w.heap.size + 1 by omega) (.slice A' (ys.length + 1) c'))
              go_wp2
              go_roundw
              case rel => exact ⟨_, _, _, by go_num, by omega, by omega, HRn, R3, R4, by simpa using Z2, Y0, Y1⟩
              case measure => simp [intOf]; omega
        · skip
          obtain ⟨y, c1⟩ : ∃ y : Int, (e : Int) - 4 = y := ⟨_, rfl⟩
          have hpe : y < 0 := by omega
          have hpe0 : -4 ≤ y := by omega
          have hmx : max y 0 = 0 := by omega
          have hp : e - 4 = 0 := by omega
          rw [hp] at HX0
          have hE := HX0.out
          have HP := Lib.hid hp
          clear hp
          go_wp2
          go_loop [41, 8] (fun i x => ∃ (j : Nat) (X : Int), j ≤ l.length ∧ i = .int .i64 j ∧ x = .int .i64 X ∧ Hid (X = numV (l.take j)) ∧ Hid (AllDg (l.take j)) ∧ 0 ≤ X ∧ X ≤ 9999) (fun i _ => l.length - (intOf i).toNat)
          case atStart => exact ⟨0, 0, by omega, rfl, rfl, Lib.hid rfl, Lib.hid AllDg.nil, by omega, by omega⟩
          case round =>
            obtain ⟨j, X, hj, rfl, rfl, HXv, HA, X0', X1'⟩ := hrel
            by_cases hjl : j < l.length
            · obtain ⟨b, hb⟩ : ∃ b, l[j]? = some b := ⟨_, List.getElem?_eq_getElem hjl⟩
              have hcb := HCE.out j b hb
              have HBt := Lib.hid hb
              have d0 : (0 : Int) ≤ (j : Int) := by omega
              have d1 : (j : Int) < (l.length : Int) := by omega
              have d2 : (b.toNat : Int) < 256 := by have := b.toNat_lt; omega
              have HDat : Hid ((pwD s)[e - 4 + j]? = some b) := Lib.hid (by rw [HDl.out]; exact chunk_at heD (by rw [HL.out]; exact hb))
              clear hb
              by_cases hblt : (b.toNat : Int) < 48
              · have HF := Lib.hid (pwB_dig HDat.out (not_dg_lt hblt))
                go_wp2
                refine bodyPost_ret (by simp [results, Tryd.results10, go_sem, *]; try rfl) rfl ?_
                exact fail_ret HF.out (by repeat' (first | (with_reducible exact Below.refl _ _) | (with_reducible assumption) | (with_reducible refine Below.alloc ?_ ?_ _) | (with_reducible refine Below.drew ?_) | (with_reducible refine below_drewN ?_ _) | (with_reducible refine Below.setCell ?_ ?_ _) | go_size)) rfl
              · skip
                by_cases hbgt : 57 < (b.toNat : Int)
                · have HF := Lib.hid (pwB_dig HDat.out (not_dg_gt hbgt))
                  go_wp2
                  refine bodyPost_ret (by simp [results, Tryd.results10, go_sem, *]; try rfl) rfl ?_
                  exact fail_ret HF.out (by repeat' (first | (with_reducible exact Below.refl _ _) | (with_reducible assumption) | (with_reducible refine Below.alloc ?_ ?_ _) | (with_reducible refine Below.drew ?_) | (with_reducible refine below_drewN ?_ _) | (with_reducible refine Below.setCell ?_ ?_ _) | go_size)) rfl
                · skip
                  have hdg : isDg b = true := isDg_iff.2 ⟨by omega, by omega⟩
                  have HXn := Lib.hid (show numV (l.take (j + 1)) = 10 * X + ((b.toNat : Int) - 48) by rw [take_snoc HBt.out, numV_snoc, ← HXv.out]; rfl)
                  have HAn : Hid (AllDg (l.take (j + 1))) := Lib.hid (by rw [take_snoc HBt.out]; exact HA.out.append (AllDg.one hdg))
                  have hr := numV_four HAn.out (by rw [List.length_take]; omega)
                  rw [HXn.out] at hr
                  have f1 : IntKind.u8.wrap ((b.toNat : Int) - 48) = (b.toNat : Int) - 48 := u8_in _ (by omega) (by omega)
                  have HXm : Hid (10 * X + ((b.toNat : Int) - 48) = numV (l.take (j + 1))) := Lib.hid HXn.out.symm
                  have HAm := HAn
                  clear HXn hdg HAn
                  go_wp2
                  go_round
                  case rel => exact ⟨j + 1, _, by omega, by go_num, rfl, HXm, HAm, by omega, by omega⟩
                  case measure => simp [intOf]; omega
            · obtain rfl : j = l.length := by omega
              have HXl := Lib.hid (show X = numV (chunk D e) by rw [HXv.out, List.take_length, HL.out])
              have HAl : Hid (AllDg (chunk D e)) := Lib.hid (by rw [HL.out]; have := HA.out; rwa [List.take_length] at this)
              have HRn := Lib.hid (HR.out.next (by omega) heD HAl.out)
              rw [← HXl.out] at HRn
              have HO := Lib.hid (show w1.ownsRow (w.heap.size + 2) 3 1 v ys.length (ys.map (Value.int .i64)) from HN1.out)
              clear HXv HXl
              go_wp2_with (at_builtin; refine wpList_append_own _ rfl _ _ 22 rfl (w.heap.size + 2) 3 i0 (.int .i64 0) 1 8 underInts hi hz0 hz1 hz2 rfl (by decide) _ _ _ rfl (World.ownsRow.alloc HO.out _) ⟨w1.heap.size, 0, none⟩ 1 1 [.int .i64 X] rfl rfl (one_at _ _ rfl) (one_cell _) (by unfold maxLen; omega) (by omega) (by simp; omega) ?_; intro v' w2 hown' hgrow _; refine Hid.out ?_)
              have R := nums_step HN1.out HBB.out (show w.heap.size ≤ w.heap.size + 2 by omega) (by omega) hown' hgrow
              have R1 := Lib.hid R.1
              have R2 := Lib.hid R.2
              have Z0 := Lib.hid (HX.out.step HN1.out (show w.heap.size < w.heap.size + 2 by omega) (by omega) hgrow)
              have Z1 := Lib.hid (HY.out.step HN1.out (show w.heap.size + 1 < w.heap.size + 2 by omega) (by omega) hgrow)
              have Z2 : w.heap.size + 2 ≤ w2.heap.size := by have := hgrow.size; simp at this; omega
              obtain ⟨A', c', hv'⟩ : ∃ A' c', v' = .slice A' (ys.length + 1) c' := by obtain ⟨A', c', h⟩ := R1.out.slice; exact ⟨A', c', by rw [h]; simp⟩
              clear R hown' hgrow
              subst hv'
              refine Lib.hid ?_
              obtain ⟨p0, p1, p2, p3⟩ := Z1.out
              have Y0 := Lib.hid (BoxAt.set0 (u := .bool false) (v := .slice none 0 0) (o := 1) (v' := .slice A' (ys.length + 1) c') Z0.out (show w.heap.size ≠ w.heap.size + 1 by omega))
              have Y1 := Lib.hid (BoxAt.set1 (v' := .slice A' (ys.length + 1) c') Z1.out)
              have R3 := Lib.hid (R1.out.setBelow (a := ⟨w.heap.size + 1, 1, none⟩) (show w.heap.size + 1 < w.heap.size + 2 by omega) (.slice A' (ys.length + 1) c'))
              have R4 := Lib.hid (R2.out.setCell (p := ⟨w.heap.size + 1, 1, none⟩) (show w.heap.size ≤ w.heap.size + 1 by omega) (.slice A' (ys.length + 1) c'))
              go_wp2
              go_roundw
              case rel => exact ⟨_, _, _, by go_num, by omega, by omega, HRn, R3, R4, by simpa using Z2, Y0, Y1⟩
              case measure => simp [intOf]; omega
      · obtain ⟨hys, hall⟩ := HR.out.done (show z ≤ 0 by omega)
        obtain ⟨L, HLL⟩ : ∃ L, Hid (pwL s = L) := ⟨_, Lib.hid rfl⟩
        have hyL : ys = L := by rw [← HLL.out]; unfold pwL; rw [HDl.out]; exact hys
        subst hyL
        have HAD : Hid (AllDg (pwD s)) := Lib.hid (by rw [HDl.out]; exact hall)
        have hl1 : 1 ≤ (pwD s).length := by rw [HDl.out]; exact hlo
        have hl2 : (pwD s).length ≤ 1600 := by rw [HDl.out]; exact hhi
        have HLen := Lib.hid (pwL_len s)
        have hyl : 1 ≤ ys.length ∧ ys.length ≤ 400 := by have := HLen.out; rw [HLL.out] at this; omega
        have HDig := Lib.hid (pwL_Dig HAD.out)
        rw [HLL.out] at HDig
        have HPB := Lib.hid (pwB_all hl1 hl2 HAD.out)
        have HBad : Hid (goodB neg (keepL ys) = false → pwTx s ≠ s) := Lib.hid (fun h => pw_bad HAD.out hl1 hl2 (by rw [HN.out, HLL.out]; exact h))
        have HGood : Hid (goodB neg (keepL ys) = true → neg = wneg (pwV s) ∧ keepL ys = wlimbs (pwV s)) := Lib.hid (fun h => by rw [← HN.out, ← HLL.out] at h ⊢; exact pw_good h)
        obtain ⟨g, c, hv, hg0, hg1, hgc, hgf⟩ : ∃ g c, v = .slice (some ⟨g, 0, none⟩) ys.length c ∧ w.heap.size + 2 ≤ g ∧ g < wr.heap.size ∧ (∀ (k : Nat) (x : Int), ys[k]? = some x → wr.cell? ⟨g, k, none⟩ = some (.int .i64 x)) ∧ ∀ k, wr.frozen? ⟨g, k, none⟩ = false := by
          rcases HNu.out.shape with ⟨_, e⟩ | h
          · rw [e] at hyl; simp at hyl
          · exact h
        rw [hv] at HNu HB1
        clear hv
        have HGC := Lib.hid hgc
        obtain ⟨x0, x1, x2, x3⟩ := HB0.out
        obtain ⟨y0, y1, y2, y3⟩ := HB1.out
        have hbw := HB.out
        obtain ⟨hyl0, hyl1⟩ := hyl
        clear hgc hgf hys hall
        by_cases hone : ys.length = 1
        · obtain ⟨x, HY0⟩ : ∃ x, Hid (ys = [x]) := by obtain ⟨x, hx⟩ := List.length_eq_one_iff.1 hone; exact ⟨x, Lib.hid hx⟩
          have hcx := HGC.out 0 x (by rw [HY0.out]; rfl)
          have e1 : ((ys.length : Int) == 1) = true := by rw [hone]; rfl
          have HONE := Lib.hid hone
          have hy1 : (0 : Int) < (ys.length : Int) := by omega
          clear hone
          by_cases hx0 : x = 0
          · subst hx0
            have HK := Lib.hid (show keepL ys = [] by unfold keepL; rw [if_pos HY0.out])
            rw [HK.out] at HBad HGood
            have Y0 := Lib.hid (BoxAt.set0 (u := .bool false) (v := .slice none 0 0) (o := 1) (v' := .slice none 0 0) HB0.out (show w.heap.size ≠ w.heap.size + 1 by omega))
            have Y1 := Lib.hid (BoxAt.set1 (v' := .slice none 0 0) HB1.out)
            obtain ⟨wq, hwq⟩ : ∃ wq, wr.setCell ⟨w.heap.size + 1, 1, none⟩ (.slice none 0 0) = wq := ⟨_, rfl⟩
            have HBq : Hid (Below w.heap.size w wq) := Lib.hid (by rw [← hwq]; exact HB.out.setCell (p := ⟨w.heap.size + 1, 1, none⟩) (show w.heap.size ≤ w.heap.size + 1 by omega) _)
            have hszq : w.heap.size + 2 ≤ wq.heap.size := by rw [← hwq]; simpa using hsz
            rw [hwq] at Y0 Y1
            obtain ⟨q0, q1, q2, q3⟩ := Y0.out
            obtain ⟨r0, r1, r2, r3⟩ := Y1.out
            have hh : Hid (Holds wq (.slice none 0 0) []) := Lib.hid (.inl ⟨rfl, none, 0, rfl, fun _ => rfl⟩)
            have hbq := HBq.out
            have HW : Hid (∀ w', Below wq.heap.size wq w' → Calls Tryd.prog 48 #[.agg #[.bool neg, .slice none 0 0]] w' fun e w2 => e = .returned (.bool (goodB neg ([] : List Int))) ∧ Below w'.heap.size w' w2) := Lib.hid (fun w' hb => isWhole_any neg (xs := ([] : List Int)) (hh.out.below hb) (by simp))
            rcases Bool.eq_false_or_eq_true (goodB neg ([] : List Int)) with hgd | hgd
            · obtain ⟨t1, t2⟩ := HGood.out hgd
              obtain ⟨g1, g2, g3⟩ := good_parts hgd
              have HT1 := Lib.hid t1
              have HT2 := Lib.hid t2
              obtain ⟨tx, HTX⟩ : ∃ tx, Hid (bsOf (wtL neg ([] : List Int)) = tx) := ⟨_, Lib.hid rfl⟩
              have HPT := Lib.hid (show tx = bsOf (pwTx s) by rw [← HTX.out]; unfold pwTx; rw [← HT1.out, ← HT2.out])
              have HX : Hid (∀ w', Below wq.heap.size wq w' → Calls Tryd.prog 49 #[.agg #[.bool neg, .slice none 0 0]] w' fun e w2 => e = .returned (.string tx) ∧ Below w'.heap.size w' w2) := Lib.hid (fun w' hb => by rw [← HTX.out]; exact wholeText_any neg (xs := ([] : List Int)) (hh.out.below hb) (by simp) g2 g3 (HT.out.below (HBq.out.trans (hb.mono HBq.out.size))))
              rw [hgd] at HW
              clear g2 g3 t1 t2 hgd HBad HGood
              have hcmp : (tx.toList == S.toList) = decide (pwTx s = s) := by rw [HPT.out, ← HS.out]; exact str_same _ _
              rcases Classical.em (pwTx s = s) with hts | hts
              · rw [decide_eq_true hts] at hcmp
                have HOK := Lib.hid (show pwB s = true by rw [HPB.out]; exact decide_eq_true hts)
                clear hts
                go_wp2_with fail
                (go_at_call 48; (with_reducible refine (HW.out _ (by (repeat' (first | (with_reducible exact Below.refl _ _) | (with_reducible assumption) | (with_reducible refine Below.alloc ?_ ?_ _) | (with_reducible refine Below.drew ?_) | (with_reducible refine below_drewN ?_ _) | (with_reducible refine Below.setCell ?_ ?_ _) | go_size)))).mono ?_); rintro e w5 ⟨rfl, hb5⟩)
                have V0 := Lib.hid ((Y0).out.below hb5 (by omega))
                have V1 := Lib.hid ((Y1).out.below hb5 (by omega))
                have hbb5 := Lib.hid ((HBq).out.trans (hb5.mono (HBq).out.size))
                have hs5 := hb5.size
                obtain ⟨a0, a1, a2, a3⟩ := V0.out
                obtain ⟨b0, b1, b2, b3⟩ := V1.out
                go_wp2_with fail
                (go_at_call 49; (with_reducible refine (HX.out _ (by (repeat' (first | (with_reducible exact Below.refl _ _) | (with_reducible assumption) | (with_reducible refine Below.alloc ?_ ?_ _) | (with_reducible refine Below.drew ?_) | (with_reducible refine below_drewN ?_ _) | (with_reducible refine Below.setCell ?_ ?_ _) | go_size)))).mono ?_); rintro e w6 ⟨rfl, hb6⟩)
                have V2 := Lib.hid (V0.out.below hb6 (by omega))
                have V3 := Lib.hid (V1.out.below hb6 (by omega))
                have hbb6 := Lib.hid (hbb5.out.trans (hb6.mono hbb5.out.size))
                have hs6 := hb6.size
                obtain ⟨c0, c1, c2, c3⟩ := V2.out
                obtain ⟨e0, e1, e2, e3⟩ := V3.out
                have hbw6 := hbb6.out
                clear hb5 hb6
                go_wp2
                refine bodyPost_ret (by simp [results, Tryd.results10, go_sem, *]; try rfl) rfl ?_
                exact ok_ret (xs := []) HOK.out HT1.out HT2.out (Nums.nil _ _) (by repeat' (first | (with_reducible exact Below.refl _ _) | (with_reducible assumption) | (with_reducible refine Below.alloc ?_ ?_ _) | (with_reducible refine Below.drew ?_) | (with_reducible refine below_drewN ?_ _) | (with_reducible refine Below.setCell ?_ ?_ _) | go_size)) rfl
              · rw [decide_eq_false hts] at hcmp
                have HOK := Lib.hid (show pwB s = false by rw [HPB.out]; exact decide_eq_false hts)
                clear hts
                go_wp2_with fail
                (go_at_call 48; (with_reducible refine (HW.out _ (by (repeat' (first | (with_reducible exact Below.refl _ _) | (with_reducible assumption) | (with_reducible refine Below.alloc ?_ ?_ _) | (with_reducible refine Below.drew ?_) | (with_reducible refine below_drewN ?_ _) | (with_reducible refine Below.setCell ?_ ?_ _) | go_size)))).mono ?_); rintro e w5 ⟨rfl, hb5⟩)
                have V0 := Lib.hid ((Y0).out.below hb5 (by omega))
                have V1 := Lib.hid ((Y1).out.below hb5 (by omega))
                have hbb5 := Lib.hid ((HBq).out.trans (hb5.mono (HBq).out.size))
                have hs5 := hb5.size
                obtain ⟨a0, a1, a2, a3⟩ := V0.out
                obtain ⟨b0, b1, b2, b3⟩ := V1.out
                go_wp2_with fail
                (go_at_call 49; (with_reducible refine (HX.out _ (by (repeat' (first | (with_reducible exact Below.refl _ _) | (with_reducible assumption) | (with_reducible refine Below.alloc ?_ ?_ _) | (with_reducible refine Below.drew ?_) | (with_reducible refine below_drewN ?_ _) | (with_reducible refine Below.setCell ?_ ?_ _) | go_size)))).mono ?_); rintro e w6 ⟨rfl, hb6⟩)
                have V2 := Lib.hid (V0.out.below hb6 (by omega))
                have V3 := Lib.hid (V1.out.below hb6 (by omega))
                have hbb6 := Lib.hid (hbb5.out.trans (hb6.mono hbb5.out.size))
                have hs6 := hb6.size
                obtain ⟨c0, c1, c2, c3⟩ := V2.out
                obtain ⟨e0, e1, e2, e3⟩ := V3.out
                have hbw6 := hbb6.out
                clear hb5 hb6
                go_wp2
                refine bodyPost_ret (by simp [results, Tryd.results10, go_sem, *]; try rfl) rfl ?_
                exact fail_ret HOK.out (by repeat' (first | (with_reducible exact Below.refl _ _) | (with_reducible assumption) | (with_reducible refine Below.alloc ?_ ?_ _) | (with_reducible refine Below.drew ?_) | (with_reducible refine below_drewN ?_ _) | (with_reducible refine Below.setCell ?_ ?_ _) | go_size)) rfl
            · have HOK := Lib.hid (show pwB s = false by rw [HPB.out]; exact decide_eq_false (HBad.out hgd))
              rw [hgd] at HW
              clear hgd HBad HGood
              go_wp2_with fail
              (go_at_call 48; (with_reducible refine (HW.out _ (by (repeat' (first | (with_reducible exact Below.refl _ _) | (with_reducible assumption) | (with_reducible refine Below.alloc ?_ ?_ _) | (with_reducible refine Below.drew ?_) | (with_reducible refine below_drewN ?_ _) | (with_reducible refine Below.setCell ?_ ?_ _) | go_size)))).mono ?_); rintro e w5 ⟨rfl, hb5⟩)
              have V0 := Lib.hid ((Y0).out.below hb5 (by omega))
              have hbb5 := Lib.hid ((HBq).out.trans (hb5.mono (HBq).out.size))
              obtain ⟨a0, a1, a2, a3⟩ := V0.out
              have hbw5 := hbb5.out
              clear hb5
              go_wp2
              refine bodyPost_ret (by simp [results, Tryd.results10, go_sem, *]; try rfl) rfl ?_
              exact fail_ret HOK.out (by repeat' (first | (with_reducible exact Below.refl _ _) | (with_reducible assumption) | (with_reducible refine Below.alloc ?_ ?_ _) | (with_reducible refine Below.drew ?_) | (with_reducible refine below_drewN ?_ _) | (with_reducible refine Below.setCell ?_ ?_ _) | go_size)) rfl
          · have hx1 : (x == 0) = false := beq_false_of_ne hx0
            have HK := Lib.hid (show keepL ys = ys by unfold keepL; rw [if_neg (by rw [HY0.out]; intro e; cases e; exact hx0 rfl)])
            rw [HK.out] at HBad HGood
            have hh : Hid (Holds wr (.slice (some ⟨g, 0, none⟩) ys.length c) ys) := Lib.hid HNu.out.holds
            have HW : Hid (∀ w', Below wr.heap.size wr w' → Calls Tryd.prog 48 #[.agg #[.bool neg, .slice (some ⟨g, 0, none⟩) ys.length c]] w' fun e w2 => e = .returned (.bool (goodB neg ys)) ∧ Below w'.heap.size w' w2) := Lib.hid (fun w' hb => isWhole_any neg (xs := ys) (hh.out.below hb) (by omega))
            rcases Bool.eq_false_or_eq_true (goodB neg ys) with hgd | hgd
            · obtain ⟨t1, t2⟩ := HGood.out hgd
              obtain ⟨g1, g2, g3⟩ := good_parts hgd
              have HT1 := Lib.hid t1
              have HT2 := Lib.hid t2
              obtain ⟨tx, HTX⟩ : ∃ tx, Hid (bsOf (wtL neg ys) = tx) := ⟨_, Lib.hid rfl⟩
              have HPT := Lib.hid (show tx = bsOf (pwTx s) by rw [← HTX.out]; unfold pwTx; rw [← HT1.out, ← HT2.out])
              have HX : Hid (∀ w', Below wr.heap.size wr w' → Calls Tryd.prog 49 #[.agg #[.bool neg, .slice (some ⟨g, 0, none⟩) ys.length c]] w' fun e w2 => e = .returned (.string tx) ∧ Below w'.heap.size w' w2) := Lib.hid (fun w' hb => by rw [← HTX.out]; exact wholeText_any neg (xs := ys) (hh.out.below hb) (by omega) g2 g3 (HT.out.below (HB.out.trans (hb.mono HB.out.size))))
              rw [hgd] at HW
              clear g2 g3 t1 t2 hgd HBad HGood
              have hcmp : (tx.toList == S.toList) = decide (pwTx s = s) := by rw [HPT.out, ← HS.out]; exact str_same _ _
              rcases Classical.em (pwTx s = s) with hts | hts
              · rw [decide_eq_true hts] at hcmp
                have HOK := Lib.hid (show pwB s = true by rw [HPB.out]; exact decide_eq_true hts)
                clear hts
                go_wp2_with fail
                (go_at_call 48; (with_reducible refine (HW.out _ (by (repeat' (first | (with_reducible exact Below.refl _ _) | (with_reducible assumption) | (with_reducible refine Below.alloc ?_ ?_ _) | (with_reducible refine Below.drew ?_) | (with_reducible refine below_drewN ?_ _) | (with_reducible refine Below.setCell ?_ ?_ _) | go_size)))).mono ?_); rintro e w5 ⟨rfl, hb5⟩)
                have V0 := Lib.hid ((HB0).out.below hb5 (by omega))
                have V1 := Lib.hid ((HB1).out.below hb5 (by omega))
                have hbb5 := Lib.hid ((HB).out.trans (hb5.mono (HB).out.size))
                have hs5 := hb5.size
                obtain ⟨a0, a1, a2, a3⟩ := V0.out
                obtain ⟨b0, b1, b2, b3⟩ := V1.out
                go_wp2_with fail
                (go_at_call 49; (with_reducible refine (HX.out _ (by (repeat' (first | (with_reducible exact Below.refl _ _) | (with_reducible assumption) | (with_reducible refine Below.alloc ?_ ?_ _) | (with_reducible refine Below.drew ?_) | (with_reducible refine below_drewN ?_ _) | (with_reducible refine Below.setCell ?_ ?_ _) | go_size)))).mono ?_); rintro e w6 ⟨rfl, hb6⟩)
                have V2 := Lib.hid (V0.out.below hb6 (by omega))
                have V3 := Lib.hid (V1.out.below hb6 (by omega))
                have hbb6 := Lib.hid (hbb5.out.trans (hb6.mono hbb5.out.size))
                have hs6 := hb6.size
                obtain ⟨c0, c1, c2, c3⟩ := V2.out
                obtain ⟨e0, e1, e2, e3⟩ := V3.out
                have HNN := Lib.hid ((HNu.out.below hb5).below hb6)
                have hbw6 := hbb6.out
                clear hb5 hb6
                go_wp2
                refine bodyPost_ret (by simp [results, Tryd.results10, go_sem, *]; try rfl) rfl ?_
                exact ok_ret HOK.out HT1.out HT2.out (((HNN.out.setBelow (a := ⟨w.heap.size, 0, none⟩) (show w.heap.size < w.heap.size + 2 by omega) _).setBelow (a := ⟨w.heap.size, 1, none⟩) (show w.heap.size < w.heap.size + 2 by omega) _).mono (by omega)) (by repeat' (first | (with_reducible exact Below.refl _ _) | (with_reducible assumption) | (with_reducible refine Below.alloc ?_ ?_ _) | (with_reducible refine Below.drew ?_) | (with_reducible refine below_drewN ?_ _) | (with_reducible refine Below.setCell ?_ ?_ _) | go_size)) rfl
              · rw [decide_eq_false hts] at hcmp
                have HOK := Lib.hid (show pwB s = false by rw [HPB.out]; exact decide_eq_false hts)
                clear hts
                go_wp2_with fail
                (go_at_call 48; (with_reducible refine (HW.out _ (by (repeat' (first | (with_reducible exact Below.refl _ _) | (with_reducible assumption) | (with_reducible refine Below.alloc ?_ ?_ _) | (with_reducible refine Below.drew ?_) | (with_reducible refine below_drewN ?_ _) | (with_reducible refine Below.setCell ?_ ?_ _) | go_size)))).mono ?_); rintro e w5 ⟨rfl, hb5⟩)
                have V0 := Lib.hid ((HB0).out.below hb5 (by omega))
                have V1 := Lib.hid ((HB1).out.below hb5 (by omega))
                have hbb5 := Lib.hid ((HB).out.trans (hb5.mono (HB).out.size))
                have hs5 := hb5.size
                obtain ⟨a0, a1, a2, a3⟩ := V0.out
                obtain ⟨b0, b1, b2, b3⟩ := V1.out
                go_wp2_with fail
                (go_at_call 49; (with_reducible refine (HX.out _ (by (repeat' (first | (with_reducible exact Below.refl _ _) | (with_reducible assumption) | (with_reducible refine Below.alloc ?_ ?_ _) | (with_reducible refine Below.drew ?_) | (with_reducible refine below_drewN ?_ _) | (with_reducible refine Below.setCell ?_ ?_ _) | go_size)))).mono ?_); rintro e w6 ⟨rfl, hb6⟩)
                have V2 := Lib.hid (V0.out.below hb6 (by omega))
                have V3 := Lib.hid (V1.out.below hb6 (by omega))
                have hbb6 := Lib.hid (hbb5.out.trans (hb6.mono hbb5.out.size))
                have hs6 := hb6.size
                obtain ⟨c0, c1, c2, c3⟩ := V2.out
                obtain ⟨e0, e1, e2, e3⟩ := V3.out
                have hbw6 := hbb6.out
                clear hb5 hb6
                go_wp2
                refine bodyPost_ret (by simp [results, Tryd.results10, go_sem, *]; try rfl) rfl ?_
                exact fail_ret HOK.out (by repeat' (first | (with_reducible exact Below.refl _ _) | (with_reducible assumption) | (with_reducible refine Below.alloc ?_ ?_ _) | (with_reducible refine Below.drew ?_) | (with_reducible refine below_drewN ?_ _) | (with_reducible refine Below.setCell ?_ ?_ _) | go_size)) rfl
            · have HOK := Lib.hid (show pwB s = false by rw [HPB.out]; exact decide_eq_false (HBad.out hgd))
              rw [hgd] at HW
              clear hgd HBad HGood
              go_wp2_with fail
              (go_at_call 48; (with_reducible refine (HW.out _ (by (repeat' (first | (with_reducible exact Below.refl _ _) | (with_reducible assumption) | (with_reducible refine Below.alloc ?_ ?_ _) | (with_reducible refine Below.drew ?_) | (with_reducible refine below_drewN ?_ _) | (with_reducible refine Below.setCell ?_ ?_ _) | go_size)))).mono ?_); rintro e w5 ⟨rfl, hb5⟩)
              have V0 := Lib.hid ((HB0).out.below hb5 (by omega))
              have hbb5 := Lib.hid ((HB).out.trans (hb5.mono (HB).out.size))
              obtain ⟨a0, a1, a2, a3⟩ := V0.out
              have hbw5 := hbb5.out
              clear hb5
              go_wp2
              refine bodyPost_ret (by simp [results, Tryd.results10, go_sem, *]; try rfl) rfl ?_
              exact fail_ret HOK.out (by repeat' (first | (with_reducible exact Below.refl _ _) | (with_reducible assumption) | (with_reducible refine Below.alloc ?_ ?_ _) | (with_reducible refine Below.drew ?_) | (with_reducible refine below_drewN ?_ _) | (with_reducible refine Below.setCell ?_ ?_ _) | go_size)) rfl
        · have hne : ys.length ≠ 1 := hone
          have e1 : ((ys.length : Int) == 1) = false := beq_false_of_ne (by omega)
          have HK := Lib.hid (show keepL ys = ys by unfold keepL; rw [if_neg (by intro e; rw [e] at hne; simp at hne)])
          rw [HK.out] at HBad HGood
          have hh : Hid (Holds wr (.slice (some ⟨g, 0, none⟩) ys.length c) ys) := Lib.hid HNu.out.holds
          have HW : Hid (∀ w', Below wr.heap.size wr w' → Calls Tryd.prog 48 #[.agg #[.bool neg, .slice (some ⟨g, 0, none⟩) ys.length c]] w' fun e w2 => e = .returned (.bool (goodB neg ys)) ∧ Below w'.heap.size w' w2) := Lib.hid (fun w' hb => isWhole_any neg (xs := ys) (hh.out.below hb) (by omega))
          rcases Bool.eq_false_or_eq_true (goodB neg ys) with hgd | hgd
          · obtain ⟨t1, t2⟩ := HGood.out hgd
            obtain ⟨g1, g2, g3⟩ := good_parts hgd
            have HT1 := Lib.hid t1
            have HT2 := Lib.hid t2
            obtain ⟨tx, HTX⟩ : ∃ tx, Hid (bsOf (wtL neg ys) = tx) := ⟨_, Lib.hid rfl⟩
            have HPT := Lib.hid (show tx = bsOf (pwTx s) by rw [← HTX.out]; unfold pwTx; rw [← HT1.out, ← HT2.out])
            have HX : Hid (∀ w', Below wr.heap.size wr w' → Calls Tryd.prog 49 #[.agg #[.bool neg, .slice (some ⟨g, 0, none⟩) ys.length c]] w' fun e w2 => e = .returned (.string tx) ∧ Below w'.heap.size w' w2) := Lib.hid (fun w' hb => by rw [← HTX.out]; exact wholeText_any neg (xs := ys) (hh.out.below hb) (by omega) g2 g3 (HT.out.below (HB.out.trans (hb.mono HB.out.size))))
            rw [hgd] at HW
            clear g2 g3 t1 t2 hgd HBad HGood
            have hcmp : (tx.toList == S.toList) = decide (pwTx s = s) := by rw [HPT.out, ← HS.out]; exact str_same _ _
            rcases Classical.em (pwTx s = s) with hts | hts
            · rw [decide_eq_true hts] at hcmp
              have HOK := Lib.hid (show pwB s = true by rw [HPB.out]; exact decide_eq_true hts)
              clear hts
              go_wp2_with fail
              (go_at_call 48; (with_reducible refine (HW.out _ (by (repeat' (first | (with_reducible exact Below.refl _ _) | (with_reducible assumption) | (with_reducible refine Below.alloc ?_ ?_ _) | (with_reducible refine Below.drew ?_) | (with_reducible refine below_drewN ?_ _) | (with_reducible refine Below.setCell ?_ ?_ _) | go_size)))).mono ?_); rintro e w5 ⟨rfl, hb5⟩)
              have V0 := Lib.hid ((HB0).out.below hb5 (by omega))
              have V1 := Lib.hid ((HB1).out.below hb5 (by omega))
              have hbb5 := Lib.hid ((HB).out.trans (hb5.mono (HB).out.size))
              have hs5 := hb5.size
              obtain ⟨a0, a1, a2, a3⟩ := V0.out
              obtain ⟨b0, b1, b2, b3⟩ := V1.out
              go_wp2_with fail
              (go_at_call 49; (with_reducible refine (HX.out _ (by (repeat' (first | (with_reducible exact Below.refl _ _) | (with_reducible assumption) | (with_reducible refine Below.alloc ?_ ?_ _) | (with_reducible refine Below.drew ?_) | (with_reducible refine below_drewN ?_ _) | (with_reducible refine Below.setCell ?_ ?_ _) | go_size)))).mono ?_); rintro e w6 ⟨rfl, hb6⟩)
              have V2 := Lib.hid (V0.out.below hb6 (by omega))
              have V3 := Lib.hid (V1.out.below hb6 (by omega))
              have hbb6 := Lib.hid (hbb5.out.trans (hb6.mono hbb5.out.size))
              have hs6 := hb6.size
              obtain ⟨c0, c1, c2, c3⟩ := V2.out
              obtain ⟨e0, e1, e2, e3⟩ := V3.out
              have HNN := Lib.hid ((HNu.out.below hb5).below hb6)
              have hbw6 := hbb6.out
              clear hb5 hb6
              go_wp2
              refine bodyPost_ret (by simp [results, Tryd.results10, go_sem, *]; try rfl) rfl ?_
              exact ok_ret HOK.out HT1.out HT2.out (((HNN.out.setBelow (a := ⟨w.heap.size, 0, none⟩) (show w.heap.size < w.heap.size + 2 by omega) _).setBelow (a := ⟨w.heap.size, 1, none⟩) (show w.heap.size < w.heap.size + 2 by omega) _).mono (by omega)) (by repeat' (first | (with_reducible exact Below.refl _ _) | (with_reducible assumption) | (with_reducible refine Below.alloc ?_ ?_ _) | (with_reducible refine Below.drew ?_) | (with_reducible refine below_drewN ?_ _) | (with_reducible refine Below.setCell ?_ ?_ _) | go_size)) rfl
            · rw [decide_eq_false hts] at hcmp
              have HOK := Lib.hid (show pwB s = false by rw [HPB.out]; exact decide_eq_false hts)
              clear hts
              go_wp2_with fail
              (go_at_call 48; (with_reducible refine (HW.out _ (by (repeat' (first | (with_reducible exact Below.refl _ _) | (with_reducible assumption) | (with_reducible refine Below.alloc ?_ ?_ _) | (with_reducible refine Below.drew ?_) | (with_reducible refine below_drewN ?_ _) | (with_reducible refine Below.setCell ?_ ?_ _) | go_size)))).mono ?_); rintro e w5 ⟨rfl, hb5⟩)
              have V0 := Lib.hid ((HB0).out.below hb5 (by omega))
              have V1 := Lib.hid ((HB1).out.below hb5 (by omega))
              have hbb5 := Lib.hid ((HB).out.trans (hb5.mono (HB).out.size))
              have hs5 := hb5.size
              obtain ⟨a0, a1, a2, a3⟩ := V0.out
              obtain ⟨b0, b1, b2, b3⟩ := V1.out
              go_wp2_with fail
              (go_at_call 49; (with_reducible refine (HX.out _ (by (repeat' (first | (with_reducible exact Below.refl _ _) | (with_reducible assumption) | (with_reducible refine Below.alloc ?_ ?_ _) | (with_reducible refine Below.drew ?_) | (with_reducible refine below_drewN ?_ _) | (with_reducible refine Below.setCell ?_ ?_ _) | go_size)))).mono ?_); rintro e w6 ⟨rfl, hb6⟩)
              have V2 := Lib.hid (V0.out.below hb6 (by omega))
              have V3 := Lib.hid (V1.out.below hb6 (by omega))
              have hbb6 := Lib.hid (hbb5.out.trans (hb6.mono hbb5.out.size))
              have hs6 := hb6.size
              obtain ⟨c0, c1, c2, c3⟩ := V2.out
              obtain ⟨e0, e1, e2, e3⟩ := V3.out
              have hbw6 := hbb6.out
              clear hb5 hb6
              go_wp2
              refine bodyPost_ret (by simp [results, Tryd.results10, go_sem, *]; try rfl) rfl ?_
              exact fail_ret HOK.out (by repeat' (first | (with_reducible exact Below.refl _ _) | (with_reducible assumption) | (with_reducible refine Below.alloc ?_ ?_ _) | (with_reducible refine Below.drew ?_) | (with_reducible refine below_drewN ?_ _) | (with_reducible refine Below.setCell ?_ ?_ _) | go_size)) rfl
          · have HOK := Lib.hid (show pwB s = false by rw [HPB.out]; exact decide_eq_false (HBad.out hgd))
            rw [hgd] at HW
            clear hgd HBad HGood
            go_wp2_with fail
            (go_at_call 48; (with_reducible refine (HW.out _ (by (repeat' (first | (with_reducible exact Below.refl _ _) | (with_reducible assumption) | (with_reducible refine Below.alloc ?_ ?_ _) | (with_reducible refine Below.drew ?_) | (with_reducible refine below_drewN ?_ _) | (with_reducible refine Below.setCell ?_ ?_ _) | go_size)))).mono ?_); rintro e w5 ⟨rfl, hb5⟩)
            have V0 := Lib.hid ((HB0).out.below hb5 (by omega))
            have hbb5 := Lib.hid ((HB).out.trans (hb5.mono (HB).out.size))
            obtain ⟨a0, a1, a2, a3⟩ := V0.out
            have hbw5 := hbb5.out
            clear hb5
            go_wp2
            refine bodyPost_ret (by simp [results, Tryd.results10, go_sem, *]; try rfl) rfl ?_
            exact fail_ret HOK.out (by repeat' (first | (with_reducible exact Below.refl _ _) | (with_reducible assumption) | (with_reducible refine Below.alloc ?_ ?_ _) | (with_reducible refine Below.drew ?_) | (with_reducible refine below_drewN ?_ _) | (with_reducible refine Below.setCell ?_ ?_ _) | go_size)) rfl
  · have HF := Lib.hid (pwB_len (s := s) (by rw [HDl.out]; exact hlen))
    by_cases h0 : D.length = 0
    · have l1 : ((DB.size : Int) == 0) = true := by rw [hds, h0]; rfl
      go_enter Tryd.func10, Tryd.ntmps10
      go_wp2_with (go_at_call 47; refine (HC.out _).mono ?_; rintro e w' ⟨rfl, rfl⟩)
      refine bodyPost_ret (by simp [results, Tryd.results10, go_sem, *]; try rfl) rfl ?_
      exact fail_ret HF.out (by repeat' (first | (with_reducible exact Below.refl _ _) | (with_reducible assumption) | (with_reducible refine Below.alloc ?_ ?_ _) | (with_reducible refine Below.drew ?_) | (with_reducible refine below_drewN ?_ _) | (with_reducible refine Below.setCell ?_ ?_ _) | go_size)) rfl
    · have l1 : ((DB.size : Int) == 0) = false := beq_false_of_ne (by omega)
      have l2 : (1600 : Int) < (DB.size : Int) := by omega
      go_enter Tryd.func10, Tryd.ntmps10
      go_wp2_with (go_at_call 47; refine (HC.out _).mono ?_; rintro e w' ⟨rfl, rfl⟩)
      refine bodyPost_ret (by simp [results, Tryd.results10, go_sem, *]; try rfl) rfl ?_
      exact fail_ret HF.out (by repeat' (first | (with_reducible exact Below.refl _ _) | (with_reducible assumption) | (with_reducible refine Below.alloc ?_ ?_ _) | (with_reducible refine Below.drew ?_) | (with_reducible refine below_drewN ?_ _) | (with_reducible refine Below.setCell ?_ ?_ _) | go_size)) rfl
end Go.Proofs.YtklhmaegpejdbaaDoor
