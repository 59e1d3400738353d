/- spec.ParseWhole. -/
import Derived.Test.YtklhmaegpejdbaaDoorPzH
namespace Go.Proofs.YtklhmaegpejdbaaDoor
open Go.RowKit
set_option linter.unusedVariables false
set_option linter.unusedSimpArgs false
set_option maxRecDepth 100000
theorem pw_neg {s : List UInt8} (h : pwN s = true) : s = 45 :: pwD s := by have := pw_split s; rw [h, if_pos rfl] at this; exact this
theorem pw_pos {s : List UInt8} (h : pwN s = false) : pwD s = s := by have := pw_split s; rw [h] at this; exact this.symm
theorem pw_head {s : List UInt8} {b : UInt8} {l : List UInt8} (h : pwN s = false) (e : s = b :: l) : ((b.toNat : Int) == 45) = false := by
  refine beq_false_of_ne fun h2 => ?_
  have hb : b = 45 := by apply UInt8.toNat_inj.1; show b.toNat = 45; omega
  rw [e, hb] at h
  unfold pwN at h
  rw [cutM_neg] at h
  cases h
theorem ext_tail (l : List UInt8) (b : UInt8) : (bsOf (b :: l)).extract 1 (bsOf (b :: l)).size = bsOf l := by
  apply ByteArray.ext
  apply Array.toList_inj.1
  unfold bsOf
  rw [ByteArray.data_extract]
  simp [ByteArray.size]
theorem wl_nil {z : Int} (h : wlimbs z = []) : wneg z = false := by
  have := digs_nil h
  obtain rfl : z = 0 := by omega
  rfl
theorem tx_call {zz : Int} {tx : ByteArray} (H : Hid (bsOf (wtL (wneg zz) (wlimbs zz)) = tx)) {A : Option Addr} {c : Nat} {w : World} (h : Holds w (.slice A (wlimbs zz).length c) (wlimbs zz)) (hl : (wlimbs zz).length ≤ 1048576) :
    Calls Tryd.prog 46 #[.agg #[.bool (wneg zz), .slice A (wlimbs zz).length c]] w fun e w' => e = .returned (.string tx) ∧ Below w.heap.size w w' := by
  rw [← H.out]; exact bgText_any (wneg zz) h hl (wlimbs_Dig zz) wl_nil
/-- How spec begins: the sign is cut off. -/
structure Head (S DB : ByteArray) (neg : Bool) : Prop where
  yes : neg = true → 0 < S.size ∧ (∀ w : World, (Instr.index 9 (.string S) (.int .i64 0)).run Tryd.prog w = .ok (.int .u8 45) w) ∧ S.extract 1 S.size = DB
  no : neg = false → DB = S ∧ (S.size = 0 ∨ 0 < S.size ∧ ∃ b : UInt8, ((b.toNat : Int) == 45) = false ∧ ∀ w : World, (Instr.index 9 (.string S) (.int .i64 0)).run Tryd.prog w = .ok (.int .u8 (b.toNat : Int)) w)
theorem head_of (s : List UInt8) : Head (bsOf s) (bsOf (pwD s)) (pwN s) := by
  refine ⟨fun h => ?_, fun h => ?_⟩
  · have e := pw_neg h
    refine ⟨by rw [bsOf_size, e]; simp, fun w => ?_, ?_⟩
    · have := index_at s 0 45 (by rw [e]; rfl) w
      exact this
    · conv => lhs; rw [e]
      exact ext_tail _ _
  · refine ⟨by rw [pw_pos h], ?_⟩
    cases hs : s with
    | nil => exact .inl rfl
    | cons b l =>
      refine .inr ⟨by rw [bsOf_size]; simp, b, pw_head h hs, fun w => ?_⟩
      exact index_at (b :: l) 0 b rfl w
set_option maxHeartbeats 8000000 in
theorem ParseWhole_tail (s : List UInt8) (S DB : ByteArray) (D : List UInt8) (neg : Bool) (hl : s.length ≤ 1048576) (hS : bsOf s = S) (hD : pwD s = D) (hDB : bsOf D = DB) (hN : pwN s = neg) (w : World) :
    Calls Tryd.prog 9 #[.string S] w fun e w' => ∃ A c, e = .returned (.tuple #[.agg #[.bool (wneg (pwZ s)), .slice A (wlimbs (pwZ s)).length c], .bool (pwB s)]) ∧ Nums w' w.heap.size (.slice A (wlimbs (pwZ s)).length c) (wlimbs (pwZ s)) ∧ Below w.heap.size w w' := by
  have HS := Lib.hid hS
  have HDl := Lib.hid hD
  have HDB := Lib.hid hDB
  have HN := Lib.hid hN
  obtain ⟨i0, hi, hz0, hz1, hz2⟩ := info_parts infoInt
  have hps := pw_size s
  have hpd : D.length ≤ s.length := by rw [← hD]; omega
  have hss : S.size = s.length := by rw [← hS, bsOf_size]
  have hds : DB.size = D.length := by rw [← hDB, bsOf_size]
  have hng : decide ((DB.size : Int) < (S.size : Int)) = neg := by
    rw [hds, hss, ← hD, hps, hN]
    cases neg
    · exact decide_eq_false (by simp)
    · exact decide_eq_true (by simp; omega)
  have HH : Hid (Head S DB neg) := Lib.hid (by rw [← hS, ← hDB, ← hD, ← hN]; exact head_of s)
  have HNG := Lib.hid hng
  have HSS := Lib.hid hss
  have HDS := Lib.hid hds
  clear hS hD hDB hN hps hss hng
  by_cases hlen : 1 ≤ D.length ∧ D.length ≤ 1600
  · obtain ⟨hlo, hhi⟩ := hlen
    have hin : inB (DB.size : Int) 1 1600 = true := inB_iff.2 ⟨by omega, by omega⟩
    clear hds
    cases neg
    · obtain ⟨h0, h1⟩ := HH.out.no rfl
      subst h0
      rcases h1 with h1 | ⟨h1, b, hb, hx⟩
      · exfalso; have := HDS.out; omega
      · skip
        have h3 : (0 : Int) < (DB.size : Int) := by omega
        go_enter Tryd.func9, Tryd.ntmps9
        go_wp2_with (go_at_call 43; refine (l1In_any _ _ _ _).mono ?_; rintro e w' ⟨rfl, rfl⟩)
        go_loopw [5, 6] (fun v i wr => ∃ (z : Int) (ys : List Int), i = .int .i64 z ∧ -4 < z ∧ z ≤ DB.size ∧ Hid (Reads D ys z) ∧ Hid (Nums wr (w.heap.size + 1) v ys) ∧ Hid (Below w.heap.size w wr) ∧ w.heap.size + 1 ≤ wr.heap.size ∧ Hid (BoxAt wr w.heap.size (.bool false) (.slice none 0 0))) (fun _ i _ => (intOf i).toNat)
        case atStart => exact ⟨_, [], rfl, by omega, by omega, Reads.start D _ (by rw [HDS.out]), Lib.hid (Nums.nil _ _), Lib.hid (by (repeat' (first | (with_reducible exact Below.refl _ _) | (with_reducible assumption) | (with_reducible refine Below.alloc ?_ ?_ _) | (with_reducible refine Below.drew ?_) | (with_reducible refine below_drewN ?_ _) | (with_reducible refine Below.setCell ?_ ?_ _) | go_size))), by simp, Lib.hid (by simp [BoxAt, go_sem])⟩
        case round =>
          obtain ⟨z, ys, rfl, hz3, hz4, HR, HNu, HB, hsz, HB0⟩ := hrel
          by_cases hzp : 0 < z
          · obtain ⟨e, rfl⟩ := Int.eq_ofNat_of_zero_le (show 0 ≤ z by omega)
            have heD : e ≤ D.length := by have := HDS.out; omega
            obtain ⟨l, HL⟩ : ∃ l, Hid (chunk D e = l) := ⟨_, Lib.hid rfl⟩
            obtain ⟨p, hp⟩ : ∃ p, e - 4 = p := ⟨_, rfl⟩
            have hll : l.length = e - p := by rw [← HL.out, chunk_length heD, hp]
            have hlen1 : 4 * ys.length ≤ D.length + 4 := HR.out.len
            obtain ⟨x0, x1, x2, x3⟩ := HB0.out
            have hbw := HB.out
            have HLL := Lib.hid hll
            have HP := Lib.hid hp
            clear hll
            by_cases h4 : 4 ≤ e
            · skip
              have c1 : (e : Int) - 4 = (p : Int) := by omega
              have hmx : max 0 (p : Int) = (p : Int) := by omega
              clear hp
              go_wp2_with (go_at_call 44; refine (l1Most_any _ _ _).mono ?_; rintro e w' ⟨rfl, rfl⟩)
              go_loop [7, 8] (fun x i => ∃ (j q : Nat) (X : Int), j ≤ l.length ∧ Hid (q = p + j) ∧ i = .int .i64 (q : Int) ∧ q ≤ e ∧ x = .int .i64 X ∧ Hid (X = numV (l.take j)) ∧ Hid (AllDg (l.take j)) ∧ 0 ≤ X ∧ X ≤ 9999) (fun _ i => e - (intOf i).toNat)
              case atStart => exact ⟨0, p, 0, by omega, Lib.hid rfl, rfl, by have := HP.out; omega, rfl, Lib.hid rfl, Lib.hid AllDg.nil, by omega, by omega⟩
              case round =>
                obtain ⟨j, q, X, hj, HQ, rfl, hqe, rfl, HXv, HA, X0', X1'⟩ := hrel
                by_cases hjl : j < l.length
                · obtain ⟨b, hb⟩ : ∃ b, l[j]? = some b := ⟨_, List.getElem?_eq_getElem hjl⟩
                  have hDq : D[q]? = some b := by rw [HQ.out, ← HP.out]; exact chunk_at heD (by rw [HL.out]; exact hb)
                  have kx : ∀ w : World, (Instr.index 9 (.string DB) (.int .i64 (q : Int))).run Tryd.prog w = .ok (.int .u8 (b.toNat : Int)) w := fun w => by rw [← HDB.out]; exact index_at D q b hDq w
                  have HBt := Lib.hid hb
                  have d1 : (q : Int) < (e : Int) := by have h1 := HQ.out; have h2 := HLL.out; omega
                  have d2 : (b.toNat : Int) < 256 := by have := b.toNat_lt; omega
                  have HDat : Hid ((pwD s)[q]? = some b) := Lib.hid (by rw [HDl.out]; exact hDq)
                  clear hb hDq
                  by_cases hblt : (b.toNat : Int) < 48
                  · have HF := Lib.hid (pwB_dig HDat.out (not_dg_lt hblt))
                    go_wp2
                    refine bodyPost_ret (by simp [results, Tryd.results9, go_sem, *]; try rfl) rfl ?_
                    exact fail_ret HF.out (by repeat' (first | (with_reducible exact Below.refl _ _) | (with_reducible assumption) | (with_reducible refine Below.alloc ?_ ?_ _) | (with_reducible refine Below.drew ?_) | (with_reducible refine below_drewN ?_ _) | (with_reducible refine Below.setCell ?_ ?_ _) | go_size)) rfl
                  · skip
                    by_cases hbgt : 57 < (b.toNat : Int)
                    · have HF := Lib.hid (pwB_dig HDat.out (not_dg_gt hbgt))
                      go_wp2
                      refine bodyPost_ret (by simp [results, Tryd.results9, go_sem, *]; try rfl) rfl ?_
                      exact fail_ret HF.out (by repeat' (first | (with_reducible exact Below.refl _ _) | (with_reducible assumption) | (with_reducible refine Below.alloc ?_ ?_ _) | (with_reducible refine Below.drew ?_) | (with_reducible refine below_drewN ?_ _) | (with_reducible refine Below.setCell ?_ ?_ _) | go_size)) rfl
                    · skip
                      have hdg : isDg b = true := isDg_iff.2 ⟨by omega, by omega⟩
                      have HXn := Lib.hid (show numV (l.take (j + 1)) = 10 * X + ((b.toNat : Int) - 48) by rw [take_snoc HBt.out, numV_snoc, ← HXv.out]; rfl)
                      have HAn : Hid (AllDg (l.take (j + 1))) := Lib.hid (by rw [take_snoc HBt.out]; exact HA.out.append (AllDg.one hdg))
                      have hr := numV_four HAn.out (by rw [List.length_take]; have := HLL.out; have := HP.out; omega)
                      rw [HXn.out] at hr
                      have f1 : IntKind.u8.wrap ((b.toNat : Int) - 48) = (b.toNat : Int) - 48 := u8_in _ (by omega) (by omega)
                      have HXm : Hid (10 * X + ((b.toNat : Int) - 48) = numV (l.take (j + 1))) := Lib.hid HXn.out.symm
                      have HAm := HAn
                      have HQ2 : Hid (q + 1 = p + (j + 1)) := Lib.hid (by have := HQ.out; omega)
                      clear HXn hdg HAn
                      go_wp2
                      go_round
                      case rel => exact ⟨j + 1, q + 1, _, by omega, HQ2, by go_num, by omega, rfl, HXm, HAm, by omega, by omega⟩
                      case measure => simp [intOf]; omega
                · obtain rfl : j = l.length := by omega
                  have hqq : q = e := by have h1 := HQ.out; have h2 := HLL.out; have h3 := HP.out; omega
                  have d1 : ¬ (q : Int) < (e : Int) := by omega
                  have HXl := Lib.hid (show X = numV (chunk D e) by rw [HXv.out, List.take_length, HL.out])
                  have HAl : Hid (AllDg (chunk D e)) := Lib.hid (by rw [HL.out]; have := HA.out; rwa [List.take_length] at this)
                  have HRn := Lib.hid (HR.out.next (by omega) heD HAl.out)
                  rw [← HXl.out] at HRn
                  have HO := Lib.hid (show wr.ownsRow (w.heap.size + 1) 3 1 _ ys.length (ys.map (Value.int .i64)) from HNu.out)
                  clear HXv HXl hqq
                  go_wp2_with (at_builtin; refine wpList_append_own _ rfl _ _ 22 rfl (w.heap.size + 1) 3 i0 (.int .i64 0) 1 8 underInts hi hz0 hz1 hz2 rfl (by decide) _ _ _ rfl (World.ownsRow.alloc HO.out _) ⟨wr.heap.size, 0, none⟩ 1 1 [.int .i64 X] rfl rfl (one_at _ _ rfl) (one_cell _) (by unfold maxLen; omega) (by omega) (by simp; omega) ?_; intro v' w2 hown' hgrow _)
                  have R := nums_step HNu.out HB.out (Nat.le_succ _) (by omega) hown' hgrow
                  have R1 := Lib.hid R.1
                  have R2 := Lib.hid R.2
                  have Z0 := Lib.hid (HB0.out.step HNu.out (Nat.lt_succ_self _) (by omega) hgrow)
                  have Z2 : w.heap.size + 1 ≤ w2.heap.size := by have := hgrow.size; simp at this; omega
                  clear R hown' hgrow
                  go_wp2
                  go_roundw
                  case rel => exact ⟨_, _, by go_num, by omega, by omega, HRn, R1, R2, Z2, Z0⟩
                  case measure => simp [intOf]; omega
            · skip
              obtain ⟨y, c1⟩ : ∃ y : Int, (e : Int) - 4 = y := ⟨_, rfl⟩
              have hpe : y < 0 := by omega
              have hpe0 : -4 ≤ y := by omega
              have hmx : max 0 y = (p : Int) := by omega
              clear hp
              go_wp2_with (go_at_call 44; refine (l1Most_any _ _ _).mono ?_; rintro e w' ⟨rfl, rfl⟩)
              go_loop [7, 8] (fun x i => ∃ (j q : Nat) (X : Int), j ≤ l.length ∧ Hid (q = p + j) ∧ i = .int .i64 (q : Int) ∧ q ≤ e ∧ x = .int .i64 X ∧ Hid (X = numV (l.take j)) ∧ Hid (AllDg (l.take j)) ∧ 0 ≤ X ∧ X ≤ 9999) (fun _ i => e - (intOf i).toNat)
              case atStart => exact ⟨0, p, 0, by omega, Lib.hid rfl, rfl, by have := HP.out; omega, rfl, Lib.hid rfl, Lib.hid AllDg.nil, by omega, by omega⟩
              case round =>
                obtain ⟨j, q, X, hj, HQ, rfl, hqe, rfl, HXv, HA, X0', X1'⟩ := hrel
                by_cases hjl : j < l.length
                · obtain ⟨b, hb⟩ : ∃ b, l[j]? = some b := ⟨_, List.getElem?_eq_getElem hjl⟩
                  have hDq : D[q]? = some b := by rw [HQ.out, ← HP.out]; exact chunk_at heD (by rw [HL.out]; exact hb)
                  have kx : ∀ w : World, (Instr.index 9 (.string DB) (.int .i64 (q : Int))).run Tryd.prog w = .ok (.int .u8 (b.toNat : Int)) w := fun w => by rw [← HDB.out]; exact index_at D q b hDq w
                  have HBt := Lib.hid hb
                  have d1 : (q : Int) < (e : Int) := by have h1 := HQ.out; have h2 := HLL.out; omega
                  have d2 : (b.toNat : Int) < 256 := by have := b.toNat_lt; omega
                  have HDat : Hid ((pwD s)[q]? = some b) := Lib.hid (by rw [HDl.out]; exact hDq)
                  clear hb hDq
                  by_cases hblt : (b.toNat : Int) < 48
                  · have HF := Lib.hid (pwB_dig HDat.out (not_dg_lt hblt))
                    go_wp2
                    refine bodyPost_ret (by simp [results, Tryd.results9, go_sem, *]; try rfl) rfl ?_
                    exact fail_ret HF.out (by repeat' (first | (with_reducible exact Below.refl _ _) | (with_reducible assumption) | (with_reducible refine Below.alloc ?_ ?_ _) | (with_reducible refine Below.drew ?_) | (with_reducible refine below_drewN ?_ _) | (with_reducible refine Below.setCell ?_ ?_ _) | go_size)) rfl
                  · skip
                    by_cases hbgt : 57 < (b.toNat : Int)
                    · have HF := Lib.hid (pwB_dig HDat.out (not_dg_gt hbgt))
                      go_wp2
                      refine bodyPost_ret (by simp [results, Tryd.results9, go_sem, *]; try rfl) rfl ?_
                      exact fail_ret HF.out (by repeat' (first | (with_reducible exact Below.refl _ _) | (with_reducible assumption) | (with_reducible refine Below.alloc ?_ ?_ _) | (with_reducible refine Below.drew ?_) | (with_reducible refine below_drewN ?_ _) | (with_reducible refine Below.setCell ?_ ?_ _) | go_size)) rfl
                    · skip
                      have hdg : isDg b = true := isDg_iff.2 ⟨by omega, by omega⟩
                      have HXn := Lib.hid (show numV (l.take (j + 1)) = 10 * X + ((b.toNat : Int) - 48) by rw [take_snoc HBt.out, numV_snoc, ← HXv.out]; rfl)
                      have HAn : Hid (AllDg (l.take (j + 1))) := Lib.hid (by rw [take_snoc HBt.out]; exact HA.out.append (AllDg.one hdg))
                      have hr := numV_four HAn.out (by rw [List.length_take]; have := HLL.out; have := HP.out; omega)
                      rw [HXn.out] at hr
                      have f1 : IntKind.u8.wrap ((b.toNat : Int) - 48) = (b.toNat : Int) - 48 := u8_in _ (by omega) (by omega)
                      have HXm : Hid (10 * X + ((b.toNat : Int) - 48) = numV (l.take (j + 1))) := Lib.hid HXn.out.symm
                      have HAm := HAn
                      have HQ2 : Hid (q + 1 = p + (j + 1)) := Lib.hid (by have := HQ.out; omega)
                      clear HXn hdg HAn
                      go_wp2
                      go_round
                      case rel => exact ⟨j + 1, q + 1, _, by omega, HQ2, by go_num, by omega, rfl, HXm, HAm, by omega, by omega⟩
                      case measure => simp [intOf]; omega
                · obtain rfl : j = l.length := by omega
                  have hqq : q = e := by have h1 := HQ.out; have h2 := HLL.out; have h3 := HP.out; omega
                  have d1 : ¬ (q : Int) < (e : Int) := by omega
                  have HXl := Lib.hid (show X = numV (chunk D e) by rw [HXv.out, List.take_length, HL.out])
                  have HAl : Hid (AllDg (chunk D e)) := Lib.hid (by rw [HL.out]; have := HA.out; rwa [List.take_length] at this)
                  have HRn := Lib.hid (HR.out.next (by omega) heD HAl.out)
                  rw [← HXl.out] at HRn
                  have HO := Lib.hid (show wr.ownsRow (w.heap.size + 1) 3 1 _ ys.length (ys.map (Value.int .i64)) from HNu.out)
                  clear HXv HXl hqq
                  go_wp2_with (at_builtin; refine wpList_append_own _ rfl _ _ 22 rfl (w.heap.size + 1) 3 i0 (.int .i64 0) 1 8 underInts hi hz0 hz1 hz2 rfl (by decide) _ _ _ rfl (World.ownsRow.alloc HO.out _) ⟨wr.heap.size, 0, none⟩ 1 1 [.int .i64 X] rfl rfl (one_at _ _ rfl) (one_cell _) (by unfold maxLen; omega) (by omega) (by simp; omega) ?_; intro v' w2 hown' hgrow _)
                  have R := nums_step HNu.out HB.out (Nat.le_succ _) (by omega) hown' hgrow
                  have R1 := Lib.hid R.1
                  have R2 := Lib.hid R.2
                  have Z0 := Lib.hid (HB0.out.step HNu.out (Nat.lt_succ_self _) (by omega) hgrow)
                  have Z2 : w.heap.size + 1 ≤ w2.heap.size := by have := hgrow.size; simp at this; omega
                  clear R hown' hgrow
                  go_wp2
                  go_roundw
                  case rel => exact ⟨_, _, by go_num, by omega, by omega, HRn, R1, R2, Z2, Z0⟩
                  case measure => simp [intOf]; omega
          · obtain ⟨hys, hall⟩ := HR.out.done (show z ≤ 0 by omega)
            obtain ⟨L, HLL⟩ : ∃ L, Hid (pwL s = L) := ⟨_, Lib.hid rfl⟩
            have hyL : ys = L := by rw [← HLL.out]; unfold pwL; rw [HDl.out]; exact hys
            subst hyL
            have HAD : Hid (AllDg (pwD s)) := Lib.hid (by rw [HDl.out]; exact hall)
            have HPB := Lib.hid (pwB_all (s := s) (by rw [HDl.out]; exact hlo) (by rw [HDl.out]; exact hhi) HAD.out)
            have hyl : ys.length ≤ 400 := by have := (pwL_len s).2; rw [HLL.out, HDl.out] at this; omega
            have HDig := Lib.hid (pwL_Dig HAD.out)
            rw [HLL.out] at HDig
            obtain ⟨zz, HZ⟩ : ∃ zz, Hid (pwV s = zz) := ⟨_, Lib.hid rfl⟩
            have HZV := Lib.hid (show zz = if false then - dv ys else dv ys by rw [← HZ.out, ← HLL.out]; unfold pwV; rw [HN.out])
            have hzl : (wlimbs zz).length ≤ 400 := by
              rw [(signed_neg HDig.out HZV.out).2]
              have := digs_length_le HDig.out; omega
            obtain ⟨A, c, hv⟩ := HNu.out.slice
            rw [hv] at HNu
            obtain ⟨x0, x1, x2, x3⟩ := HB0.out
            have hbw := HB.out
            have hng := HNG.out
            clear hys hall
            rw [hv]
            clear hv
            obtain ⟨tx, HTX⟩ : ∃ tx, Hid (bsOf (wtL (wneg zz) (wlimbs zz)) = tx) := ⟨_, Lib.hid rfl⟩
            have hcmp : (tx.toList == DB.toList) = decide (pwTx s = s) := by rw [← HTX.out, ← HS.out, ← HZ.out]; exact str_same _ _
            rcases Classical.em (pwTx s = s) with hts | hts
            · rw [decide_eq_true hts] at hcmp
              have HOK := Lib.hid (show pwB s = true by rw [HPB.out]; exact decide_eq_true hts)
              clear hts
              go_wp2_with (go_at_call 45; refine (bgMake_any false zz (HNu.out.below (by (repeat' (first | (with_reducible exact Below.refl _ _) | (with_reducible assumption) | (with_reducible refine Below.alloc ?_ ?_ _) | (with_reducible refine Below.drew ?_) | (with_reducible refine below_drewN ?_ _) | (with_reducible refine Below.setCell ?_ ?_ _) | go_size)))).holds (by omega) HDig.out HZV.out).mono ?_; rintro e w2 ⟨A2, d2, rfl, n2, hb2⟩; have N2 := Lib.hid n2; clear n2; obtain ⟨hc2, hf2⟩ := bcell hb2; have hB2 : Below w.heap.size w w2 := Below.trans (by repeat' (first | (with_reducible exact Below.refl _ _) | (with_reducible assumption) | (with_reducible refine Below.alloc ?_ ?_ _) | (with_reducible refine Below.drew ?_) | (with_reducible refine below_drewN ?_ _) | (with_reducible refine Below.setCell ?_ ?_ _) | go_size)) (hb2.mono (by go_size)); (have hs2 := hb2.size); (try simp at hs2); (try (have hl2 := Nat.lt_of_succ_le hs2)); (first | (have hz2 : w.heap.size < w2.heap.size := by omega) | (have hz2 : w.heap.size ≤ w2.heap.size := by omega)); (try (have hz1_2 : w1.heap.size < w2.heap.size := by omega)); (try (have hz3_2 : w3.heap.size < w2.heap.size := by omega)); (try (have hz4_2 : w4.heap.size < w2.heap.size := by omega)); (try (have hz5_2 : w5.heap.size < w2.heap.size := by omega)); (try (have hzc_2 : wc.heap.size < w2.heap.size := by omega)); (try (have hy1_2 : w.heap.size + 1 < w2.heap.size := by omega)); (try (have hy2_2 : w.heap.size + 2 < w2.heap.size := by omega)); (try (have hy3_2 : w.heap.size + 3 < w2.heap.size := by omega)); (have k2_0 : w2.cell? ⟨w.heap.size, 0, none⟩ = some (.bool false) := by (rw [hb2.cell (by first | (simp; done) | (simp; omega) | omega)]; first | assumption | (simp [go_sem]; done) | (simp [*, go_sem]; done))); (have k2_1 : w2.cell? ⟨w.heap.size, 1, none⟩ = some (.slice none 0 0) := by (rw [hb2.cell (by first | (simp; done) | (simp; omega) | omega)]; first | assumption | (simp [go_sem]; done) | (simp [*, go_sem]; done))); (have k2_2 : w2.frozen? ⟨w.heap.size, 0, none⟩ = false := by (rw [hb2.frozen (by first | (simp; done) | (simp; omega) | omega)]; first | assumption | (simp [go_sem]; done) | (simp [*, go_sem]; done))); (have k2_3 : w2.frozen? ⟨w.heap.size, 1, none⟩ = false := by (rw [hb2.frozen (by first | (simp; done) | (simp; omega) | omega)]; first | assumption | (simp [go_sem]; done) | (simp [*, go_sem]; done))))
              go_wp2_with fail
              (go_at_call 46; refine (tx_call HTX (N2.out.below (by (repeat' (first | (with_reducible exact Below.refl _ _) | (with_reducible assumption) | (with_reducible refine Below.alloc ?_ ?_ _) | (with_reducible refine Below.drew ?_) | (with_reducible refine below_drewN ?_ _) | (with_reducible refine Below.setCell ?_ ?_ _) | go_size)))).holds (by omega)).mono ?_; rintro e w3 ⟨rfl, hb3⟩; obtain ⟨hc3, hf3⟩ := bcell hb3; have hB3 : Below w.heap.size w w3 := Below.trans (by repeat' (first | (with_reducible exact Below.refl _ _) | (with_reducible assumption) | (with_reducible refine Below.alloc ?_ ?_ _) | (with_reducible refine Below.drew ?_) | (with_reducible refine below_drewN ?_ _) | (with_reducible refine Below.setCell ?_ ?_ _) | go_size)) (hb3.mono (by go_size)); (have hs3 := hb3.size); (try simp at hs3); (try (have hl3 := Nat.lt_of_succ_le hs3)); (first | (have hz3 : w.heap.size < w3.heap.size := by omega) | (have hz3 : w.heap.size ≤ w3.heap.size := by omega)); (try (have hz1_3 : w1.heap.size < w3.heap.size := by omega)); (try (have hz2_3 : w2.heap.size < w3.heap.size := by omega)); (try (have hz4_3 : w4.heap.size < w3.heap.size := by omega)); (try (have hz5_3 : w5.heap.size < w3.heap.size := by omega)); (try (have hzc_3 : wc.heap.size < w3.heap.size := by omega)); (try (have hy1_3 : w.heap.size + 1 < w3.heap.size := by omega)); (try (have hy2_3 : w.heap.size + 2 < w3.heap.size := by omega)); (try (have hy3_3 : w.heap.size + 3 < w3.heap.size := by omega)); (have k3_0 : w3.cell? ⟨w.heap.size, 0, none⟩ = some (.bool false) := by (rw [hb3.cell (by first | (simp; done) | (simp; omega) | omega)]; first | assumption | (simp [go_sem]; done) | (simp [*, go_sem]; done))); (have k3_1 : w3.cell? ⟨w.heap.size, 1, none⟩ = some (.slice none 0 0) := by (rw [hb3.cell (by first | (simp; done) | (simp; omega) | omega)]; first | assumption | (simp [go_sem]; done) | (simp [*, go_sem]; done))); (have k3_2 : w3.frozen? ⟨w.heap.size, 0, none⟩ = false := by (rw [hb3.frozen (by first | (simp; done) | (simp; omega) | omega)]; first | assumption | (simp [go_sem]; done) | (simp [*, go_sem]; done))); (have k3_3 : w3.frozen? ⟨w.heap.size, 1, none⟩ = false := by (rw [hb3.frozen (by first | (simp; done) | (simp; omega) | omega)]; first | assumption | (simp [go_sem]; done) | (simp [*, go_sem]; done))); (have k3_4 : w3.cell? ⟨w2.heap.size, 0, none⟩ = some (.bool (wneg zz)) := by (rw [hb3.cell (by first | (simp; done) | (simp; omega) | omega)]; first | assumption | (simp [go_sem]; done) | (simp [*, go_sem]; done))); (have k3_5 : w3.cell? ⟨w2.heap.size, 1, none⟩ = some (.slice A2 (wlimbs zz).length d2) := by (rw [hb3.cell (by first | (simp; done) | (simp; omega) | omega)]; first | assumption | (simp [go_sem]; done) | (simp [*, go_sem]; done))))
              have T3 := Lib.hid (show Below w2.heap.size w2 w3 from Below.trans (by (repeat' (first | (with_reducible exact Below.refl _ _) | (with_reducible assumption) | (with_reducible refine Below.alloc ?_ ?_ _) | (with_reducible refine Below.drew ?_) | (with_reducible refine below_drewN ?_ _) | (with_reducible refine Below.setCell ?_ ?_ _) | go_size))) (hb3.mono (by go_size)))
              have N3 := Lib.hid (N2.out.below T3.out)
              have hq2 := hb2.size
              go_wp2
              refine bodyPost_ret (by simp [results, Tryd.results9, go_sem, *]; try rfl) rfl ?_
              exact ok_ret HOK.out (by rw [HZ.out]) (by rw [HZ.out]) (((N3.out.setBelow (a := ⟨w.heap.size, 0, none⟩) (show w.heap.size < _ by omega) _).setBelow (a := ⟨w.heap.size, 1, none⟩) (show w.heap.size < _ by omega) _).mono (by omega)) (by repeat' (first | (with_reducible exact Below.refl _ _) | (with_reducible assumption) | (with_reducible refine Below.alloc ?_ ?_ _) | (with_reducible refine Below.drew ?_) | (with_reducible refine below_drewN ?_ _) | (with_reducible refine Below.setCell ?_ ?_ _) | go_size)) rfl
            · rw [decide_eq_false hts] at hcmp
              have HOK := Lib.hid (show pwB s = false by rw [HPB.out]; exact decide_eq_false hts)
              clear hts
              go_wp2_with (go_at_call 45; refine (bgMake_any false zz (HNu.out.below (by (repeat' (first | (with_reducible exact Below.refl _ _) | (with_reducible assumption) | (with_reducible refine Below.alloc ?_ ?_ _) | (with_reducible refine Below.drew ?_) | (with_reducible refine below_drewN ?_ _) | (with_reducible refine Below.setCell ?_ ?_ _) | go_size)))).holds (by omega) HDig.out HZV.out).mono ?_; rintro e w2 ⟨A2, d2, rfl, n2, hb2⟩; have N2 := Lib.hid n2; clear n2; obtain ⟨hc2, hf2⟩ := bcell hb2; have hB2 : Below w.heap.size w w2 := Below.trans (by repeat' (first | (with_reducible exact Below.refl _ _) | (with_reducible assumption) | (with_reducible refine Below.alloc ?_ ?_ _) | (with_reducible refine Below.drew ?_) | (with_reducible refine below_drewN ?_ _) | (with_reducible refine Below.setCell ?_ ?_ _) | go_size)) (hb2.mono (by go_size)); (have hs2 := hb2.size); (try simp at hs2); (try (have hl2 := Nat.lt_of_succ_le hs2)); (first | (have hz2 : w.heap.size < w2.heap.size := by omega) | (have hz2 : w.heap.size ≤ w2.heap.size := by omega)); (try (have hz1_2 : w1.heap.size < w2.heap.size := by omega)); (try (have hz3_2 : w3.heap.size < w2.heap.size := by omega)); (try (have hz4_2 : w4.heap.size < w2.heap.size := by omega)); (try (have hz5_2 : w5.heap.size < w2.heap.size := by omega)); (try (have hzc_2 : wc.heap.size < w2.heap.size := by omega)); (try (have hy1_2 : w.heap.size + 1 < w2.heap.size := by omega)); (try (have hy2_2 : w.heap.size + 2 < w2.heap.size := by omega)); (try (have hy3_2 : w.heap.size + 3 < w2.heap.size := by omega)); (have k2_0 : w2.cell? ⟨w.heap.size, 0, none⟩ = some (.bool false) := by (rw [hb2.cell (by first | (simp; done) | (simp; omega) | omega)]; first | assumption | (simp [go_sem]; done) | (simp [*, go_sem]; done))); (have k2_1 : w2.cell? ⟨w.heap.size, 1, none⟩ = some (.slice none 0 0) := by (rw [hb2.cell (by first | (simp; done) | (simp; omega) | omega)]; first | assumption | (simp [go_sem]; done) | (simp [*, go_sem]; done))); (have k2_2 : w2.frozen? ⟨w.heap.size, 0, none⟩ = false := by (rw [hb2.frozen (by first | (simp; done) | (simp; omega) | omega)]; first | assumption | (simp [go_sem]; done) | (simp [*, go_sem]; done))); (have k2_3 : w2.frozen? ⟨w.heap.size, 1, none⟩ = false := by (rw [hb2.frozen (by first | (simp; done) | (simp; omega) | omega)]; first | assumption | (simp [go_sem]; done) | (simp [*, go_sem]; done))))
              go_wp2_with fail
              (go_at_call 46; refine (tx_call HTX (N2.out.below (by (repeat' (first | (with_reducible exact Below.refl _ _) | (with_reducible assumption) | (with_reducible refine Below.alloc ?_ ?_ _) | (with_reducible refine Below.drew ?_) | (with_reducible refine below_drewN ?_ _) | (with_reducible refine Below.setCell ?_ ?_ _) | go_size)))).holds (by omega)).mono ?_; rintro e w3 ⟨rfl, hb3⟩; obtain ⟨hc3, hf3⟩ := bcell hb3; have hB3 : Below w.heap.size w w3 := Below.trans (by repeat' (first | (with_reducible exact Below.refl _ _) | (with_reducible assumption) | (with_reducible refine Below.alloc ?_ ?_ _) | (with_reducible refine Below.drew ?_) | (with_reducible refine below_drewN ?_ _) | (with_reducible refine Below.setCell ?_ ?_ _) | go_size)) (hb3.mono (by go_size)); (have hs3 := hb3.size); (try simp at hs3); (try (have hl3 := Nat.lt_of_succ_le hs3)); (first | (have hz3 : w.heap.size < w3.heap.size := by omega) | (have hz3 : w.heap.size ≤ w3.heap.size := by omega)); (try (have hz1_3 : w1.heap.size < w3.heap.size := by omega)); (try (have hz2_3 : w2.heap.size < w3.heap.size := by omega)); (try (have hz4_3 : w4.heap.size < w3.heap.size := by omega)); (try (have hz5_3 : w5.heap.size < w3.heap.size := by omega)); (try (have hzc_3 : wc.heap.size < w3.heap.size := by omega)); (try (have hy1_3 : w.heap.size + 1 < w3.heap.size := by omega)); (try (have hy2_3 : w.heap.size + 2 < w3.heap.size := by omega)); (try (have hy3_3 : w.heap.size + 3 < w3.heap.size := by omega)); (have k3_0 : w3.cell? ⟨w.heap.size, 0, none⟩ = some (.bool false) := by (rw [hb3.cell (by first | (simp; done) | (simp; omega) | omega)]; first | assumption | (simp [go_sem]; done) | (simp [*, go_sem]; done))); (have k3_1 : w3.cell? ⟨w.heap.size, 1, none⟩ = some (.slice none 0 0) := by (rw [hb3.cell (by first | (simp; done) | (simp; omega) | omega)]; first | assumption | (simp [go_sem]; done) | (simp [*, go_sem]; done))); (have k3_2 : w3.frozen? ⟨w.heap.size, 0, none⟩ = false := by (rw [hb3.frozen (by first | (simp; done) | (simp; omega) | omega)]; first | assumption | (simp [go_sem]; done) | (simp [*, go_sem]; done))); (have k3_3 : w3.frozen? ⟨w.heap.size, 1, none⟩ = false := by (rw [hb3.frozen (by first | (simp; done) | (simp; omega) | omega)]; first | assumption | (simp [go_sem]; done) | (simp [*, go_sem]; done))); (have k3_4 : w3.cell? ⟨w2.heap.size, 0, none⟩ = some (.bool (wneg zz)) := by (rw [hb3.cell (by first | (simp; done) | (simp; omega) | omega)]; first | assumption | (simp [go_sem]; done) | (simp [*, go_sem]; done))); (have k3_5 : w3.cell? ⟨w2.heap.size, 1, none⟩ = some (.slice A2 (wlimbs zz).length d2) := by (rw [hb3.cell (by first | (simp; done) | (simp; omega) | omega)]; first | assumption | (simp [go_sem]; done) | (simp [*, go_sem]; done))))
              have T3 := Lib.hid (show Below w2.heap.size w2 w3 from Below.trans (by (repeat' (first | (with_reducible exact Below.refl _ _) | (with_reducible assumption) | (with_reducible refine Below.alloc ?_ ?_ _) | (with_reducible refine Below.drew ?_) | (with_reducible refine below_drewN ?_ _) | (with_reducible refine Below.setCell ?_ ?_ _) | go_size))) (hb3.mono (by go_size)))
              have N3 := Lib.hid (N2.out.below T3.out)
              have hq2 := hb2.size
              go_wp2
              refine bodyPost_ret (by simp [results, Tryd.results9, go_sem, *]; try rfl) rfl ?_
              exact fail_ret HOK.out (by repeat' (first | (with_reducible exact Below.refl _ _) | (with_reducible assumption) | (with_reducible refine Below.alloc ?_ ?_ _) | (with_reducible refine Below.drew ?_) | (with_reducible refine below_drewN ?_ _) | (with_reducible refine Below.setCell ?_ ?_ _) | go_size)) rfl
    · skip
      obtain ⟨h0, h1, h2⟩ := HH.out.yes rfl
      have h3 : (0 : Int) < (S.size : Int) := by omega
      go_enter Tryd.func9, Tryd.ntmps9
      go_wp2_with (go_at_call 43; refine (l1In_any _ _ _ _).mono ?_; rintro e w' ⟨rfl, rfl⟩)
      go_loopw [5, 6] (fun v i wr => ∃ (z : Int) (ys : List Int), i = .int .i64 z ∧ -4 < z ∧ z ≤ DB.size ∧ Hid (Reads D ys z) ∧ Hid (Nums wr (w.heap.size + 1) v ys) ∧ Hid (Below w.heap.size w wr) ∧ w.heap.size + 1 ≤ wr.heap.size ∧ Hid (BoxAt wr w.heap.size (.bool false) (.slice none 0 0))) (fun _ i _ => (intOf i).toNat)
      case atStart => exact ⟨_, [], rfl, by omega, by omega, Reads.start D _ (by rw [HDS.out]), Lib.hid (Nums.nil _ _), Lib.hid (by (repeat' (first | (with_reducible exact Below.refl _ _) | (with_reducible assumption) | (with_reducible refine Below.alloc ?_ ?_ _) | (with_reducible refine Below.drew ?_) | (with_reducible refine below_drewN ?_ _) | (with_reducible refine Below.setCell ?_ ?_ _) | go_size))), by simp, Lib.hid (by simp [BoxAt, go_sem])⟩
      case round =>
        obtain ⟨z, ys, rfl, hz3, hz4, HR, HNu, HB, hsz, HB0⟩ := hrel
        by_cases hzp : 0 < z
        · obtain ⟨e, rfl⟩ := Int.eq_ofNat_of_zero_le (show 0 ≤ z by omega)
          have heD : e ≤ D.length := by have := HDS.out; omega
          obtain ⟨l, HL⟩ : ∃ l, Hid (chunk D e = l) := ⟨_, Lib.hid rfl⟩
          obtain ⟨p, hp⟩ : ∃ p, e - 4 = p := ⟨_, rfl⟩
          have hll : l.length = e - p := by rw [← HL.out, chunk_length heD, hp]
          have hlen1 : 4 * ys.length ≤ D.length + 4 := HR.out.len
          obtain ⟨x0, x1, x2, x3⟩ := HB0.out
          have hbw := HB.out
          have HLL := Lib.hid hll
          have HP := Lib.hid hp
          clear hll
          by_cases h4 : 4 ≤ e
          · skip
            have c1 : (e : Int) - 4 = (p : Int) := by omega
            have hmx : max 0 (p : Int) = (p : Int) := by omega
            clear hp
            go_wp2_with (go_at_call 44; refine (l1Most_any _ _ _).mono ?_; rintro e w' ⟨rfl, rfl⟩)
            go_loop [7, 8] (fun x i => ∃ (j q : Nat) (X : Int), j ≤ l.length ∧ Hid (q = p + j) ∧ i = .int .i64 (q : Int) ∧ q ≤ e ∧ x = .int .i64 X ∧ Hid (X = numV (l.take j)) ∧ Hid (AllDg (l.take j)) ∧ 0 ≤ X ∧ X ≤ 9999) (fun _ i => e - (intOf i).toNat)
            case atStart => exact ⟨0, p, 0, by omega, Lib.hid rfl, rfl, by have := HP.out; omega, rfl, Lib.hid rfl, Lib.hid AllDg.nil, by omega, by omega⟩
            case round =>
              obtain ⟨j, q, X, hj, HQ, rfl, hqe, rfl, HXv, HA, X0', X1'⟩ := hrel
              by_cases hjl : j < l.length
              · obtain ⟨b, hb⟩ : ∃ b, l[j]? = some b := ⟨_, List.getElem?_eq_getElem hjl⟩
                have hDq : D[q]? = some b := by rw [HQ.out, ← HP.out]; exact chunk_at heD (by rw [HL.out]; exact hb)
                have kx : ∀ w : World, (Instr.index 9 (.string DB) (.int .i64 (q : Int))).run Tryd.prog w = .ok (.int .u8 (b.toNat : Int)) w := fun w => by rw [← HDB.out]; exact index_at D q b hDq w
                have HBt := Lib.hid hb
                have d1 : (q : Int) < (e : Int) := by have h1 := HQ.out; have h2 := HLL.out; omega
                have d2 : (b.toNat : Int) < 256 := by have := b.toNat_lt; omega
                have HDat : Hid ((pwD s)[q]? = some b) := Lib.hid (by rw [HDl.out]; exact hDq)
                clear hb hDq
                by_cases hblt : (b.toNat : Int) < 48
                · have HF := Lib.hid (pwB_dig HDat.out (not_dg_lt hblt))
                  go_wp2
                  refine bodyPost_ret (by simp [results, Tryd.results9, go_sem, *]; try rfl) rfl ?_
                  exact fail_ret HF.out (by repeat' (first | (with_reducible exact Below.refl _ _) | (with_reducible assumption) | (with_reducible refine Below.alloc ?_ ?_ _) | (with_reducible refine Below.drew ?_) | (with_reducible refine below_drewN ?_ _) | (with_reducible refine Below.setCell ?_ ?_ _) | go_size)) rfl
                · skip
                  by_cases hbgt : 57 < (b.toNat : Int)
                  · have HF := Lib.hid (pwB_dig HDat.out (not_dg_gt hbgt))
                    go_wp2
                    refine bodyPost_ret (by simp [results, Tryd.results9, go_sem, *]; try rfl) rfl ?_
                    exact fail_ret HF.out (by repeat' (first | (with_reducible exact Below.refl _ _) | (with_reducible assumption) | (with_reducible refine Below.alloc ?_ ?_ _) | (with_reducible refine Below.drew ?_) | (with_reducible refine below_drewN ?_ _) | (with_reducible refine Below.setCell ?_ ?_ _) | go_size)) rfl
                  · skip
                    have hdg : isDg b = true := isDg_iff.2 ⟨by omega, by omega⟩
                    have HXn := Lib.hid (show numV (l.take (j + 1)) = 10 * X + ((b.toNat : Int) - 48) by rw [take_snoc HBt.out, numV_snoc, ← HXv.out]; rfl)
                    have HAn : Hid (AllDg (l.take (j + 1))) := Lib.hid (by rw [take_snoc HBt.out]; exact HA.out.append (AllDg.one hdg))
                    have hr := numV_four HAn.out (by rw [List.length_take]; have := HLL.out; have := HP.out; omega)
                    rw [HXn.out] at hr
                    have f1 : IntKind.u8.wrap ((b.toNat : Int) - 48) = (b.toNat : Int) - 48 := u8_in _ (by omega) (by omega)
                    have HXm : Hid (10 * X + ((b.toNat : Int) - 48) = numV (l.take (j + 1))) := Lib.hid HXn.out.symm
                    have HAm := HAn
                    have HQ2 : Hid (q + 1 = p + (j + 1)) := Lib.hid (by have := HQ.out; omega)
                    clear HXn hdg HAn
                    go_wp2
                    go_round
                    case rel => exact ⟨j + 1, q + 1, _, by omega, HQ2, by go_num, by omega, rfl, HXm, HAm, by omega, by omega⟩
                    case measure => simp [intOf]; omega
              · obtain rfl : j = l.length := by omega
                have hqq : q = e := by have h1 := HQ.out; have h2 := HLL.out; have h3 := HP.out; omega
                have d1 : ¬ (q : Int) < (e : Int) := by omega
                have HXl := Lib.hid (show X = numV (chunk D e) by rw [HXv.out, List.take_length, HL.out])
                have HAl : Hid (AllDg (chunk D e)) := Lib.hid (by rw [HL.out]; have := HA.out; rwa [List.take_length] at this)
                have HRn := Lib.hid (HR.out.next (by omega) heD HAl.out)
                rw [← HXl.out] at HRn
                have HO := Lib.hid (show wr.ownsRow (w.heap.size + 1) 3 1 _ ys.length (ys.map (Value.int .i64)) from HNu.out)
                clear HXv HXl hqq
                go_wp2_with (at_builtin; refine wpList_append_own _ rfl _ _ 22 rfl (w.heap.size + 1) 3 i0 (.int .i64 0) 1 8 underInts hi hz0 hz1 hz2 rfl (by decide) _ _ _ rfl (World.ownsRow.alloc HO.out _) ⟨wr.heap.size, 0, none⟩ 1 1 [.int .i64 X] rfl rfl (one_at _ _ rfl) (one_cell _) (by unfold maxLen; omega) (by omega) (by simp; omega) ?_; intro v' w2 hown' hgrow _)
                have R := nums_step HNu.out HB.out (Nat.le_succ _) (by omega) hown' hgrow
                have R1 := Lib.hid R.1
                have R2 := Lib.hid R.2
                have Z0 := Lib.hid (HB0.out.step HNu.out (Nat.lt_succ_self _) (by omega) hgrow)
                have Z2 : w.heap.size + 1 ≤ w2.heap.size := by have := hgrow.size; simp at this; omega
                clear R hown' hgrow
                go_wp2
                go_roundw
                case rel => exact ⟨_, _, by go_num, by omega, by omega, HRn, R1, R2, Z2, Z0⟩
                case measure => simp [intOf]; omega
          · skip
            obtain ⟨y, c1⟩ : ∃ y : Int, (e : Int) - 4 = y := ⟨_, rfl⟩
            have hpe : y < 0 := by omega
            have hpe0 : -4 ≤ y := by omega
            have hmx : max 0 y = (p : Int) := by omega
            clear hp
            go_wp2_with (go_at_call 44; refine (l1Most_any _ _ _).mono ?_; rintro e w' ⟨rfl, rfl⟩)
            go_loop [7, 8] (fun x i => ∃ (j q : Nat) (X : Int), j ≤ l.length ∧ Hid (q = p + j) ∧ i = .int .i64 (q : Int) ∧ q ≤ e ∧ x = .int .i64 X ∧ Hid (X = numV (l.take j)) ∧ Hid (AllDg (l.take j)) ∧ 0 ≤ X ∧ X ≤ 9999) (fun _ i => e - (intOf i).toNat)
            case atStart => exact ⟨0, p, 0, by omega, Lib.hid rfl, rfl, by have := HP.out; omega, rfl, Lib.hid rfl, Lib.hid AllDg.nil, by omega, by omega⟩
            case round =>
              obtain ⟨j, q, X, hj, HQ, rfl, hqe, rfl, HXv, HA, X0', X1'⟩ := hrel
              by_cases hjl : j < l.length
              · obtain ⟨b, hb⟩ : ∃ b, l[j]? = some b := ⟨_, List.getElem?_eq_getElem hjl⟩
                have hDq : D[q]? = some b := by rw [HQ.out, ← HP.out]; exact chunk_at heD (by rw [HL.out]; exact hb)
                have kx : ∀ w : World, (Instr.index 9 (.string DB) (.int .i64 (q : Int))).run Tryd.prog w = .ok (.int .u8 (b.toNat : Int)) w := fun w => by rw [← HDB.out]; exact index_at D q b hDq w
                have HBt := Lib.hid hb
                have d1 : (q : Int) < (e : Int) := by have h1 := HQ.out; have h2 := HLL.out; omega
                have d2 : (b.toNat : Int) < 256 := by have := b.toNat_lt; omega
                have HDat : Hid ((pwD s)[q]? = some b) := Lib.hid (by rw [HDl.out]; exact hDq)
                clear hb hDq
                by_cases hblt : (b.toNat : Int) < 48
                · have HF := Lib.hid (pwB_dig HDat.out (not_dg_lt hblt))
                  go_wp2
                  refine bodyPost_ret (by simp [results, Tryd.results9, go_sem, *]; try rfl) rfl ?_
                  exact fail_ret HF.out (by repeat' (first | (with_reducible exact Below.refl _ _) | (with_reducible assumption) | (with_reducible refine Below.alloc ?_ ?_ _) | (with_reducible refine Below.drew ?_) | (with_reducible refine below_drewN ?_ _) | (with_reducible refine Below.setCell ?_ ?_ _) | go_size)) rfl
                · skip
                  by_cases hbgt : 57 < (b.toNat : Int)
                  · have HF := Lib.hid (pwB_dig HDat.out (not_dg_gt hbgt))
                    go_wp2
                    refine bodyPost_ret (by simp [results, Tryd.results9, go_sem, *]; try rfl) rfl ?_
                    exact fail_ret HF.out (by repeat' (first | (with_reducible exact Below.refl _ _) | (with_reducible assumption) | (with_reducible refine Below.alloc ?_ ?_ _) | (with_reducible refine Below.drew ?_) | (with_reducible refine below_drewN ?_ _) | (with_reducible refine Below.setCell ?_ ?_ _) | go_size)) rfl
                  · skip
                    have hdg : isDg b = true := isDg_iff.2 ⟨by omega, by omega⟩
                    have HXn := Lib.hid (show numV (l.take (j + 1)) = 10 * X + ((b.toNat : Int) - 48) by rw [take_snoc HBt.out, numV_snoc, ← HXv.out]; rfl)
                    have HAn : Hid (AllDg (l.take (j + 1))) := Lib.hid (by rw [take_snoc HBt.out]; exact HA.out.append (AllDg.one hdg))
                    have hr := numV_four HAn.out (by rw [List.length_take]; have := HLL.out; have := HP.out; omega)
                    rw [HXn.out] at hr
                    have f1 : IntKind.u8.wrap ((b.toNat : Int) - 48) = (b.toNat : Int) - 48 := u8_in _ (by omega) (by omega)
                    have HXm : Hid (10 * X + ((b.toNat : Int) - 48) = numV (l.take (j + 1))) := Lib.hid HXn.out.symm
                    have HAm := HAn
                    have HQ2 : Hid (q + 1 = p + (j + 1)) := Lib.hid (by have := HQ.out; omega)
                    clear HXn hdg HAn
                    go_wp2
                    go_round
                    case rel => exact ⟨j + 1, q + 1, _, by omega, HQ2, by go_num, by omega, rfl, HXm, HAm, by omega, by omega⟩
                    case measure => simp [intOf]; omega
              · obtain rfl : j = l.length := by omega
                have hqq : q = e := by have h1 := HQ.out; have h2 := HLL.out; have h3 := HP.out; omega
                have d1 : ¬ (q : Int) < (e : Int) := by omega
                have HXl := Lib.hid (show X = numV (chunk D e) by rw [HXv.out, List.take_length, HL.out])
                have HAl : Hid (AllDg (chunk D e)) := Lib.hid (by rw [HL.out]; have := HA.out; rwa [List.take_length] at this)
                have HRn := Lib.hid (HR.out.next (by omega) heD HAl.out)
                rw [← HXl.out] at HRn
                have HO := Lib.hid (show wr.ownsRow (w.heap.size + 1) 3 1 _ ys.length (ys.map (Value.int .i64)) from HNu.out)
                clear HXv HXl hqq
                go_wp2_with (at_builtin; refine wpList_append_own _ rfl _ _ 22 rfl (w.heap.size + 1) 3 i0 (.int .i64 0) 1 8 underInts hi hz0 hz1 hz2 rfl (by decide) _ _ _ rfl (World.ownsRow.alloc HO.out _) ⟨wr.heap.size, 0, none⟩ 1 1 [.int .i64 X] rfl rfl (one_at _ _ rfl) (one_cell _) (by unfold maxLen; omega) (by omega) (by simp; omega) ?_; intro v' w2 hown' hgrow _)
                have R := nums_step HNu.out HB.out (Nat.le_succ _) (by omega) hown' hgrow
                have R1 := Lib.hid R.1
                have R2 := Lib.hid R.2
                have Z0 := Lib.hid (HB0.out.step HNu.out (Nat.lt_succ_self _) (by omega) hgrow)
                have Z2 : w.heap.size + 1 ≤ w2.heap.size := by have := hgrow.size; simp at this; omega
                clear R hown' hgrow
                go_wp2
                go_roundw
                case rel => exact ⟨_, _, by go_num, by omega, by omega, HRn, R1, R2, Z2, Z0⟩
                case measure => simp [intOf]; omega
        · obtain ⟨hys, hall⟩ := HR.out.done (show z ≤ 0 by omega)
          obtain ⟨L, HLL⟩ : ∃ L, Hid (pwL s = L) := ⟨_, Lib.hid rfl⟩
          have hyL : ys = L := by rw [← HLL.out]; unfold pwL; rw [HDl.out]; exact hys
          subst hyL
          have HAD : Hid (AllDg (pwD s)) := Lib.hid (by rw [HDl.out]; exact hall)
          have HPB := Lib.hid (pwB_all (s := s) (by rw [HDl.out]; exact hlo) (by rw [HDl.out]; exact hhi) HAD.out)
          have hyl : ys.length ≤ 400 := by have := (pwL_len s).2; rw [HLL.out, HDl.out] at this; omega
          have HDig := Lib.hid (pwL_Dig HAD.out)
          rw [HLL.out] at HDig
          obtain ⟨zz, HZ⟩ : ∃ zz, Hid (pwV s = zz) := ⟨_, Lib.hid rfl⟩
          have HZV := Lib.hid (show zz = if true then - dv ys else dv ys by rw [← HZ.out, ← HLL.out]; unfold pwV; rw [HN.out])
          have hzl : (wlimbs zz).length ≤ 400 := by
            rw [(signed_neg HDig.out HZV.out).2]
            have := digs_length_le HDig.out; omega
          obtain ⟨A, c, hv⟩ := HNu.out.slice
          rw [hv] at HNu
          obtain ⟨x0, x1, x2, x3⟩ := HB0.out
          have hbw := HB.out
          have hlt : DB.size < S.size := by have := of_decide_eq_true HNG.out; omega
          have hng := HNG.out
          clear hys hall
          rw [hv]
          clear hv
          obtain ⟨tx, HTX⟩ : ∃ tx, Hid (bsOf (wtL (wneg zz) (wlimbs zz)) = tx) := ⟨_, Lib.hid rfl⟩
          have hcmp : (tx.toList == S.toList) = decide (pwTx s = s) := by rw [← HTX.out, ← HS.out, ← HZ.out]; exact str_same _ _
          rcases Classical.em (pwTx s = s) with hts | hts
          · rw [decide_eq_true hts] at hcmp
            have HOK := Lib.hid (show pwB s = true by rw [HPB.out]; exact decide_eq_true hts)
            clear hts
            go_wp2_with (go_at_call 45; refine (bgMake_any true zz (HNu.out.below (by (repeat' (first | (with_reducible exact Below.refl _ _) | (with_reducible assumption) | (with_reducible refine Below.alloc ?_ ?_ _) | (with_reducible refine Below.drew ?_) | (with_reducible refine below_drewN ?_ _) | (with_reducible refine Below.setCell ?_ ?_ _) | go_size)))).holds (by omega) HDig.out HZV.out).mono ?_; rintro e w2 ⟨A2, d2, rfl, n2, hb2⟩; have N2 := Lib.hid n2; clear n2; obtain ⟨hc2, hf2⟩ := bcell hb2; have hB2 : Below w.heap.size w w2 := Below.trans (by repeat' (first | (with_reducible exact Below.refl _ _) | (with_reducible assumption) | (with_reducible refine Below.alloc ?_ ?_ _) | (with_reducible refine Below.drew ?_) | (with_reducible refine below_drewN ?_ _) | (with_reducible refine Below.setCell ?_ ?_ _) | go_size)) (hb2.mono (by go_size)); (have hs2 := hb2.size); (try simp at hs2); (try (have hl2 := Nat.lt_of_succ_le hs2)); (first | (have hz2 : w.heap.size < w2.heap.size := by omega) | (have hz2 : w.heap.size ≤ w2.heap.size := by omega)); (try (have hz1_2 : w1.heap.size < w2.heap.size := by omega)); (try (have hz3_2 : w3.heap.size < w2.heap.size := by omega)); (try (have hz4_2 : w4.heap.size < w2.heap.size := by omega)); (try (have hz5_2 : w5.heap.size < w2.heap.size := by omega)); (try (have hzc_2 : wc.heap.size < w2.heap.size := by omega)); (try (have hy1_2 : w.heap.size + 1 < w2.heap.size := by omega)); (try (have hy2_2 : w.heap.size + 2 < w2.heap.size := by omega)); (try (have hy3_2 : w.heap.size + 3 < w2.heap.size := by omega)); (have k2_0 : w2.cell? ⟨w.heap.size, 0, none⟩ = some (.bool false) := by (rw [hb2.cell (by first | (simp; done) | (simp; omega) | omega)]; first | assumption | (simp [go_sem]; done) | (simp [*, go_sem]; done))); (have k2_1 : w2.cell? ⟨w.heap.size, 1, none⟩ = some (.slice none 0 0) := by (rw [hb2.cell (by first | (simp; done) | (simp; omega) | omega)]; first | assumption | (simp [go_sem]; done) | (simp [*, go_sem]; done))); (have k2_2 : w2.frozen? ⟨w.heap.size, 0, none⟩ = false := by (rw [hb2.frozen (by first | (simp; done) | (simp; omega) | omega)]; first | assumption | (simp [go_sem]; done) | (simp [*, go_sem]; done))); (have k2_3 : w2.frozen? ⟨w.heap.size, 1, none⟩ = false := by (rw [hb2.frozen (by first | (simp; done) | (simp; omega) | omega)]; first | assumption | (simp [go_sem]; done) | (simp [*, go_sem]; done))))
            go_wp2_with fail
            (go_at_call 46; refine (tx_call HTX (N2.out.below (by (repeat' (first | (with_reducible exact Below.refl _ _) | (with_reducible assumption) | (with_reducible refine Below.alloc ?_ ?_ _) | (with_reducible refine Below.drew ?_) | (with_reducible refine below_drewN ?_ _) | (with_reducible refine Below.setCell ?_ ?_ _) | go_size)))).holds (by omega)).mono ?_; rintro e w3 ⟨rfl, hb3⟩; obtain ⟨hc3, hf3⟩ := bcell hb3; have hB3 : Below w.heap.size w w3 := Below.trans (by repeat' (first | (with_reducible exact Below.refl _ _) | (with_reducible assumption) | (with_reducible refine Below.alloc ?_ ?_ _) | (with_reducible refine Below.drew ?_) | (with_reducible refine below_drewN ?_ _) | (with_reducible refine Below.setCell ?_ ?_ _) | go_size)) (hb3.mono (by go_size)); (have hs3 := hb3.size); (try simp at hs3); (try (have hl3 := Nat.lt_of_succ_le hs3)); (first | (have hz3 : w.heap.size < w3.heap.size := by omega) | (have hz3 : w.heap.size ≤ w3.heap.size := by omega)); (try (have hz1_3 : w1.heap.size < w3.heap.size := by omega)); (try (have hz2_3 : w2.heap.size < w3.heap.size := by omega)); (try (have hz4_3 : w4.heap.size < w3.heap.size := by omega)); (try (have hz5_3 : w5.heap.size < w3.heap.size := by omega)); (try (have hzc_3 : wc.heap.size < w3.heap.size := by omega)); (try (have hy1_3 : w.heap.size + 1 < w3.heap.size := by omega)); (try (have hy2_3 : w.heap.size + 2 < w3.heap.size := by omega)); (try (have hy3_3 : w.heap.size + 3 < w3.heap.size := by omega)); (have k3_0 : w3.cell? ⟨w.heap.size, 0, none⟩ = some (.bool false) := by (rw [hb3.cell (by first | (simp; done) | (simp; omega) | omega)]; first | assumption | (simp [go_sem]; done) | (simp [*, go_sem]; done))); (have k3_1 : w3.cell? ⟨w.heap.size, 1, none⟩ = some (.slice none 0 0) := by (rw [hb3.cell (by first | (simp; done) | (simp; omega) | omega)]; first | assumption | (simp [go_sem]; done) | (simp [*, go_sem]; done))); (have k3_2 : w3.frozen? ⟨w.heap.size, 0, none⟩ = false := by (rw [hb3.frozen (by first | (simp; done) | (simp; omega) | omega)]; first | assumption | (simp [go_sem]; done) | (simp [*, go_sem]; done))); (have k3_3 : w3.frozen? ⟨w.heap.size, 1, none⟩ = false := by (rw [hb3.frozen (by first | (simp; done) | (simp; omega) | omega)]; first | assumption | (simp [go_sem]; done) | (simp [*, go_sem]; done))); (have k3_4 : w3.cell? ⟨w2.heap.size, 0, none⟩ = some (.bool (wneg zz)) := by (rw [hb3.cell (by first | (simp; done) | (simp; omega) | omega)]; first | assumption | (simp [go_sem]; done) | (simp [*, go_sem]; done))); (have k3_5 : w3.cell? ⟨w2.heap.size, 1, none⟩ = some (.slice A2 (wlimbs zz).length d2) := by (rw [hb3.cell (by first | (simp; done) | (simp; omega) | omega)]; first | assumption | (simp [go_sem]; done) | (simp [*, go_sem]; done))))
            have T3 := Lib.hid (show Below w2.heap.size w2 w3 from Below.trans (by (repeat' (first | (with_reducible exact Below.refl _ _) | (with_reducible assumption) | (with_reducible refine Below.alloc ?_ ?_ _) | (with_reducible refine Below.drew ?_) | (with_reducible refine below_drewN ?_ _) | (with_reducible refine Below.setCell ?_ ?_ _) | go_size))) (hb3.mono (by go_size)))
            have N3 := Lib.hid (N2.out.below T3.out)
            have hq2 := hb2.size
            go_wp2
            refine bodyPost_ret (by simp [results, Tryd.results9, go_sem, *]; try rfl) rfl ?_
            exact ok_ret HOK.out (by rw [HZ.out]) (by rw [HZ.out]) (((N3.out.setBelow (a := ⟨w.heap.size, 0, none⟩) (show w.heap.size < _ by omega) _).setBelow (a := ⟨w.heap.size, 1, none⟩) (show w.heap.size < _ by omega) _).mono (by omega)) (by repeat' (first | (with_reducible exact Below.refl _ _) | (with_reducible assumption) | (with_reducible refine Below.alloc ?_ ?_ _) | (with_reducible refine Below.drew ?_) | (with_reducible refine below_drewN ?_ _) | (with_reducible refine Below.setCell ?_ ?_ _) | go_size)) rfl
          · rw [decide_eq_false hts] at hcmp
            have HOK := Lib.hid (show pwB s = false by rw [HPB.out]; exact decide_eq_false hts)
            clear hts
            go_wp2_with (go_at_call 45; refine (bgMake_any true zz (HNu.out.below (by (repeat' (first | (with_reducible exact Below.refl _ _) | (with_reducible assumption) | (with_reducible refine Below.alloc ?_ ?_ _) | (with_reducible refine Below.drew ?_) | (with_reducible refine below_drewN ?_ _) | (with_reducible refine Below.setCell ?_ ?_ _) | go_size)))).holds (by omega) HDig.out HZV.out).mono ?_; rintro e w2 ⟨A2, d2, rfl, n2, hb2⟩; have N2 := Lib.hid n2; clear n2; obtain ⟨hc2, hf2⟩ := bcell hb2; have hB2 : Below w.heap.size w w2 := Below.trans (by repeat' (first | (with_reducible exact Below.refl _ _) | (with_reducible assumption) | (with_reducible refine Below.alloc ?_ ?_ _) | (with_reducible refine Below.drew ?_) | (with_reducible refine below_drewN ?_ _) | (with_reducible refine Below.setCell ?_ ?_ _) | go_size)) (hb2.mono (by go_size)); (have hs2 := hb2.size); (try simp at hs2); (try (have hl2 := Nat.lt_of_succ_le hs2)); (first | (have hz2 : w.heap.size < w2.heap.size := by omega) | (have hz2 : w.heap.size ≤ w2.heap.size := by omega)); (try (have hz1_2 : w1.heap.size < w2.heap.size := by omega)); (try (have hz3_2 : w3.heap.size < w2.heap.size := by omega)); (try (have hz4_2 : w4.heap.size < w2.heap.size := by omega)); (try (have hz5_2 : w5.heap.size < w2.heap.size := by omega)); (try (have hzc_2 : wc.heap.size < w2.heap.size := by omega)); (try (have hy1_2 : w.heap.size + 1 < w2.heap.size := by omega)); (try (have hy2_2 : w.heap.size + 2 < w2.heap.size := by omega)); (try (have hy3_2 : w.heap.size + 3 < w2.heap.size := by omega)); (have k2_0 : w2.cell? ⟨w.heap.size, 0, none⟩ = some (.bool false) := by (rw [hb2.cell (by first | (simp; done) | (simp; omega) | omega)]; first | assumption | (simp [go_sem]; done) | (simp [*, go_sem]; done))); (have k2_1 : w2.cell? ⟨w.heap.size, 1, none⟩ = some (.slice none 0 0) := by (rw [hb2.cell (by first | (simp; done) | (simp; omega) | omega)]; first | assumption | (simp [go_sem]; done) | (simp [*, go_sem]; done))); (have k2_2 : w2.frozen? ⟨w.heap.size, 0, none⟩ = false := by (rw [hb2.frozen (by first | (simp; done) | (simp; omega) | omega)]; first | assumption | (simp [go_sem]; done) | (simp [*, go_sem]; done))); (have k2_3 : w2.frozen? ⟨w.heap.size, 1, none⟩ = false := by (rw [hb2.frozen (by first | (simp; done) | (simp; omega) | omega)]; first | assumption | (simp [go_sem]; done) | (simp [*, go_sem]; done))))
            go_wp2_with fail
            (go_at_call 46; refine (tx_call HTX (N2.out.below (by (repeat' (first | (with_reducible exact Below.refl _ _) | (with_reducible assumption) | (with_reducible refine Below.alloc ?_ ?_ _) | (with_reducible refine Below.drew ?_) | (with_reducible refine below_drewN ?_ _) | (with_reducible refine Below.setCell ?_ ?_ _) | go_size)))).holds (by omega)).mono ?_; rintro e w3 ⟨rfl, hb3⟩; obtain ⟨hc3, hf3⟩ := bcell hb3; have hB3 : Below w.heap.size w w3 := Below.trans (by repeat' (first | (with_reducible exact Below.refl _ _) | (with_reducible assumption) | (with_reducible refine Below.alloc ?_ ?_ _) | (with_reducible refine Below.drew ?_) | (with_reducible refine below_drewN ?_ _) | (with_reducible refine Below.setCell ?_ ?_ _) | go_size)) (hb3.mono (by go_size)); (have hs3 := hb3.size); (try simp at hs3); (try (have hl3 := Nat.lt_of_succ_le hs3)); (first | (have hz3 : w.heap.size < w3.heap.size := by omega) | (have hz3 : w.heap.size ≤ w3.heap.size := by omega)); (try (have hz1_3 : w1.heap.size < w3.heap.size := by omega)); (try (have hz2_3 : w2.heap.size < w3.heap.size := by omega)); (try (have hz4_3 : w4.heap.size < w3.heap.size := by omega)); (try (have hz5_3 : w5.heap.size < w3.heap.size := by omega)); (try (have hzc_3 : wc.heap.size < w3.heap.size := by omega)); (try (have hy1_3 : w.heap.size + 1 < w3.heap.size := by omega)); (try (have hy2_3 : w.heap.size + 2 < w3.heap.size := by omega)); (try (have hy3_3 : w.heap.size + 3 < w3.heap.size := by omega)); (have k3_0 : w3.cell? ⟨w.heap.size, 0, none⟩ = some (.bool false) := by (rw [hb3.cell (by first | (simp; done) | (simp; omega) | omega)]; first | assumption | (simp [go_sem]; done) | (simp [*, go_sem]; done))); (have k3_1 : w3.cell? ⟨w.heap.size, 1, none⟩ = some (.slice none 0 0) := by (rw [hb3.cell (by first | (simp; done) | (simp; omega) | omega)]; first | assumption | (simp [go_sem]; done) | (simp [*, go_sem]; done))); (have k3_2 : w3.frozen? ⟨w.heap.size, 0, none⟩ = false := by (rw [hb3.frozen (by first | (simp; done) | (simp; omega) | omega)]; first | assumption | (simp [go_sem]; done) | (simp [*, go_sem]; done))); (have k3_3 : w3.frozen? ⟨w.heap.size, 1, none⟩ = false := by (rw [hb3.frozen (by first | (simp; done) | (simp; omega) | omega)]; first | assumption | (simp [go_sem]; done) | (simp [*, go_sem]; done))); (have k3_4 : w3.cell? ⟨w2.heap.size, 0, none⟩ = some (.bool (wneg zz)) := by (rw [hb3.cell (by first | (simp; done) | (simp; omega) | omega)]; first | assumption | (simp [go_sem]; done) | (simp [*, go_sem]; done))); (have k3_5 : w3.cell? ⟨w2.heap.size, 1, none⟩ = some (.slice A2 (wlimbs zz).length d2) := by (rw [hb3.cell (by first | (simp; done) | (simp; omega) | omega)]; first | assumption | (simp [go_sem]; done) | (simp [*, go_sem]; done))))
            have T3 := Lib.hid (show Below w2.heap.size w2 w3 from Below.trans (by (repeat' (first | (with_reducible exact Below.refl _ _) | (with_reducible assumption) | (with_reducible refine Below.alloc ?_ ?_ _) | (with_reducible refine Below.drew ?_) | (with_reducible refine below_drewN ?_ _) | (with_reducible refine Below.setCell ?_ ?_ _) | go_size))) (hb3.mono (by go_size)))
            have N3 := Lib.hid (N2.out.below T3.out)
            have hq2 := hb2.size
            go_wp2
            refine bodyPost_ret (by simp [results, Tryd.results9, go_sem, *]; try rfl) rfl ?_
            exact fail_ret HOK.out (by repeat' (first | (with_reducible exact Below.refl _ _) | (with_reducible assumption) | (with_reducible refine Below.alloc ?_ ?_ _) | (with_reducible refine Below.drew ?_) | (with_reducible refine below_drewN ?_ _) | (with_reducible refine Below.setCell ?_ ?_ _) | go_size)) rfl
  · have HF := Lib.hid (pwB_len (s := s) (by rw [HDl.out]; exact hlen))
    have hin : inB (DB.size : Int) 1 1600 = false := inB_not.2 (by omega)
    clear hds
    cases neg
    · obtain ⟨h0, h1⟩ := HH.out.no rfl
      subst h0
      rcases h1 with h1 | ⟨h1, b, hb, hx⟩
      · skip
        have h0 : ¬ (0 : Int) < (DB.size : Int) := by omega
        go_enter Tryd.func9, Tryd.ntmps9
        go_wp2_with (go_at_call 43; refine (l1In_any _ _ _ _).mono ?_; rintro e w' ⟨rfl, rfl⟩)
        refine bodyPost_ret (by simp [results, Tryd.results9, go_sem, *]; try rfl) rfl ?_
        exact fail_ret HF.out (by repeat' (first | (with_reducible exact Below.refl _ _) | (with_reducible assumption) | (with_reducible refine Below.alloc ?_ ?_ _) | (with_reducible refine Below.drew ?_) | (with_reducible refine below_drewN ?_ _) | (with_reducible refine Below.setCell ?_ ?_ _) | go_size)) rfl
      · skip
        have h3 : (0 : Int) < (DB.size : Int) := by omega
        go_enter Tryd.func9, Tryd.ntmps9
        go_wp2_with (go_at_call 43; refine (l1In_any _ _ _ _).mono ?_; rintro e w' ⟨rfl, rfl⟩)
        refine bodyPost_ret (by simp [results, Tryd.results9, go_sem, *]; try rfl) rfl ?_
        exact fail_ret HF.out (by repeat' (first | (with_reducible exact Below.refl _ _) | (with_reducible assumption) | (with_reducible refine Below.alloc ?_ ?_ _) | (with_reducible refine Below.drew ?_) | (with_reducible refine below_drewN ?_ _) | (with_reducible refine Below.setCell ?_ ?_ _) | go_size)) rfl
    · skip
      obtain ⟨h0, h1, h2⟩ := HH.out.yes rfl
      have h3 : (0 : Int) < (S.size : Int) := by omega
      go_enter Tryd.func9, Tryd.ntmps9
      go_wp2_with (go_at_call 43; refine (l1In_any _ _ _ _).mono ?_; rintro e w' ⟨rfl, rfl⟩)
      refine bodyPost_ret (by simp [results, Tryd.results9, go_sem, *]; try rfl) rfl ?_
      exact fail_ret HF.out (by repeat' (first | (with_reducible exact Below.refl _ _) | (with_reducible assumption) | (with_reducible refine Below.alloc ?_ ?_ _) | (with_reducible refine Below.drew ?_) | (with_reducible refine below_drewN ?_ _) | (with_reducible refine Below.setCell ?_ ?_ _) | go_size)) rfl
theorem ParseWhole_spec (s : List UInt8) (hl : s.length ≤ 1048576) (w : World) :
    Calls Tryd.prog 9 #[.string (bsOf s)] w fun e w' => ∃ A c, e = .returned (.tuple #[.agg #[.bool (wneg (pwZ s)), .slice A (wlimbs (pwZ s)).length c], .bool (pwB s)]) ∧ Nums w' w.heap.size (.slice A (wlimbs (pwZ s)).length c) (wlimbs (pwZ s)) ∧ Below w.heap.size w w' :=
  ParseWhole_tail s _ _ _ _ hl rfl rfl rfl rfl w
end Go.Proofs.YtklhmaegpejdbaaDoor
