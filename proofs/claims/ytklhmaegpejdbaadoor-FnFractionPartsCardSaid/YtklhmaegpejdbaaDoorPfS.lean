/- spec.l1Split: the pieces between the slashes. -/
import Derived.Test.YtklhmaegpejdbaaDoorPfA
import Derived.Test.YtklhmaegpejdbaaDoorPzH
namespace Go.Proofs.YtklhmaegpejdbaaDoor.Sp
open Go.RowKit
set_option linter.unusedVariables false
set_option linter.unusedSimpArgs false
set_option maxRecDepth 100000
theorem underStrs : Tryd.prog.underlying 96 = some (.slice 9) := by kernel_rfl
theorem infoStr : (Tryd.prog.info? 9).map (fun i => (i.zero, i.size, i.bytes)) = some (some (.string ⟨#[]⟩), 1, 16) := by kernel_rfl
theorem oneS_at {w : World} (o : Obj) (x : Value) (ho : o = .cells #[x] 9) : ∀ (j : Nat) (u : Value), [x][j]? = some u → (w.alloc o).cell? ((⟨w.heap.size, 0, none⟩ : Addr).add j) = some u := by
  intro j u hj
  subst ho
  match j, hj with
  | 0, hj => simp at hj; subst hj; simp [Addr.add]
theorem oneS_cell (x : ByteArray) : ∀ u ∈ [Value.string x], u.oneCell' = true := by intro u hu; simp at hu; subst hu; rfl
/-- v is a slice of the strings ss; its memory lies behind block number B. -/
def Strs (w : World) (B : Nat) (v : Value) (ss : List ByteArray) : Prop := w.ownsRow B 9 1 v ss.length (ss.map Value.string)
theorem strs_step {w wr w1 : World} {B : Nat} {v v' : Value} {ss : List ByteArray} {x : ByteArray} {o : Obj} (h : Strs wr B v ss) (hnx : Below B w wr) (hB : B ≤ wr.heap.size)
    (hown' : w1.ownsRow B 9 1 v' (ss.length + 1) (ss.map Value.string ++ [.string x])) (hgrow : (wr.alloc o).grownBy w1 v.ownBlock) :
    Strs w1 B v' (ss ++ [x]) ∧ Below B w w1 := by
  refine ⟨?_, (hnx.alloc hB o).grown hgrow (by simp; omega) fun j hj => (World.ownsRow.lt h j hj).1⟩
  unfold Strs
  rw [List.length_append, List.map_append]
  exact hown'
theorem Strs.below {w w' : World} {B : Nat} {v : Value} {ss : List ByteArray} (h : Strs w B v ss) (hb : Below w.heap.size w w') : Strs w' B v ss := by
  refine ⟨h.1, ?_⟩
  rcases h.2 with h2 | ⟨g, cap, cur, h1, h3, hg, h4⟩
  · exact .inl h2
  · exact .inr ⟨g, cap, cur, h1, h3, (hb.block g (Array.getElem?_eq_some_iff.1 hg).1).trans hg, h4⟩
theorem Strs.shape {w : World} {B : Nat} {v : Value} {ss : List ByteArray} (h : Strs w B v ss) (hne : ss ≠ []) :
    ∃ g cap, v = .slice (some ⟨g, 0, none⟩) ss.length cap ∧ g < w.heap.size ∧ ss.length ≤ cap ∧ ∀ (k : Nat) (x : ByteArray), ss[k]? = some x → w.cell? ⟨g, 0 + k, none⟩ = some (.string x) := by
  have h0 : w.ownsRow B 9 1 v ss.length (ss.map Value.string) := h
  rcases h0.2 with ⟨hv, hn⟩ | ⟨g, cap, cur, rfl, hb, hg, hc, _⟩
  · exact absurd (List.length_eq_zero_iff.1 hn) hne
  · refine ⟨g, cap, rfl, (Array.getElem?_eq_some_iff.1 hg).1, hc, fun k x hx => ?_⟩
    have hk := (List.getElem?_eq_some_iff.1 hx).1
    rw [Nat.zero_add, h0.cellAt k (by omega)]
    simp [hx]
theorem Strs.nil (w : World) (B : Nat) : Strs w B (.slice none 0 0) [] := World.ownsRow_nil _ _ _ _
theorem sp_map (P : List (List UInt8)) (c : List UInt8) : P.map bsOf ++ [bsOf c] = (P ++ [c]).map bsOf := by simp
set_option maxHeartbeats 4000000 in
theorem l1Split_any (l : List UInt8) (hl : l.length ≤ 1048576) (w : World) :
    Calls Tryd.prog 96 #[.string (bsOf l), .int .u8 47] w fun e w' => ∃ v, e = .returned v ∧ Strs w' w.heap.size v ((splitL l).map bsOf) ∧ Below w.heap.size w w' := by
  obtain ⟨i0, hi, hz0, hz1, hz2⟩ := info_parts infoStr
  obtain ⟨S, hS⟩ : ∃ S, bsOf l = S := ⟨_, rfl⟩
  have hss : S.size = l.length := by rw [← hS, bsOf_size]
  have HS := Lib.hid hS
  have HSS := Lib.hid hss
  rw [hS]
  clear hss hS
  go_enter Tryd.func96, Tryd.ntmps96
  go_wp2
  go_loopw [5, 6, 7] (fun v f i wr => ∃ (j q : Nat) (P : List (List UInt8)), q ≤ j ∧ j ≤ S.size ∧ f = .int .i64 (q : Int) ∧ i = .int .i64 (j : Int) ∧ Hid (P ++ splitF ((l.take j).drop q) (l.drop j) = splitL l) ∧ P.length ≤ j ∧ Hid (Strs wr w.heap.size v (P.map bsOf)) ∧ Hid (Below w.heap.size w wr)) (fun _ _ i _ => S.size - (intOf i).toNat)
  case atStart => exact ⟨0, 0, [], by omega, by omega, rfl, rfl, Lib.hid rfl, by simp, Lib.hid (Strs.nil _ _), Lib.hid (by (repeat' (first | (with_reducible exact Below.refl _ _) | (with_reducible assumption) | (with_reducible refine Below.alloc ?_ ?_ _) | (with_reducible refine Below.drew ?_) | (with_reducible refine below_drewN ?_ _) | (with_reducible refine Below.setCell ?_ ?_ _) | go_size)))⟩
  case round =>
    obtain ⟨j, q, P, hqj, hj, rfl, rfl, HP, hPl, HN, HB⟩ := hrel
    have hsz : w.heap.size ≤ wr.heap.size := HB.out.size
    have hlS : S.size ≤ 1048576 := by have := HSS.out; omega
    by_cases hjl : j < S.size
    · obtain ⟨c, hc⟩ : ∃ c, l[j]? = some c := ⟨_, List.getElem?_eq_getElem (by have := HSS.out; omega)⟩
      have kx : ∀ w : World, (Instr.index 9 (.string S) (.int .i64 (j : Int))).run Tryd.prog w = .ok (.int .u8 (c.toNat : Int)) w := fun w => by rw [← HS.out]; exact index_at l j c hc w
      have HD := Lib.hid (show l.drop j = c :: l.drop (j + 1) by obtain ⟨h1, h2⟩ := List.getElem?_eq_some_iff.1 hc; rw [List.drop_eq_getElem_cons h1, h2])
      have HTk := Lib.hid (take_snoc hc)
      have d1 : (j : Int) < (S.size : Int) := by omega
      clear hc
      by_cases h47 : c = 47
      · have e1 : ((c.toNat : Int) == 47) = true := by rw [h47]; rfl
        obtain ⟨X, HX⟩ : ∃ X, Hid (S.extract q j = X) := ⟨_, Lib.hid rfl⟩
        have HXb := Lib.hid (show X = bsOf ((l.take j).drop q) by rw [← HX.out, ← HS.out]; exact ext_mid l q j)
        have ks : ∀ w : World, (Instr.slice 9 (.string S) (some (.int .i64 (q : Int))) (some (.int .i64 (j : Int))) none).run Tryd.prog w = .ok (.string X) w := fun w => by
          rw [run_slice_string _ _ _ _ _ _ _ stringU (by omega) (by omega) (by omega), Int.toNat_natCast, Int.toNat_natCast, HX.out]
        have HPn : Hid ((P ++ [(l.take j).drop q]) ++ splitF ((l.take (j + 1)).drop (j + 1)) (l.drop (j + 1)) = splitL l) := Lib.hid (by
          have h := HP.out
          rw [HD.out, splitF, if_pos h47] at h
          rw [List.append_assoc, List.singleton_append, show (l.take (j + 1)).drop (j + 1) = [] by rw [List.drop_eq_nil_of_le]; rw [List.length_take]; omega]
          exact h)
        have HO := Lib.hid (show wr.ownsRow w.heap.size 9 1 _ (P.map bsOf).length ((P.map bsOf).map Value.string) from HN.out)
        have hpl : (P.map bsOf).length ≤ 1048576 := by rw [List.length_map]; omega
        clear h47
        go_wp2_with (at_builtin; refine wpList_append_own _ rfl _ _ 96 rfl w.heap.size 9 i0 (.string ⟨#[]⟩) 1 16 underStrs hi hz0 hz1 hz2 rfl (by decide) _ _ _ rfl (World.ownsRow.alloc HO.out _) ⟨wr.heap.size, 0, none⟩ 1 1 [.string X] rfl rfl (oneS_at _ _ rfl) (oneS_cell _) (by unfold maxLen; omega) (by omega) (by simp; omega) ?_; intro v' w1 hown' hgrow _)
        have R := strs_step HN.out HB.out hsz hown' hgrow
        have R1 := Lib.hid R.1
        have R2 := Lib.hid R.2
        rw [HXb.out, sp_map] at R1
        clear R hown' hgrow
        go_wp2
        go_roundw
        case rel => exact ⟨j + 1, j + 1, _, by omega, by omega, by go_num, by go_num, HPn, by rw [List.length_append]; simp; omega, R1, R2⟩
        case measure => simp [intOf]; omega
      · have e1 : ((c.toNat : Int) == 47) = false := beq_false_of_ne fun e => h47 (by apply UInt8.toNat_inj.1; show c.toNat = 47; omega)
        have HPn : Hid (P ++ splitF ((l.take (j + 1)).drop q) (l.drop (j + 1)) = splitL l) := Lib.hid (by
          have h := HP.out
          rw [HD.out, splitF, if_neg h47] at h
          rw [HTk.out, List.drop_append_of_le_length (by rw [List.length_take]; have := HSS.out; omega)]
          exact h)
        clear h47
        go_wp2
        go_roundw
        case rel => exact ⟨j + 1, q, P, by omega, by omega, rfl, by go_num, HPn, by omega, HN, HB⟩
        case measure => simp [intOf]; omega
    · obtain rfl : j = S.size := by omega
      obtain ⟨X, HX⟩ : ∃ X, Hid (S.extract q S.size = X) := ⟨_, Lib.hid rfl⟩
      have HXb := Lib.hid (show X = bsOf (l.drop q) by rw [← HX.out, ← HS.out]; exact ext_from l q)
      have ks : ∀ w : World, (Instr.slice 9 (.string S) (some (.int .i64 (q : Int))) none none).run Tryd.prog w = .ok (.string X) w := fun w => by
        rw [run_slice_string_l (ht := stringU) (h0 := by omega) (h1 := by omega), Int.toNat_natCast, HX.out]
      have HPn : Hid (P ++ [l.drop q] = splitL l) := Lib.hid (by
        have h := HP.out
        have hn := HSS.out
        rw [hn, List.drop_length, List.take_length, splitF] at h
        exact h)
      have HO := Lib.hid (show wr.ownsRow w.heap.size 9 1 _ (P.map bsOf).length ((P.map bsOf).map Value.string) from HN.out)
      have hpl : (P.map bsOf).length ≤ 1048576 := by rw [List.length_map]; omega
      go_wp2_with (at_builtin; refine wpList_append_own _ rfl _ _ 96 rfl w.heap.size 9 i0 (.string ⟨#[]⟩) 1 16 underStrs hi hz0 hz1 hz2 rfl (by decide) _ _ _ rfl (World.ownsRow.alloc HO.out _) ⟨wr.heap.size, 0, none⟩ 1 1 [.string X] rfl rfl (oneS_at _ _ rfl) (oneS_cell _) (by unfold maxLen; omega) (by omega) (by simp; omega) ?_; intro v' w1 hown' hgrow _)
      have R := strs_step HN.out HB.out hsz hown' hgrow
      have R1 := Lib.hid R.1
      have R2 := Lib.hid R.2
      rw [HXb.out, sp_map, HPn.out] at R1
      clear R hown' hgrow
      go_wp2
      go_ret
      exact ⟨_, rfl, R1.out, R2.out⟩
end Go.Proofs.YtklhmaegpejdbaaDoor.Sp
