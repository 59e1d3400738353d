/- impl.numbersText; the cubic's text. -/
import Derived.Test.YtklhmaegpejdbaaDoorShelfJ
import Derived.Test.YtklhmaegpejdbaaDoorInts
import Derived.Test.YtklhmaegpejdbaaDoorCubic
import Derived.Deep.RegionHeld3
import Derived.Deep.DeepCutAuto
namespace Go.Proofs.YtklhmaegpejdbaaDoor
open Go.RowKit
set_option linter.unusedVariables false
set_option linter.unusedSimpArgs false
set_option maxRecDepth 100000
/-- A cubic's text. -/
def ctS (a b c d : Int) : ByteArray := ((((((itoS a ++ ⟨#[32]⟩) ++ itoS b) ++ ⟨#[32]⟩) ++ itoS c) ++ ⟨#[32]⟩) ++ itoS d)
theorem ctS_join (a b c d : Int) : (⟨(Lib.join ([itoS a, itoS b, itoS c, itoS d].map (·.data.toList)) [32]).toArray⟩ : ByteArray) = ctS a b c d := by
  unfold ctS
  apply ByteArray.ext
  apply Array.toList_inj.1
  simp [Lib.join_cons, Lib.joinTail]
theorem underStrs : Tryd.prog.underlying 96 = some (.slice 9) := by kernel_rfl
theorem infoStr : (Tryd.prog.info? 9).map (fun i => (i.zero, i.size, i.bytes)) = some (some (.string ⟨#[]⟩), 1, 16) := by kernel_rfl
theorem oneS_at {w : World} (o : Obj) (x : Value) (ho : o = .cells #[x] 9) : ∀ (j : Nat) (u : Value), [x][j]? = some u → (w.alloc o).cell? ((⟨w.heap.size, 0, none⟩ : Addr).add j) = some u := by
  intro j u hj
  subst ho
  match j, hj with
  | 0, hj => simp at hj; subst hj; simp [Addr.add]
theorem oneS_cell (x : ByteArray) : ∀ u ∈ [Value.string x], u.oneCell' = true := by intro u hu; simp at hu; subst hu; rfl
/-- v is a slice of the strings ss; its memory lies behind block number B. -/
def Strs (w : World) (B : Nat) (v : Value) (ss : List ByteArray) : Prop := w.ownsRow B 9 1 v ss.length (ss.map Value.string)
theorem strs_step {w wr w1 : World} {B : Nat} {v v' : Value} {ss : List ByteArray} {x : ByteArray} {o : Obj} (h : Strs wr B v ss) (hnx : Below B w wr) (hB : B ≤ wr.heap.size)
    (hown' : w1.ownsRow B 9 1 v' (ss.length + 1) (ss.map Value.string ++ [.string x])) (hgrow : (wr.alloc o).grownBy w1 v.ownBlock) :
    Strs w1 B v' (ss ++ [x]) ∧ Below B w w1 := by
  refine ⟨?_, (hnx.alloc hB o).grown hgrow (by simp; omega) fun j hj => (World.ownsRow.lt h j hj).1⟩
  unfold Strs
  rw [List.length_append, List.map_append]
  exact hown'
theorem Strs.below {w w' : World} {B : Nat} {v : Value} {ss : List ByteArray} (h : Strs w B v ss) (hb : Below w.heap.size w w') : Strs w' B v ss := by
  refine ⟨h.1, ?_⟩
  rcases h.2 with h2 | ⟨g, cap, cur, h1, h3, hg, h4⟩
  · exact .inl h2
  · exact .inr ⟨g, cap, cur, h1, h3, (hb.block g (Array.getElem?_eq_some_iff.1 hg).1).trans hg, h4⟩
theorem Strs.shape {w : World} {B : Nat} {v : Value} {ss : List ByteArray} (h : Strs w B v ss) (hne : ss ≠ []) :
    ∃ g cap, v = .slice (some ⟨g, 0, none⟩) ss.length cap ∧ g < w.heap.size ∧ ss.length ≤ cap ∧ ∀ (k : Nat) (x : ByteArray), ss[k]? = some x → w.cell? ⟨g, 0 + k, none⟩ = some (.string x) := by
  have h0 : w.ownsRow B 9 1 v ss.length (ss.map Value.string) := h
  rcases h0.2 with ⟨hv, hn⟩ | ⟨g, cap, cur, rfl, hb, hg, hc, _⟩
  · exact absurd (List.length_eq_zero_iff.1 hn) hne
  · refine ⟨g, cap, rfl, (Array.getElem?_eq_some_iff.1 hg).1, hc, fun k x hx => ?_⟩
    have hk := (List.getElem?_eq_some_iff.1 hx).1
    rw [Nat.zero_add, h0.cellAt k (by omega)]
    simp [hx]
theorem call_join {g cap : Nat} {ss : List ByteArray} {w : World} (hc : ∀ (k : Nat) (x : ByteArray), ss[k]? = some x → w.cell? ⟨g, 0 + k, none⟩ = some (.string x)) (hg : g < w.heap.size) (hn : ss.length ≤ 1000) (hcap : ss.length ≤ cap)
    (hlen : (Lib.join (ss.map (·.data.toList)) [32]).length ≤ 140737488355328) :
    Calls Tryd.prog 103 #[.slice (some ⟨g, 0, none⟩) ss.length cap, .string ⟨#[32]⟩] w fun e w' => e = .returned (.string ⟨(Lib.join (ss.map (·.data.toList)) [32]).toArray⟩) ∧ Below w.heap.size w w' :=
  strings_Join g 0 cap ss ⟨#[32]⟩ w hc hg (by omega) hcap hlen
theorem four_cells (w : World) (a b c d : Int) : ∀ (k : Nat) (x : Int), [a, b, c, d][k]? = some x → (w.alloc (.cells #[.int .i64 a, .int .i64 b, .int .i64 c, .int .i64 d] 3)).cell? ⟨w.heap.size, k, none⟩ = some (.int .i64 x) := fun k x hx => by
  match k, hx with
  | 0, hx => simp at hx; subst hx; simp [go_sem]
  | 1, hx => simp at hx; subst hx; simp [go_sem]
  | 2, hx => simp at hx; subst hx; simp [go_sem]
  | 3, hx => simp at hx; subst hx; simp [go_sem]
  | n + 4, hx => simp at hx
set_option maxHeartbeats 4000000 in
theorem numbersText_any (a b c d : Int) (ha : -9223372036854775807 ≤ a ∧ a ≤ 9223372036854775807) (hb : -9223372036854775807 ≤ b ∧ b ≤ 9223372036854775807) (hc : -9223372036854775807 ≤ c ∧ c ≤ 9223372036854775807) (hd : -9223372036854775807 ≤ d ∧ d ≤ 9223372036854775807)
    (g cap : Nat) (w : World) (hx : ∀ (k : Nat) (x : Int), [a, b, c, d][k]? = some x → w.cell? ⟨g, k, none⟩ = some (.int .i64 x)) (hg : g < w.heap.size) (ht : Tab w) :
    Calls Tryd.prog 66 #[.slice (some ⟨g, 0, none⟩) 4 cap] w fun e w' => e = .returned (.string (ctS a b c d)) ∧ Below w.heap.size w w' := by
  obtain ⟨i0, hi, hz0, hz1, hz2⟩ := info_parts infoStr
  have HT := Lib.hid ht
  have HX := Lib.hid hx
  have HR : Hid (∀ x ∈ [a, b, c, d], -9223372036854775807 ≤ x ∧ x ≤ 9223372036854775807) := Lib.hid (by intro x hx; simp at hx; rcases hx with rfl | rfl | rfl | rfl <;> assumption)
  obtain ⟨L, HLn⟩ : ∃ L, Hid ([a, b, c, d] = L) := ⟨_, Lib.hid rfl⟩
  have hL : L.length = 4 := by rw [← HLn.out]; rfl
  rw [HLn.out] at HX HR
  clear ht hx ha hb hc hd
  go_enter Tryd.func66, Tryd.ntmps66
  go_wp2
  go_loopw [3, 8] (fun v i wr => ∃ k : Nat, k ≤ 4 ∧ i = .int .i64 k ∧ Hid (Strs wr w.heap.size v ((L.take k).map itoS)) ∧ Hid (Below w.heap.size w wr)) (fun _ i _ => 4 - (intOf i).toNat)
  case atStart => exact ⟨0, by omega, rfl, World.ownsRow_nil _ _ _ _, Below.refl _ _⟩
  case round =>
    obtain ⟨k, hk, rfl, HN, HB⟩ := hrel
    have hsz := HB.out.size
    have hlen : ((L.take k).map itoS).length = k := by simp; omega
    by_cases hlt : k < 4
    · obtain ⟨x, HXk⟩ : ∃ x, Hid (L[k]? = some x) := ⟨_, Lib.hid (List.getElem?_eq_getElem (by omega))⟩
      have hxr := HR.out x (List.mem_of_getElem? HXk.out)
      obtain ⟨sx, HSx⟩ : ∃ s, Hid (itoS x = s) := ⟨_, Lib.hid rfl⟩
      have hcx : wr.cell? ⟨g, k, none⟩ = some (.int .i64 x) := by rw [HB.out.cell (p := ⟨g, k, none⟩) hg]; exact HX.out k x HXk.out
      have HI : Hid (∀ w : World, Tab w → Calls Tryd.prog 92 #[.int .i64 x] w fun e w' => e = .returned (.string sx) ∧ Below w.heap.size w w') := Lib.hid (fun w hw => by rw [← HSx.out]; exact itoa_any x (by omega) (by omega) w hw)
      have b0 : (0 : Int) ≤ (k : Int) := by omega
      have b1 : (k : Int) < 4 := by omega
      go_wp2_with fail
      (go_at_call 92; refine (HI.out _ (HT.out.below HB.out)).mono ?_; rintro e w2 ⟨rfl, hb2⟩)
      have HN2 := Lib.hid (Strs.below HN.out hb2)
      have HB2 := Lib.hid (HB.out.trans (hb2.mono hsz))
      have hsz2 := HB2.out.size
      clear hb2
      have hown : w2.ownsRow w.heap.size 9 1 _ ((L.take k).map itoS).length (((L.take k).map itoS).map Value.string) := HN2.out
      have HO := Lib.hid hown
      clear hown
      go_wp2_with (at_builtin; refine wpList_append_own _ rfl _ _ 96 rfl w.heap.size 9 i0 (.string ⟨#[]⟩) 1 16 underStrs hi hz0 hz1 hz2 rfl (by decide) _ _ _ rfl (World.ownsRow.alloc HO.out _) ⟨w2.heap.size, 0, none⟩ 1 1 [.string sx] rfl rfl (oneS_at _ _ rfl) (oneS_cell _) (by unfold maxLen; omega) (by omega) (by simp; omega) ?_; intro v' w1 hown' hgrow _)
      have R := strs_step HN2.out HB2.out hsz2 hown' hgrow
      have R1 := Lib.hid R.1
      have R2 := Lib.hid R.2
      have HTk : Hid ((L.take (k + 1)).map itoS = (L.take k).map itoS ++ [sx]) := by
        refine Lib.hid ?_
        rw [List.take_add_one, HXk.out]
        simp [HSx.out]
      clear R hown' hgrow
      go_wp2
      go_roundw
      case rel => exact ⟨k + 1, by omega, by go_num, by rw [HTk.out]; exact R1.out, R2⟩
      case measure => simp [intOf]; omega
    · obtain rfl : k = 4 := by omega
      have HV : Hid ((⟨(Lib.join (((L.take 4).map itoS).map (·.data.toList)) [32]).toArray⟩ : ByteArray) = ctS a b c d) := by
        rw [← HLn.out]; exact ctS_join a b c d
      have HLen : (Lib.join (((L.take 4).map itoS).map (·.data.toList)) [32]).length ≤ 140737488355328 := by
        have e : (Lib.join (((L.take 4).map itoS).map (·.data.toList)) [32]).length = (ctS a b c d).size := by rw [← HV.out]; rfl
        have h1 : ∀ x ∈ L, (itoS x).size ≤ 21 := fun x hx => itoS_size x (HR.out x hx).1 (HR.out x hx).2
        rw [← HLn.out] at h1
        have ha := h1 a (by simp)
        have hb := h1 b (by simp)
        have hc := h1 c (by simp)
        have hd := h1 d (by simp)
        have e0 : (⟨#[32]⟩ : ByteArray).size = 1 := rfl
        have e1 : (ctS a b c d).size ≤ 1000 := by
          unfold ctS
          simp only [ByteArray.size_append, e0]
          omega
        omega
      obtain ⟨g', cap', rfl, hg', hcap, hcell⟩ := HN.out.shape (by intro h; rw [h] at hlen; simp at hlen)
      have HC := Lib.hid hcell
      have hlen2 : ((L.take 4).map itoS).length ≤ 1000 := by rw [hlen]; decide
      have HJ := Lib.hid (call_join HC.out hg' hlen2 hcap HLen)
      clear hcap hlen2
      rw [HV.out, hlen] at HJ
      clear HLen hcell
      go_wp2_with (go_at_call 103; refine HJ.out.mono ?_; rintro e w3 ⟨rfl, hb3⟩)
      go_ret
      exact ⟨rfl, HB.out.trans (hb3.mono hsz)⟩
end Go.Proofs.YtklhmaegpejdbaaDoor
