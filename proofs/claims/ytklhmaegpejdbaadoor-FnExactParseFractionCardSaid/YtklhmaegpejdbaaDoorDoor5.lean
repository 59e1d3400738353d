/- What the listed variables' condition gives where the two errors of strconv are listed too. -/
import Derived.Test.YtklhmaegpejdbaaDoorDoor
import Derived.Test.YtklhmaegpejdbaaDoorPfA
namespace Go.Proofs.YtklhmaegpejdbaaDoor
open Go Go.ChangeShapes Go.WideShapes Go.ChangeAt Go.RowKit
set_option maxRecDepth 100000
theorem errNamed : Tryd.prog.globalNamed "strconv.ErrSyntax" = some 2 := by kernel_rfl
theorem errType : (Tryd.prog.globals[2]?).map (·.type) = some 76 := by kernel_rfl
theorem rngNamed : Tryd.prog.globalNamed "strconv.ErrRange" = some 3 := by kernel_rfl
theorem rngType : (Tryd.prog.globals[3]?).map (·.type) = some 76 := by kernel_rfl
theorem errStar : "*" ++ "errors.errorString" = "*errors.errorString" := by decide
theorem errRow (u : TypeId) (h : Tryd.prog.typeName? 3 u = some "*errors.errorString") : u = 147 :=
  typeName_ptr_named (nm := "errors.errorString") (by rw [errStar]; kernel_rfl) (by kernel_rfl) (by decide) u (by rw [errStar]; exact h)
def Tab5 (W : World) : Prop := Tab W ∧ Errs W
theorem Tab5.below {w w' : World} (h : Tab5 w) (hb : Below w.heap.size w w') : Tab5 w' := ⟨h.1.below hb, h.2.below hb⟩
theorem tab5 {W : World} (h : laidMetH Tryd.prog Rows.fnExactParseFractionRow.laid W) : Tab5 W := by
  rw [MakeChecks.laidMetH_plain _ _ _ (by kernel_rfl)] at h
  have h2 : laidMet Tryd.prog [("internal/strconv.uint64pow10", (Rows.laid_internal_strconv_uint64pow10 : DataW Unit)), ("strconv.ErrRange", Rows.laid_strconv_ErrRange), ("strconv.ErrSyntax", Rows.laid_strconv_ErrSyntax)] W := (laidMet.tail (laidMet.tail h))
  have h3 : laidMet Tryd.prog [("strconv.ErrRange", (Rows.laid_strconv_ErrRange : DataW Unit)), ("strconv.ErrSyntax", Rows.laid_strconv_ErrSyntax)] W := laidMet.tail h2
  have h4 : laidMet Tryd.prog [("strconv.ErrSyntax", (Rows.laid_strconv_ErrSyntax : DataW Unit))] W := laidMet.tail h3
  rw [pow10Data] at h2
  refine ⟨Lib.tabIs_of_head (t := 151) (e := 87) (n := 20) pow10Named (by kernel_rfl) (by kernel_rfl) (by kernel_rfl) (by kernel_rfl) (by kernel_rfl) h2, ?_, ?_⟩
  · obtain ⟨a, s, hv, _⟩ := laid_sentinel h4 errNamed errType Tryd.underlying76 errRow Tryd.underlying147 Tryd.underlying149 rfl rfl Tryd.underlying9 (by kernel_rfl) (by kernel_rfl)
    exact ⟨_, _, hv⟩
  · obtain ⟨a, s, hv, _⟩ := laid_sentinel h3 rngNamed rngType Tryd.underlying76 errRow Tryd.underlying147 Tryd.underlying149 rfl rfl Tryd.underlying9 (by kernel_rfl) (by kernel_rfl)
    exact ⟨_, _, hv⟩
theorem met5 (os : Os) (args : Array Value) : laidMetH Tryd.prog Rows.fnExactParseFractionRow.laid ((World.doorLaid Tryd.prog 62 os).forCall (fun _ _ => 0) ⟨#[], args, []⟩).memory :=
  laidMetH_of_parts3 (fuel := 8) (laidMet_of_run' 8 (by kernel_rfl) (by kernel_rfl)) (by kernel_rfl) (by kernel_rfl)
end Go.Proofs.YtklhmaegpejdbaaDoor
