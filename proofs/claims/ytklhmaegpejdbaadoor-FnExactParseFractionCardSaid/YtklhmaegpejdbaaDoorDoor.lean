/- What the listed variables' condition gives: the table of powers of ten, and that the door's own heap meets it. -/
import Derived.Test.YtklhmaegpejdbaaDoorShelfT
import Derived.Test.YtklhmaegpejdbaaDoorCards
import Derived.Test.YtklhmaegpejdbaaDoorTie
import Derived.ProofKit
import Derived.LaidMore
import Derived.Stop.Joined
import Derived.Stop.LaidErr
import Derived.MakeChecks
import Derived.SevenTiedAt
namespace Go.Proofs.YtklhmaegpejdbaaDoor
open Go Go.ChangeShapes Go.WideShapes Go.ChangeAt Go.RowKit
set_option maxRecDepth 100000
theorem pow10Data : (Rows.laid_internal_strconv_uint64pow10 : DataW Unit) = Lib.tabData .u64 Lib.pow10Tab := by kernel_rfl
theorem pow10Named : Tryd.prog.globalNamed "internal/strconv.uint64pow10" = some 4 := by kernel_rfl
theorem tab3 {W : World} (h : laidMetH Tryd.prog Rows.fnExactFractionTextRow.laid W) : Tab W := by
  rw [MakeChecks.laidMetH_plain _ _ _ (by kernel_rfl)] at h
  have h2 : laidMet Tryd.prog [("internal/strconv.uint64pow10", (Rows.laid_internal_strconv_uint64pow10 : DataW Unit))] W := (laidMet.tail (laidMet.tail h))
  rw [pow10Data] at h2
  exact Lib.tabIs_of_head (t := 151) (e := 87) (n := 20) pow10Named (by kernel_rfl) (by kernel_rfl) (by kernel_rfl) (by kernel_rfl) (by kernel_rfl) h2
theorem met3 (os : Os) (args : Array Value) : laidMetH Tryd.prog Rows.fnExactFractionTextRow.laid ((World.doorLaid Tryd.prog 62 os).forCall (fun _ _ => 0) ⟨#[], args, []⟩).memory :=
  laidMetH_of_parts3 (fuel := 8) (laidMet_of_run' 8 (by kernel_rfl) (by kernel_rfl)) (by kernel_rfl) (by kernel_rfl)
end Go.Proofs.YtklhmaegpejdbaaDoor
