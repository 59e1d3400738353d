/-
  DERIVED. GIVEN WITH THE SEED: THE CARDS: each row of YtklhmaegpejdbaaDoorRows.lean that lists a variable, with what it lists TIED to the program's text (the seventh form; the later family's looks); each row that meets fmt, with fmt's text TOLD by the authors' own Lean function (tested against real Go, not proved from fmt's source: count such statements apart). THE CARD IS WHAT COUNTS. Prove the row's statement (the work); the ties are given (YtklhmaegpejdbaaDoorTie.lean); close each card by the builder's one call (the guide's Derived/Test/ToyasCard.lean, 'card_holds'). Laid BY PROGRAM, IN A SANDBOX (cutbox-door.mjs). By AI agents, Wed Nov 11 2026. No macro, syntax, notation, axiom, sorry.
-/
import Derived.Test.YtklhmaegpejdbaaDoorRows
import GoSem.ClaimSeven
namespace Go.Proofs.YtklhmaegpejdbaaDoor
namespace Rows

/-- THE TIED CARD OF 'laws.FnExactParseWhole'. -/
def fnExactParseWholeCard : Claim7 := { stood := { row := fnExactParseWholeRow, standIns := [], harness := (true, "6b73a699841fbedac72ad245a602cc8307bfe4d77696bf95a0a3f9719bd33985"), looks := true }, kinds := [], alts := [], laidByText := true, laidKinds := [.data, .data, .data], laidTests := true, laidLooks := .later }
def FnExactParseWholeCardSaid : Prop := Claim7.holds Tryd.pinned (.plain (OpenSpec.ofChange fnExactParseWholeSpec)) fnExactParseWholeCard

/-- THE TIED CARD OF 'laws.FnExactWholeText'. -/
def fnExactWholeTextCard : Claim7 := { stood := { row := fnExactWholeTextRow, standIns := [], harness := (true, "6b73a699841fbedac72ad245a602cc8307bfe4d77696bf95a0a3f9719bd33985"), looks := true }, kinds := [], alts := [], laidByText := true, laidKinds := [.data, .data, .data], laidTests := true, laidLooks := .later }
def FnExactWholeTextCardSaid : Prop := Claim7.holds Tryd.pinned (.plain (OpenSpec.ofChange fnExactWholeTextSpec)) fnExactWholeTextCard

/-- THE TIED CARD OF 'laws.FnExactParseFraction'. -/
def fnExactParseFractionCard : Claim7 := { stood := { row := fnExactParseFractionRow, standIns := [], harness := (true, "6b73a699841fbedac72ad245a602cc8307bfe4d77696bf95a0a3f9719bd33985"), looks := true }, kinds := [], alts := [], laidByText := true, laidKinds := [.data, .data, .data, .sentinel, .sentinel], laidTests := true, laidLooks := .later }
def FnExactParseFractionCardSaid : Prop := Claim7.holds Tryd.pinned (.plain (OpenSpec.ofChange fnExactParseFractionSpec)) fnExactParseFractionCard

/-- THE TIED CARD OF 'laws.FnExactFractionText'. -/
def fnExactFractionTextCard : Claim7 := { stood := { row := fnExactFractionTextRow, standIns := [], harness := (true, "6b73a699841fbedac72ad245a602cc8307bfe4d77696bf95a0a3f9719bd33985"), looks := true }, kinds := [], alts := [], laidByText := true, laidKinds := [.data, .data, .data], laidTests := true, laidLooks := .later }
def FnExactFractionTextCardSaid : Prop := Claim7.holds Tryd.pinned (.plain (OpenSpec.ofChange fnExactFractionTextSpec)) fnExactFractionTextCard

/-- THE TIED CARD OF 'laws.FnExactCubicText'. -/
def fnExactCubicTextCard : Claim7 := { stood := { row := fnExactCubicTextRow, standIns := [], harness := (true, "6b73a699841fbedac72ad245a602cc8307bfe4d77696bf95a0a3f9719bd33985"), looks := true }, kinds := [], alts := [], laidByText := true, laidKinds := [.data, .data, .data], laidTests := true, laidLooks := .later }
def FnExactCubicTextCardSaid : Prop := Claim7.holds Tryd.pinned (.plain (OpenSpec.ofChange fnExactCubicTextSpec)) fnExactCubicTextCard

/-- THE TIED CARD OF 'laws.FnFractionParts'. -/
def fnFractionPartsCard : Claim7 := { stood := { row := fnFractionPartsRow, standIns := [], harness := (true, "6b73a699841fbedac72ad245a602cc8307bfe4d77696bf95a0a3f9719bd33985"), looks := true }, kinds := [], alts := [], laidByText := true, laidKinds := [.data, .data, .data, .sentinel, .sentinel], laidTests := true, laidLooks := .later }
def FnFractionPartsCardSaid : Prop := Claim7.holds Tryd.pinned (.plain (OpenSpec.ofChange fnFractionPartsSpec)) fnFractionPartsCard

/-- THE SECOND FORM's CARD OF 'laws.FnExactParseWhole'. -/
def fnExactParseWholeUptoCard : Claim7 := { stood := { row := fnExactParseWholeUptoRow, standIns := [], harness := (true, "6b73a699841fbedac72ad245a602cc8307bfe4d77696bf95a0a3f9719bd33985"), looks := true }, kinds := [], alts := [], laidByText := true, laidKinds := [.data, .data, .data], laidTests := true, laidLooks := .later }
def FnExactParseWholeUptoCardSaid : Prop := Claim7.holds Tryd.pinned (.plain (OpenSpec.upto fnExactParseWholeSpec)) fnExactParseWholeUptoCard

/-- THE SECOND FORM's CARD OF 'laws.FnExactWholeText'. -/
def fnExactWholeTextUptoCard : Claim7 := { stood := { row := fnExactWholeTextUptoRow, standIns := [], harness := (true, "6b73a699841fbedac72ad245a602cc8307bfe4d77696bf95a0a3f9719bd33985"), looks := true }, kinds := [], alts := [], laidByText := true, laidKinds := [.data, .data, .data], laidTests := true, laidLooks := .later }
def FnExactWholeTextUptoCardSaid : Prop := Claim7.holds Tryd.pinned (.plain (OpenSpec.upto fnExactWholeTextSpec)) fnExactWholeTextUptoCard

/-- THE SECOND FORM's CARD OF 'laws.FnExactParseFraction'. -/
def fnExactParseFractionUptoCard : Claim7 := { stood := { row := fnExactParseFractionUptoRow, standIns := [], harness := (true, "6b73a699841fbedac72ad245a602cc8307bfe4d77696bf95a0a3f9719bd33985"), looks := true }, kinds := [], alts := [], laidByText := true, laidKinds := [.data, .data, .data, .sentinel, .sentinel], laidTests := true, laidLooks := .later }
def FnExactParseFractionUptoCardSaid : Prop := Claim7.holds Tryd.pinned (.plain (OpenSpec.upto fnExactParseFractionSpec)) fnExactParseFractionUptoCard

/-- THE SECOND FORM's CARD OF 'laws.FnExactFractionText'. -/
def fnExactFractionTextUptoCard : Claim7 := { stood := { row := fnExactFractionTextUptoRow, standIns := [], harness := (true, "6b73a699841fbedac72ad245a602cc8307bfe4d77696bf95a0a3f9719bd33985"), looks := true }, kinds := [], alts := [], laidByText := true, laidKinds := [.data, .data, .data], laidTests := true, laidLooks := .later }
def FnExactFractionTextUptoCardSaid : Prop := Claim7.holds Tryd.pinned (.plain (OpenSpec.upto fnExactFractionTextSpec)) fnExactFractionTextUptoCard

/-- THE SECOND FORM's CARD OF 'laws.FnExactCubicText'. -/
def fnExactCubicTextUptoCard : Claim7 := { stood := { row := fnExactCubicTextUptoRow, standIns := [], harness := (true, "6b73a699841fbedac72ad245a602cc8307bfe4d77696bf95a0a3f9719bd33985"), looks := true }, kinds := [], alts := [], laidByText := true, laidKinds := [.data, .data, .data], laidTests := true, laidLooks := .later }
def FnExactCubicTextUptoCardSaid : Prop := Claim7.holds Tryd.pinned (.plain (OpenSpec.upto fnExactCubicTextSpec)) fnExactCubicTextUptoCard

/-- THE SECOND FORM's CARD OF 'laws.FnFractionParts'. -/
def fnFractionPartsUptoCard : Claim7 := { stood := { row := fnFractionPartsUptoRow, standIns := [], harness := (true, "6b73a699841fbedac72ad245a602cc8307bfe4d77696bf95a0a3f9719bd33985"), looks := true }, kinds := [], alts := [], laidByText := true, laidKinds := [.data, .data, .data, .sentinel, .sentinel], laidTests := true, laidLooks := .later }
def FnFractionPartsUptoCardSaid : Prop := Claim7.holds Tryd.pinned (.plain (OpenSpec.upto fnFractionPartsSpec)) fnFractionPartsUptoCard
end Rows
end Go.Proofs.YtklhmaegpejdbaaDoor
