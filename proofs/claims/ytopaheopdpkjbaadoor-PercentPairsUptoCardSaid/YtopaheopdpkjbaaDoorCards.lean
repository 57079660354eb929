/-
  DERIVED. GIVEN WITH THE SEED: THE CARDS: each row of YtopaheopdpkjbaaDoorRows.lean that lists a variable, with what it lists TIED to the program's text (the seventh form; the later family's looks); each row that meets fmt, with fmt's text TOLD by the authors' own Lean function (tested against real Go, not proved from fmt's source: count such statements apart). THE CARD IS WHAT COUNTS. Prove the row's statement (the work); the ties are given (YtopaheopdpkjbaaDoorTie.lean); close each card by the builder's one call (the guide's Derived/Test/ToyasCard.lean, 'card_holds'). Laid BY PROGRAM, IN A SANDBOX (cutbox-door.mjs). By AI agents, Wed Nov 11 2026. No macro, syntax, notation, axiom, sorry.
-/
import Derived.Test.YtopaheopdpkjbaaDoorRows
import GoSem.ClaimSeven
namespace Go.Proofs.YtopaheopdpkjbaaDoor
namespace Rows

/-- THE TIED CARD OF 'cringlelaw03.PercentMarks'. -/
def percentMarksCard : Claim7 := { stood := { row := percentMarksRow, standIns := [], harness := (true, "c4ec0e4f5f45faf85a5f2ce25869d575eabfc6150a3c4cc9cd0acf7f898d332a"), looks := false }, kinds := [], alts := [], laidByText := true, laidKinds := [.data, .pinned], laidTests := true, laidLooks := .later }
def PercentMarksCardSaid : Prop := Claim7.holds Tryd.pinned (.plain (OpenSpec.ofChange percentMarksSpec)) percentMarksCard

/-- THE TIED CARD OF 'cringlelaw03.PercentForms'. -/
def percentFormsCard : Claim7 := { stood := { row := percentFormsRow, standIns := [], harness := (true, "c4ec0e4f5f45faf85a5f2ce25869d575eabfc6150a3c4cc9cd0acf7f898d332a"), looks := false }, kinds := [], alts := [], laidByText := true, laidKinds := [.data, .pinned], laidTests := true, laidLooks := .later }
def PercentFormsCardSaid : Prop := Claim7.holds Tryd.pinned (.plain (OpenSpec.ofChange percentFormsSpec)) percentFormsCard

/-- THE TIED CARD OF 'cringlelaw03.PercentBack'. -/
def percentBackCard : Claim7 := { stood := { row := percentBackRow, standIns := [], harness := (true, "c4ec0e4f5f45faf85a5f2ce25869d575eabfc6150a3c4cc9cd0acf7f898d332a"), looks := false }, kinds := [], alts := [], laidByText := true, laidKinds := [.data, .pinned], laidTests := true, laidLooks := .later }
def PercentBackCardSaid : Prop := Claim7.holds Tryd.pinned (.plain (OpenSpec.ofChange percentBackSpec)) percentBackCard

/-- THE TIED CARD OF 'cringlelaw03.PercentPairs'. -/
def percentPairsCard : Claim7 := { stood := { row := percentPairsRow, standIns := [], harness := (true, "c4ec0e4f5f45faf85a5f2ce25869d575eabfc6150a3c4cc9cd0acf7f898d332a"), looks := false }, kinds := [], alts := [], laidByText := true, laidKinds := [.data, .pinned], laidTests := true, laidLooks := .later }
def PercentPairsCardSaid : Prop := Claim7.holds Tryd.pinned (.plain (OpenSpec.ofChange percentPairsSpec)) percentPairsCard

/-- THE TIED CARD OF 'cringlelaw03.PercentTexts'. -/
def percentTextsCard : Claim7 := { stood := { row := percentTextsRow, standIns := [], harness := (true, "c4ec0e4f5f45faf85a5f2ce25869d575eabfc6150a3c4cc9cd0acf7f898d332a"), looks := false }, kinds := [], alts := [], laidByText := true, laidKinds := [.data, .pinned], laidTests := true, laidLooks := .later }
def PercentTextsCardSaid : Prop := Claim7.holds Tryd.pinned (.plain (OpenSpec.ofChange percentTextsSpec)) percentTextsCard

/-- THE TIED CARD OF 'cringlelaw03.PercentGets'. -/
def percentGetsCard : Claim7 := { stood := { row := percentGetsRow, standIns := [], harness := (true, "c4ec0e4f5f45faf85a5f2ce25869d575eabfc6150a3c4cc9cd0acf7f898d332a"), looks := false }, kinds := [], alts := [], laidByText := true, laidKinds := [.data, .pinned], laidTests := true, laidLooks := .later }
def PercentGetsCardSaid : Prop := Claim7.holds Tryd.pinned (.plain (OpenSpec.ofChange percentGetsSpec)) percentGetsCard

/-- THE SECOND FORM's CARD OF 'cringlelaw03.PercentMarks'. -/
def percentMarksUptoCard : Claim7 := { stood := { row := percentMarksUptoRow, standIns := [], harness := (true, "c4ec0e4f5f45faf85a5f2ce25869d575eabfc6150a3c4cc9cd0acf7f898d332a"), looks := false }, kinds := [], alts := [], laidByText := true, laidKinds := [.data, .pinned], laidTests := true, laidLooks := .later }
def PercentMarksUptoCardSaid : Prop := Claim7.holds Tryd.pinned (.plain (OpenSpec.upto percentMarksSpec)) percentMarksUptoCard

/-- THE SECOND FORM's CARD OF 'cringlelaw03.PercentForms'. -/
def percentFormsUptoCard : Claim7 := { stood := { row := percentFormsUptoRow, standIns := [], harness := (true, "c4ec0e4f5f45faf85a5f2ce25869d575eabfc6150a3c4cc9cd0acf7f898d332a"), looks := false }, kinds := [], alts := [], laidByText := true, laidKinds := [.data, .pinned], laidTests := true, laidLooks := .later }
def PercentFormsUptoCardSaid : Prop := Claim7.holds Tryd.pinned (.plain (OpenSpec.upto percentFormsSpec)) percentFormsUptoCard

/-- THE SECOND FORM's CARD OF 'cringlelaw03.PercentBack'. -/
def percentBackUptoCard : Claim7 := { stood := { row := percentBackUptoRow, standIns := [], harness := (true, "c4ec0e4f5f45faf85a5f2ce25869d575eabfc6150a3c4cc9cd0acf7f898d332a"), looks := false }, kinds := [], alts := [], laidByText := true, laidKinds := [.data, .pinned], laidTests := true, laidLooks := .later }
def PercentBackUptoCardSaid : Prop := Claim7.holds Tryd.pinned (.plain (OpenSpec.upto percentBackSpec)) percentBackUptoCard

/-- THE SECOND FORM's CARD OF 'cringlelaw03.PercentPairs'. -/
def percentPairsUptoCard : Claim7 := { stood := { row := percentPairsUptoRow, standIns := [], harness := (true, "c4ec0e4f5f45faf85a5f2ce25869d575eabfc6150a3c4cc9cd0acf7f898d332a"), looks := false }, kinds := [], alts := [], laidByText := true, laidKinds := [.data, .pinned], laidTests := true, laidLooks := .later }
def PercentPairsUptoCardSaid : Prop := Claim7.holds Tryd.pinned (.plain (OpenSpec.upto percentPairsSpec)) percentPairsUptoCard

/-- THE SECOND FORM's CARD OF 'cringlelaw03.PercentTexts'. -/
def percentTextsUptoCard : Claim7 := { stood := { row := percentTextsUptoRow, standIns := [], harness := (true, "c4ec0e4f5f45faf85a5f2ce25869d575eabfc6150a3c4cc9cd0acf7f898d332a"), looks := false }, kinds := [], alts := [], laidByText := true, laidKinds := [.data, .pinned], laidTests := true, laidLooks := .later }
def PercentTextsUptoCardSaid : Prop := Claim7.holds Tryd.pinned (.plain (OpenSpec.upto percentTextsSpec)) percentTextsUptoCard

/-- THE SECOND FORM's CARD OF 'cringlelaw03.PercentGets'. -/
def percentGetsUptoCard : Claim7 := { stood := { row := percentGetsUptoRow, standIns := [], harness := (true, "c4ec0e4f5f45faf85a5f2ce25869d575eabfc6150a3c4cc9cd0acf7f898d332a"), looks := false }, kinds := [], alts := [], laidByText := true, laidKinds := [.data, .pinned], laidTests := true, laidLooks := .later }
def PercentGetsUptoCardSaid : Prop := Claim7.holds Tryd.pinned (.plain (OpenSpec.upto percentGetsSpec)) percentGetsUptoCard
end Rows
end Go.Proofs.YtopaheopdpkjbaaDoor
