/-
  DERIVED. GIVEN WITH THE SEED: THE CARDS: each row of YtgbpmhkaobjnpaaDoorRows.lean that lists a variable, with what it lists TIED to the program's text (the seventh form; the later family's looks); each row that meets fmt, with fmt's text TOLD by the authors' own Lean function (tested against real Go, not proved from fmt's source: count such statements apart). THE CARD IS WHAT COUNTS. Prove the row's statement (the work); the ties are given (YtgbpmhkaobjnpaaDoorTie.lean); close each card by the builder's one call (the guide's Derived/Test/ToyasCard.lean, 'card_holds'). Laid BY PROGRAM, IN A SANDBOX (cutbox-door.mjs). By AI agents, Wed Nov 11 2026. No macro, syntax, notation, axiom, sorry.
-/
import Derived.Test.YtgbpmhkaobjnpaaDoorRows
import GoSem.ClaimSeven
namespace Go.Proofs.YtgbpmhkaobjnpaaDoor
namespace Rows

/-- THE TIED CARD OF 'cringlelaw01.AsciiTexts'. -/
def asciiTextsCard : Claim7 := { stood := { row := asciiTextsRow, standIns := [], harness := (true, "d4ec8f083abec5983e36079cd8d592775d22ddbe1244025dbfa1fc7e45443688"), looks := false }, kinds := [], alts := [], laidByText := true, laidKinds := [.data, .pinned], laidTests := true, laidLooks := .later }
def AsciiTextsCardSaid : Prop := Claim7.holds Tryd.pinned (.plain (OpenSpec.ofChange asciiTextsSpec)) asciiTextsCard

/-- THE TIED CARD OF 'cringlelaw01.AsciiTwice'. -/
def asciiTwiceCard : Claim7 := { stood := { row := asciiTwiceRow, standIns := [], harness := (true, "d4ec8f083abec5983e36079cd8d592775d22ddbe1244025dbfa1fc7e45443688"), looks := false }, kinds := [], alts := [], laidByText := true, laidKinds := [.data, .pinned], laidTests := true, laidLooks := .later }
def AsciiTwiceCardSaid : Prop := Claim7.holds Tryd.pinned (.plain (OpenSpec.ofChange asciiTwiceSpec)) asciiTwiceCard

/-- THE SECOND FORM's CARD OF 'cringlelaw01.AsciiTexts'. -/
def asciiTextsUptoCard : Claim7 := { stood := { row := asciiTextsUptoRow, standIns := [], harness := (true, "d4ec8f083abec5983e36079cd8d592775d22ddbe1244025dbfa1fc7e45443688"), looks := false }, kinds := [], alts := [], laidByText := true, laidKinds := [.data, .pinned], laidTests := true, laidLooks := .later }
def AsciiTextsUptoCardSaid : Prop := Claim7.holds Tryd.pinned (.plain (OpenSpec.upto asciiTextsSpec)) asciiTextsUptoCard

/-- THE SECOND FORM's CARD OF 'cringlelaw01.AsciiTwice'. -/
def asciiTwiceUptoCard : Claim7 := { stood := { row := asciiTwiceUptoRow, standIns := [], harness := (true, "d4ec8f083abec5983e36079cd8d592775d22ddbe1244025dbfa1fc7e45443688"), looks := false }, kinds := [], alts := [], laidByText := true, laidKinds := [.data, .pinned], laidTests := true, laidLooks := .later }
def AsciiTwiceUptoCardSaid : Prop := Claim7.holds Tryd.pinned (.plain (OpenSpec.upto asciiTwiceSpec)) asciiTwiceUptoCard
end Rows
end Go.Proofs.YtgbpmhkaobjnpaaDoor
