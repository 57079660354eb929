/-
  DERIVED. GIVEN WITH THE SEED: THE CARDS: each row of YtekijemacjpceaaDoorRows.lean that lists a variable, with what it lists TIED to the program's text (the seventh form; the later family's looks); each row that meets fmt, with fmt's text TOLD by the authors' own Lean function (tested against real Go, not proved from fmt's source: count such statements apart). THE CARD IS WHAT COUNTS. Prove the row's statement (the work); the ties are given (YtekijemacjpceaaDoorTie.lean); close each card by the builder's one call (the guide's Derived/Test/ToyasCard.lean, 'card_holds'). Laid BY PROGRAM, IN A SANDBOX (cutbox-door.mjs). By AI agents, Wed Nov 11 2026. No macro, syntax, notation, axiom, sorry.
-/
import Derived.Test.YtekijemacjpceaaDoorRows
import GoSem.ClaimSeven
namespace Go.Proofs.YtekijemacjpceaaDoor
namespace Rows

/-- THE TIED CARD OF 'cringlelaw11.RefsNames'. -/
def refsNamesCard : Claim7 := { stood := { row := refsNamesRow, standIns := [], harness := (true, "c84c11e93b232e71906fbf05259d9b330abffc1553ef67edbd37b5759fa2c05f"), looks := false }, kinds := [], alts := [], laidByText := true, laidKinds := [.data, .pinned], laidTests := true, laidLooks := .later }
def RefsNamesCardSaid : Prop := Claim7.holds Tryd.pinned (.plain (OpenSpec.ofChange refsNamesSpec)) refsNamesCard

/-- THE TIED CARD OF 'cringlelaw11.RefsNexts'. -/
def refsNextsCard : Claim7 := { stood := { row := refsNextsRow, standIns := [], harness := (true, "c84c11e93b232e71906fbf05259d9b330abffc1553ef67edbd37b5759fa2c05f"), looks := false }, kinds := [], alts := [], laidByText := true, laidKinds := [.data, .pinned], laidTests := true, laidLooks := .later }
def RefsNextsCardSaid : Prop := Claim7.holds Tryd.pinned (.plain (OpenSpec.ofChange refsNextsSpec)) refsNextsCard

/-- THE TIED CARD OF 'cringlelaw11.RefsTexts'. -/
def refsTextsCard : Claim7 := { stood := { row := refsTextsRow, standIns := [], harness := (true, "c84c11e93b232e71906fbf05259d9b330abffc1553ef67edbd37b5759fa2c05f"), looks := false }, kinds := [], alts := [], laidByText := true, laidKinds := [.data, .pinned], laidTests := true, laidLooks := .later }
def RefsTextsCardSaid : Prop := Claim7.holds Tryd.pinned (.plain (OpenSpec.ofChange refsTextsSpec)) refsTextsCard

/-- THE TIED CARD OF 'cringlelaw11.RefsBack'. -/
def refsBackCard : Claim7 := { stood := { row := refsBackRow, standIns := [], harness := (true, "c84c11e93b232e71906fbf05259d9b330abffc1553ef67edbd37b5759fa2c05f"), looks := false }, kinds := [], alts := [], laidByText := true, laidKinds := [.data, .pinned], laidTests := true, laidLooks := .later }
def RefsBackCardSaid : Prop := Claim7.holds Tryd.pinned (.plain (OpenSpec.ofChange refsBackSpec)) refsBackCard

/-- THE TIED CARD OF 'cringlelaw11.RefsText'. -/
def refsTextCard : Claim7 := { stood := { row := refsTextRow, standIns := [], harness := (true, "c84c11e93b232e71906fbf05259d9b330abffc1553ef67edbd37b5759fa2c05f"), looks := false }, kinds := [], alts := [], laidByText := true, laidKinds := [.data, .pinned], laidTests := true, laidLooks := .later }
def RefsTextCardSaid : Prop := Claim7.holds Tryd.pinned (.plain (OpenSpec.ofChange refsTextSpec)) refsTextCard

/-- THE TIED CARD OF 'cringlelaw11.RefsNumbers'. -/
def refsNumbersCard : Claim7 := { stood := { row := refsNumbersRow, standIns := [], harness := (true, "c84c11e93b232e71906fbf05259d9b330abffc1553ef67edbd37b5759fa2c05f"), looks := false }, kinds := [], alts := [], laidByText := true, laidKinds := [.data, .pinned], laidTests := true, laidLooks := .later }
def RefsNumbersCardSaid : Prop := Claim7.holds Tryd.pinned (.plain (OpenSpec.ofChange refsNumbersSpec)) refsNumbersCard

/-- THE SECOND FORM's CARD OF 'cringlelaw11.RefsNames'. -/
def refsNamesUptoCard : Claim7 := { stood := { row := refsNamesUptoRow, standIns := [], harness := (true, "c84c11e93b232e71906fbf05259d9b330abffc1553ef67edbd37b5759fa2c05f"), looks := false }, kinds := [], alts := [], laidByText := true, laidKinds := [.data, .pinned], laidTests := true, laidLooks := .later }
def RefsNamesUptoCardSaid : Prop := Claim7.holds Tryd.pinned (.plain (OpenSpec.upto refsNamesSpec)) refsNamesUptoCard

/-- THE SECOND FORM's CARD OF 'cringlelaw11.RefsNexts'. -/
def refsNextsUptoCard : Claim7 := { stood := { row := refsNextsUptoRow, standIns := [], harness := (true, "c84c11e93b232e71906fbf05259d9b330abffc1553ef67edbd37b5759fa2c05f"), looks := false }, kinds := [], alts := [], laidByText := true, laidKinds := [.data, .pinned], laidTests := true, laidLooks := .later }
def RefsNextsUptoCardSaid : Prop := Claim7.holds Tryd.pinned (.plain (OpenSpec.upto refsNextsSpec)) refsNextsUptoCard

/-- THE SECOND FORM's CARD OF 'cringlelaw11.RefsTexts'. -/
def refsTextsUptoCard : Claim7 := { stood := { row := refsTextsUptoRow, standIns := [], harness := (true, "c84c11e93b232e71906fbf05259d9b330abffc1553ef67edbd37b5759fa2c05f"), looks := false }, kinds := [], alts := [], laidByText := true, laidKinds := [.data, .pinned], laidTests := true, laidLooks := .later }
def RefsTextsUptoCardSaid : Prop := Claim7.holds Tryd.pinned (.plain (OpenSpec.upto refsTextsSpec)) refsTextsUptoCard

/-- THE SECOND FORM's CARD OF 'cringlelaw11.RefsBack'. -/
def refsBackUptoCard : Claim7 := { stood := { row := refsBackUptoRow, standIns := [], harness := (true, "c84c11e93b232e71906fbf05259d9b330abffc1553ef67edbd37b5759fa2c05f"), looks := false }, kinds := [], alts := [], laidByText := true, laidKinds := [.data, .pinned], laidTests := true, laidLooks := .later }
def RefsBackUptoCardSaid : Prop := Claim7.holds Tryd.pinned (.plain (OpenSpec.upto refsBackSpec)) refsBackUptoCard

/-- THE SECOND FORM's CARD OF 'cringlelaw11.RefsText'. -/
def refsTextUptoCard : Claim7 := { stood := { row := refsTextUptoRow, standIns := [], harness := (true, "c84c11e93b232e71906fbf05259d9b330abffc1553ef67edbd37b5759fa2c05f"), looks := false }, kinds := [], alts := [], laidByText := true, laidKinds := [.data, .pinned], laidTests := true, laidLooks := .later }
def RefsTextUptoCardSaid : Prop := Claim7.holds Tryd.pinned (.plain (OpenSpec.upto refsTextSpec)) refsTextUptoCard

/-- THE SECOND FORM's CARD OF 'cringlelaw11.RefsNumbers'. -/
def refsNumbersUptoCard : Claim7 := { stood := { row := refsNumbersUptoRow, standIns := [], harness := (true, "c84c11e93b232e71906fbf05259d9b330abffc1553ef67edbd37b5759fa2c05f"), looks := false }, kinds := [], alts := [], laidByText := true, laidKinds := [.data, .pinned], laidTests := true, laidLooks := .later }
def RefsNumbersUptoCardSaid : Prop := Claim7.holds Tryd.pinned (.plain (OpenSpec.upto refsNumbersSpec)) refsNumbersUptoCard
end Rows
end Go.Proofs.YtekijemacjpceaaDoor
