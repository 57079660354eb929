/-
  DERIVED. GIVEN WITH THE SEED: THE CARDS: each row of YtmaeodkdddbhoaaDoorRows.lean that lists a variable, with what it lists TIED to the program's text (the seventh form; the later family's looks); each row that meets fmt, with fmt's text TOLD by the authors' own Lean function (tested against real Go, not proved from fmt's source: count such statements apart). THE CARD IS WHAT COUNTS. Prove the row's statement (the work); the ties are given (YtmaeodkdddbhoaaDoorTie.lean); close each card by the builder's one call (the guide's Derived/Test/ToyasCard.lean, 'card_holds'). Laid BY PROGRAM, IN A SANDBOX (cutbox-door.mjs). By AI agents, Wed Nov 11 2026. No macro, syntax, notation, axiom, sorry.
-/
import Derived.Test.YtmaeodkdddbhoaaDoorRows
import GoSem.ClaimSeven
namespace Go.Proofs.YtmaeodkdddbhoaaDoor
namespace Rows

/-- THE TIED CARD OF 'cringlelaw02.UtfPuts'. -/
def utfPutsCard : Claim7 := { stood := { row := utfPutsRow, standIns := [], harness := (true, "143eefb6937f5e5ecabe5cb60680a225af5dff30ee244a07eafa08e66e2339ff"), looks := false }, kinds := [], alts := [], laidByText := true, laidKinds := [.data, .pinned], laidTests := true, laidLooks := .later }
def UtfPutsCardSaid : Prop := Claim7.holds Tryd.pinned (.plain (OpenSpec.ofChange utfPutsSpec)) utfPutsCard

/-- THE TIED CARD OF 'cringlelaw02.UtfNexts'. -/
def utfNextsCard : Claim7 := { stood := { row := utfNextsRow, standIns := [], harness := (true, "143eefb6937f5e5ecabe5cb60680a225af5dff30ee244a07eafa08e66e2339ff"), looks := false }, kinds := [], alts := [], laidByText := true, laidKinds := [.data, .pinned], laidTests := true, laidLooks := .later }
def UtfNextsCardSaid : Prop := Claim7.holds Tryd.pinned (.plain (OpenSpec.ofChange utfNextsSpec)) utfNextsCard

/-- THE TIED CARD OF 'cringlelaw02.UtfBack'. -/
def utfBackCard : Claim7 := { stood := { row := utfBackRow, standIns := [], harness := (true, "143eefb6937f5e5ecabe5cb60680a225af5dff30ee244a07eafa08e66e2339ff"), looks := false }, kinds := [], alts := [], laidByText := true, laidKinds := [.data, .pinned], laidTests := true, laidLooks := .later }
def UtfBackCardSaid : Prop := Claim7.holds Tryd.pinned (.plain (OpenSpec.ofChange utfBackSpec)) utfBackCard

/-- THE TIED CARD OF 'cringlelaw02.UtfRepairs'. -/
def utfRepairsCard : Claim7 := { stood := { row := utfRepairsRow, standIns := [], harness := (true, "143eefb6937f5e5ecabe5cb60680a225af5dff30ee244a07eafa08e66e2339ff"), looks := false }, kinds := [], alts := [], laidByText := true, laidKinds := [.data, .pinned], laidTests := true, laidLooks := .later }
def UtfRepairsCardSaid : Prop := Claim7.holds Tryd.pinned (.plain (OpenSpec.ofChange utfRepairsSpec)) utfRepairsCard

/-- THE TIED CARD OF 'cringlelaw02.UtfSigns'. -/
def utfSignsCard : Claim7 := { stood := { row := utfSignsRow, standIns := [], harness := (true, "143eefb6937f5e5ecabe5cb60680a225af5dff30ee244a07eafa08e66e2339ff"), looks := false }, kinds := [], alts := [], laidByText := true, laidKinds := [.data, .pinned], laidTests := true, laidLooks := .later }
def UtfSignsCardSaid : Prop := Claim7.holds Tryd.pinned (.plain (OpenSpec.ofChange utfSignsSpec)) utfSignsCard

/-- THE TIED CARD OF 'cringlelaw02.UtfCuts'. -/
def utfCutsCard : Claim7 := { stood := { row := utfCutsRow, standIns := [], harness := (true, "143eefb6937f5e5ecabe5cb60680a225af5dff30ee244a07eafa08e66e2339ff"), looks := false }, kinds := [], alts := [], laidByText := true, laidKinds := [.data, .pinned], laidTests := true, laidLooks := .later }
def UtfCutsCardSaid : Prop := Claim7.holds Tryd.pinned (.plain (OpenSpec.ofChange utfCutsSpec)) utfCutsCard

/-- THE TIED CARD OF 'cringlelaw02.UtfTexts'. -/
def utfTextsCard : Claim7 := { stood := { row := utfTextsRow, standIns := [], harness := (true, "143eefb6937f5e5ecabe5cb60680a225af5dff30ee244a07eafa08e66e2339ff"), looks := false }, kinds := [], alts := [], laidByText := true, laidKinds := [.data, .pinned], laidTests := true, laidLooks := .later }
def UtfTextsCardSaid : Prop := Claim7.holds Tryd.pinned (.plain (OpenSpec.ofChange utfTextsSpec)) utfTextsCard

/-- THE SECOND FORM's CARD OF 'cringlelaw02.UtfPuts'. -/
def utfPutsUptoCard : Claim7 := { stood := { row := utfPutsUptoRow, standIns := [], harness := (true, "143eefb6937f5e5ecabe5cb60680a225af5dff30ee244a07eafa08e66e2339ff"), looks := false }, kinds := [], alts := [], laidByText := true, laidKinds := [.data, .pinned], laidTests := true, laidLooks := .later }
def UtfPutsUptoCardSaid : Prop := Claim7.holds Tryd.pinned (.plain (OpenSpec.upto utfPutsSpec)) utfPutsUptoCard

/-- THE SECOND FORM's CARD OF 'cringlelaw02.UtfNexts'. -/
def utfNextsUptoCard : Claim7 := { stood := { row := utfNextsUptoRow, standIns := [], harness := (true, "143eefb6937f5e5ecabe5cb60680a225af5dff30ee244a07eafa08e66e2339ff"), looks := false }, kinds := [], alts := [], laidByText := true, laidKinds := [.data, .pinned], laidTests := true, laidLooks := .later }
def UtfNextsUptoCardSaid : Prop := Claim7.holds Tryd.pinned (.plain (OpenSpec.upto utfNextsSpec)) utfNextsUptoCard

/-- THE SECOND FORM's CARD OF 'cringlelaw02.UtfBack'. -/
def utfBackUptoCard : Claim7 := { stood := { row := utfBackUptoRow, standIns := [], harness := (true, "143eefb6937f5e5ecabe5cb60680a225af5dff30ee244a07eafa08e66e2339ff"), looks := false }, kinds := [], alts := [], laidByText := true, laidKinds := [.data, .pinned], laidTests := true, laidLooks := .later }
def UtfBackUptoCardSaid : Prop := Claim7.holds Tryd.pinned (.plain (OpenSpec.upto utfBackSpec)) utfBackUptoCard

/-- THE SECOND FORM's CARD OF 'cringlelaw02.UtfRepairs'. -/
def utfRepairsUptoCard : Claim7 := { stood := { row := utfRepairsUptoRow, standIns := [], harness := (true, "143eefb6937f5e5ecabe5cb60680a225af5dff30ee244a07eafa08e66e2339ff"), looks := false }, kinds := [], alts := [], laidByText := true, laidKinds := [.data, .pinned], laidTests := true, laidLooks := .later }
def UtfRepairsUptoCardSaid : Prop := Claim7.holds Tryd.pinned (.plain (OpenSpec.upto utfRepairsSpec)) utfRepairsUptoCard

/-- THE SECOND FORM's CARD OF 'cringlelaw02.UtfSigns'. -/
def utfSignsUptoCard : Claim7 := { stood := { row := utfSignsUptoRow, standIns := [], harness := (true, "143eefb6937f5e5ecabe5cb60680a225af5dff30ee244a07eafa08e66e2339ff"), looks := false }, kinds := [], alts := [], laidByText := true, laidKinds := [.data, .pinned], laidTests := true, laidLooks := .later }
def UtfSignsUptoCardSaid : Prop := Claim7.holds Tryd.pinned (.plain (OpenSpec.upto utfSignsSpec)) utfSignsUptoCard

/-- THE SECOND FORM's CARD OF 'cringlelaw02.UtfCuts'. -/
def utfCutsUptoCard : Claim7 := { stood := { row := utfCutsUptoRow, standIns := [], harness := (true, "143eefb6937f5e5ecabe5cb60680a225af5dff30ee244a07eafa08e66e2339ff"), looks := false }, kinds := [], alts := [], laidByText := true, laidKinds := [.data, .pinned], laidTests := true, laidLooks := .later }
def UtfCutsUptoCardSaid : Prop := Claim7.holds Tryd.pinned (.plain (OpenSpec.upto utfCutsSpec)) utfCutsUptoCard

/-- THE SECOND FORM's CARD OF 'cringlelaw02.UtfTexts'. -/
def utfTextsUptoCard : Claim7 := { stood := { row := utfTextsUptoRow, standIns := [], harness := (true, "143eefb6937f5e5ecabe5cb60680a225af5dff30ee244a07eafa08e66e2339ff"), looks := false }, kinds := [], alts := [], laidByText := true, laidKinds := [.data, .pinned], laidTests := true, laidLooks := .later }
def UtfTextsUptoCardSaid : Prop := Claim7.holds Tryd.pinned (.plain (OpenSpec.upto utfTextsSpec)) utfTextsUptoCard
end Rows
end Go.Proofs.YtmaeodkdddbhoaaDoor
