/-
  DERIVED. GIVEN WITH THE SEED: THE CARDS: each row of YtljlkpfiebcoeaaGreatDoorRows.lean that lists a variable, with what it lists TIED to the program's text (the seventh form; the later family's looks); each row that meets fmt, with fmt's text TOLD by the authors' own Lean function (tested against real Go, not proved from fmt's source: count such statements apart). THE CARD IS WHAT COUNTS. Prove the row's statement (the work); the ties are given (YtljlkpfiebcoeaaGreatDoorTie.lean); close each card by the builder's one call (the guide's Derived/Test/ToyasCard.lean, 'card_holds'). Laid BY PROGRAM, IN A SANDBOX (cutbox-door.mjs). By AI agents, Wed Nov 11 2026. No macro, syntax, notation, axiom, sorry.
-/
import Derived.Test.YtljlkpfiebcoeaaGreatDoorRows
import GoSem.ClaimSeven
namespace Go.Proofs.YtljlkpfiebcoeaaGreatDoor
namespace Rows

/-- THE TIED CARD OF 'cringlelaw29.HttpBack'. -/
def httpBackCard : Claim7 := { stood := { row := httpBackRow, standIns := [], harness := (true, "51f1e8a14ce9543198f68cfaa42c8d1343ff0dd41e0cfe8b660e79e2fd16c99c"), looks := false }, kinds := [], alts := [], laidByText := true, laidKinds := [.data, .pinned], laidTests := true, laidLooks := .later }
def HttpBackCardSaid : Prop := Claim7.holds Tryz.pinned (.plain (OpenSpec.ofChange httpBackSpec)) httpBackCard

/-- THE TIED CARD OF 'cringlelaw29.HttpGets'. -/
def httpGetsCard : Claim7 := { stood := { row := httpGetsRow, standIns := [], harness := (true, "51f1e8a14ce9543198f68cfaa42c8d1343ff0dd41e0cfe8b660e79e2fd16c99c"), looks := false }, kinds := [], alts := [], laidByText := true, laidKinds := [.data, .pinned], laidTests := true, laidLooks := .later }
def HttpGetsCardSaid : Prop := Claim7.holds Tryz.pinned (.plain (OpenSpec.ofChange httpGetsSpec)) httpGetsCard

/-- THE SECOND FORM's CARD OF 'cringlelaw29.HttpBack'. -/
def httpBackUptoCard : Claim7 := { stood := { row := httpBackUptoRow, standIns := [], harness := (true, "51f1e8a14ce9543198f68cfaa42c8d1343ff0dd41e0cfe8b660e79e2fd16c99c"), looks := false }, kinds := [], alts := [], laidByText := true, laidKinds := [.data, .pinned], laidTests := true, laidLooks := .later }
def HttpBackUptoCardSaid : Prop := Claim7.holds Tryz.pinned (.plain (OpenSpec.upto httpBackSpec)) httpBackUptoCard

/-- THE SECOND FORM's CARD OF 'cringlelaw29.HttpGets'. -/
def httpGetsUptoCard : Claim7 := { stood := { row := httpGetsUptoRow, standIns := [], harness := (true, "51f1e8a14ce9543198f68cfaa42c8d1343ff0dd41e0cfe8b660e79e2fd16c99c"), looks := false }, kinds := [], alts := [], laidByText := true, laidKinds := [.data, .pinned], laidTests := true, laidLooks := .later }
def HttpGetsUptoCardSaid : Prop := Claim7.holds Tryz.pinned (.plain (OpenSpec.upto httpGetsSpec)) httpGetsUptoCard
end Rows
end Go.Proofs.YtljlkpfiebcoeaaGreatDoor
