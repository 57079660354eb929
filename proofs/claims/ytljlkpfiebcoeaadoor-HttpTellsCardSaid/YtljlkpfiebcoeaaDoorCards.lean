/-
  DERIVED. GIVEN WITH THE SEED: THE CARDS: each row of YtljlkpfiebcoeaaDoorRows.lean that lists a variable, with what it lists TIED to the program's text (the seventh form; the later family's looks); each row that meets fmt, with fmt's text TOLD by the authors' own Lean function (tested against real Go, not proved from fmt's source: count such statements apart). THE CARD IS WHAT COUNTS. Prove the row's statement (the work); the ties are given (YtljlkpfiebcoeaaDoorTie.lean); close each card by the builder's one call (the guide's Derived/Test/ToyasCard.lean, 'card_holds'). Laid BY PROGRAM, IN A SANDBOX (cutbox-door.mjs). By AI agents, Wed Nov 11 2026. No macro, syntax, notation, axiom, sorry.
-/
import Derived.Test.YtljlkpfiebcoeaaDoorRows
import GoSem.ClaimSeven
namespace Go.Proofs.YtljlkpfiebcoeaaDoor
namespace Rows

/-- THE TIED CARD OF 'cringlelaw29.HttpCut'. -/
def httpCutCard : Claim7 := { stood := { row := httpCutRow, standIns := [], harness := (true, "2352b0d5bccc1eff4514e0cd70e2b1c5eb3d657918987b39d311838b46666f57"), looks := false }, kinds := [], alts := [], laidByText := true, laidKinds := [.data, .pinned], laidTests := true, laidLooks := .later }
def HttpCutCardSaid : Prop := Claim7.holds Tryd.pinned (.plain (OpenSpec.ofChange httpCutSpec)) httpCutCard

/-- THE TIED CARD OF 'cringlelaw29.HttpTells'. -/
def httpTellsCard : Claim7 := { stood := { row := httpTellsRow, standIns := [], harness := (true, "2352b0d5bccc1eff4514e0cd70e2b1c5eb3d657918987b39d311838b46666f57"), looks := false }, kinds := [], alts := [], laidByText := true, laidKinds := [.data, .pinned], laidTests := true, laidLooks := .later }
def HttpTellsCardSaid : Prop := Claim7.holds Tryd.pinned (.plain (OpenSpec.ofChange httpTellsSpec)) httpTellsCard

/-- THE SECOND FORM's CARD OF 'cringlelaw29.HttpCut'. -/
def httpCutUptoCard : Claim7 := { stood := { row := httpCutUptoRow, standIns := [], harness := (true, "2352b0d5bccc1eff4514e0cd70e2b1c5eb3d657918987b39d311838b46666f57"), looks := false }, kinds := [], alts := [], laidByText := true, laidKinds := [.data, .pinned], laidTests := true, laidLooks := .later }
def HttpCutUptoCardSaid : Prop := Claim7.holds Tryd.pinned (.plain (OpenSpec.upto httpCutSpec)) httpCutUptoCard

/-- THE SECOND FORM's CARD OF 'cringlelaw29.HttpTells'. -/
def httpTellsUptoCard : Claim7 := { stood := { row := httpTellsUptoRow, standIns := [], harness := (true, "2352b0d5bccc1eff4514e0cd70e2b1c5eb3d657918987b39d311838b46666f57"), looks := false }, kinds := [], alts := [], laidByText := true, laidKinds := [.data, .pinned], laidTests := true, laidLooks := .later }
def HttpTellsUptoCardSaid : Prop := Claim7.holds Tryd.pinned (.plain (OpenSpec.upto httpTellsSpec)) httpTellsUptoCard
end Rows
end Go.Proofs.YtljlkpfiebcoeaaDoor
