/-
  NARROWER THAN 'FOR EVERY INPUT', by the rows' own cells (each row's printed sentence says how): PercentMarks: laid · PercentForms: laid · PercentBack: laid · PercentPairs: laid · PercentTexts: laid · PercentGets: laid.
  DERIVED. THE GIVEN ROWS OF THIS SEAT. 6 by the template 'for every input the law returns true; each argument reads behind the call as it read before'; 0 by the template 'total and deterministic' (their statements: YtopaheopdpkjbaaDoorTotals.lean).
  GIVEN WITH THE SEED: the statements are not yours to turn. If you find one false, say at which input.
  Laid BY PROGRAM, IN A SANDBOX (cutbox-rows.mjs): the forced cells as the released guide's own fill.sh prints them over the translation 3ac37dda74589efc… (all of the seat's roots in one cut). By AI agents, Wed Nov 11 2026. No macro, syntax, notation, axiom, sorry.
-/
import Derived.Test.YtopaheopdpkjbaaDoorChecked
import GoSem.PinnedTables
import GoSem.Claim
import GoSem.ClaimJoined
import GoSem.ClaimMapViews
import Derived.JoinedTies
import Derived.KernelRfl
namespace Go.Proofs.YtopaheopdpkjbaaDoor
/- THE CELL 'sum', in the pinned program and in every row, IS THE sha256 OF THE DUMP (.gsa) THAT YtopaheopdpkjbaaDoorProg.lean LOADS. Nothing in Lean hashes anything: it is a label: what it is worth is what the hold of that sum in a sandbox is worth. -/
noncomputable def Tryd.pinned : Pinned := { name := "ytopaheopdpkjbaadoor", sum := "3ac37dda74589efc544c60306e3e9a13a1c4c02ef994492add92c2848d8cb11f", checked := Tryd.checked }
namespace Rows
def none {H : Type} : Left H := { results := [], args := [] }

/- WHAT THE LISTED PACKAGE-LEVEL VARIABLES READ AS WHEN THE CALL BEGINS. Each datum BY PROGRAM (the guide's laid-datum.mjs) off the statement by which the dump's own 'gosem.cut.vars' lays the variable. In a bare row this is a premise. The card (YtopaheopdpkjbaaDoorCards.lean) ties it to the program's text. -/
def laid_unicode_utf8_acceptRanges {H : Type} : DataW H := .agg [.agg [.lit (.int .u8 128), .lit (.int .u8 191)], .agg [.lit (.int .u8 160), .lit (.int .u8 191)], .agg [.lit (.int .u8 128), .lit (.int .u8 159)], .agg [.lit (.int .u8 144), .lit (.int .u8 191)], .agg [.lit (.int .u8 128), .lit (.int .u8 143)], .agg [.lit (.int .u8 0), .lit (.int .u8 0)], .agg [.lit (.int .u8 0), .lit (.int .u8 0)], .agg [.lit (.int .u8 0), .lit (.int .u8 0)], .agg [.lit (.int .u8 0), .lit (.int .u8 0)], .agg [.lit (.int .u8 0), .lit (.int .u8 0)], .agg [.lit (.int .u8 0), .lit (.int .u8 0)], .agg [.lit (.int .u8 0), .lit (.int .u8 0)], .agg [.lit (.int .u8 0), .lit (.int .u8 0)], .agg [.lit (.int .u8 0), .lit (.int .u8 0)], .agg [.lit (.int .u8 0), .lit (.int .u8 0)], .agg [.lit (.int .u8 0), .lit (.int .u8 0)]]
/-- One of Go's own tables, pinned by name: the form's constant. -/
def laid_unicode_utf8_first : DataW Unit := Go.Pinned.utf8First

/-- 'cringlelaw03.PercentMarks': WHATEVER THE INPUT: true; the input reads as it did. -/
def percentMarksSpec : ChangeSpec := { name := "percentMarks", fn := fun _ => fun
  | [d1, d2] => { results := [.lit (.bool true)], args := [d1, d2] }
  | _ => none }
def percentMarksRow : OpenClaim := { program := "ytopaheopdpkjbaadoor", sum := "3ac37dda74589efc544c60306e3e9a13a1c4c02ef994492add92c2848d8cb11f", func := "cringle/cringlelaw03.PercentMarks", spec := "percentMarks", inPlace := ["internal/bytealg.IndexByteString", "internal/abi.NoEscape", "internal/bytealg.CountString", "internal/bytealg.IndexString", "internal/bytealg.MakeNoZero"], named := ["internal/bytealg.MaxLen", "unicode/utf8.first", "unicode/utf8.acceptRanges"], apart := false, laid := [("unicode/utf8.acceptRanges", laid_unicode_utf8_acceptRanges), ("unicode/utf8.first", laid_unicode_utf8_first)] }
def PercentMarksSaid : Prop := percentMarksRow.holds Tryd.pinned (OpenSpec.ofChange percentMarksSpec)

/-- ITS FALSE NEIGHBOUR: 'it returns false'. Refute it at one input. -/
def percentMarksWrong : ChangeSpec := { name := "percentMarks", fn := fun _ => fun
  | [d1, d2] => { results := [.lit (.bool false)], args := [d1, d2] }
  | _ => none }
def PercentMarksWrongFalsely : Prop := percentMarksRow.holds Tryd.pinned (OpenSpec.ofChange percentMarksWrong)

/-- 'cringlelaw03.PercentForms': WHATEVER THE INPUT: true; the input reads as it did. -/
def percentFormsSpec : ChangeSpec := { name := "percentForms", fn := fun _ => fun
  | [d1, d2] => { results := [.lit (.bool true)], args := [d1, d2] }
  | _ => none }
def percentFormsRow : OpenClaim := { program := "ytopaheopdpkjbaadoor", sum := "3ac37dda74589efc544c60306e3e9a13a1c4c02ef994492add92c2848d8cb11f", func := "cringle/cringlelaw03.PercentForms", spec := "percentForms", inPlace := ["internal/bytealg.IndexByteString", "internal/abi.NoEscape", "internal/bytealg.CountString", "internal/bytealg.IndexString", "internal/bytealg.MakeNoZero"], recurses := true, named := ["internal/bytealg.MaxLen", "unicode/utf8.first", "unicode/utf8.acceptRanges"], apart := false, laid := [("unicode/utf8.acceptRanges", laid_unicode_utf8_acceptRanges), ("unicode/utf8.first", laid_unicode_utf8_first)] }
def PercentFormsSaid : Prop := percentFormsRow.holds Tryd.pinned (OpenSpec.ofChange percentFormsSpec)

/-- ITS FALSE NEIGHBOUR: 'it returns false'. Refute it at one input. -/
def percentFormsWrong : ChangeSpec := { name := "percentForms", fn := fun _ => fun
  | [d1, d2] => { results := [.lit (.bool false)], args := [d1, d2] }
  | _ => none }
def PercentFormsWrongFalsely : Prop := percentFormsRow.holds Tryd.pinned (OpenSpec.ofChange percentFormsWrong)

/-- 'cringlelaw03.PercentBack': WHATEVER THE INPUT: true; the input reads as it did. -/
def percentBackSpec : ChangeSpec := { name := "percentBack", fn := fun _ => fun
  | [d] => { results := [.lit (.bool true)], args := [d] }
  | _ => none }
def percentBackRow : OpenClaim := { program := "ytopaheopdpkjbaadoor", sum := "3ac37dda74589efc544c60306e3e9a13a1c4c02ef994492add92c2848d8cb11f", func := "cringle/cringlelaw03.PercentBack", spec := "percentBack", inPlace := ["internal/bytealg.IndexByteString", "internal/abi.NoEscape", "internal/bytealg.CountString", "internal/bytealg.IndexString", "internal/bytealg.MakeNoZero"], named := ["internal/bytealg.MaxLen", "unicode/utf8.first", "unicode/utf8.acceptRanges"], apart := false, laid := [("unicode/utf8.acceptRanges", laid_unicode_utf8_acceptRanges), ("unicode/utf8.first", laid_unicode_utf8_first)] }
def PercentBackSaid : Prop := percentBackRow.holds Tryd.pinned (OpenSpec.ofChange percentBackSpec)

/-- ITS FALSE NEIGHBOUR: 'it returns false'. Refute it at one input. -/
def percentBackWrong : ChangeSpec := { name := "percentBack", fn := fun _ => fun
  | [d] => { results := [.lit (.bool false)], args := [d] }
  | _ => none }
def PercentBackWrongFalsely : Prop := percentBackRow.holds Tryd.pinned (OpenSpec.ofChange percentBackWrong)

/-- 'cringlelaw03.PercentPairs': WHATEVER THE INPUT: true; the input reads as it did. -/
def percentPairsSpec : ChangeSpec := { name := "percentPairs", fn := fun _ => fun
  | [d] => { results := [.lit (.bool true)], args := [d] }
  | _ => none }
def percentPairsRow : OpenClaim := { program := "ytopaheopdpkjbaadoor", sum := "3ac37dda74589efc544c60306e3e9a13a1c4c02ef994492add92c2848d8cb11f", func := "cringle/cringlelaw03.PercentPairs", spec := "percentPairs", inPlace := ["internal/bytealg.IndexByteString", "internal/abi.NoEscape", "internal/bytealg.CountString", "internal/bytealg.IndexString", "internal/bytealg.MakeNoZero"], named := ["internal/bytealg.MaxLen", "unicode/utf8.first", "unicode/utf8.acceptRanges"], apart := false, laid := [("unicode/utf8.acceptRanges", laid_unicode_utf8_acceptRanges), ("unicode/utf8.first", laid_unicode_utf8_first)] }
def PercentPairsSaid : Prop := percentPairsRow.holds Tryd.pinned (OpenSpec.ofChange percentPairsSpec)

/-- ITS FALSE NEIGHBOUR: 'it returns false'. Refute it at one input. -/
def percentPairsWrong : ChangeSpec := { name := "percentPairs", fn := fun _ => fun
  | [d] => { results := [.lit (.bool false)], args := [d] }
  | _ => none }
def PercentPairsWrongFalsely : Prop := percentPairsRow.holds Tryd.pinned (OpenSpec.ofChange percentPairsWrong)

/-- 'cringlelaw03.PercentTexts': WHATEVER THE INPUT: true; the input reads as it did. -/
def percentTextsSpec : ChangeSpec := { name := "percentTexts", fn := fun _ => fun
  | [d] => { results := [.lit (.bool true)], args := [d] }
  | _ => none }
def percentTextsRow : OpenClaim := { program := "ytopaheopdpkjbaadoor", sum := "3ac37dda74589efc544c60306e3e9a13a1c4c02ef994492add92c2848d8cb11f", func := "cringle/cringlelaw03.PercentTexts", spec := "percentTexts", inPlace := ["internal/bytealg.IndexByteString", "internal/abi.NoEscape", "internal/bytealg.CountString", "internal/bytealg.IndexString", "internal/bytealg.MakeNoZero"], named := ["internal/bytealg.MaxLen", "unicode/utf8.first", "unicode/utf8.acceptRanges"], apart := false, laid := [("unicode/utf8.acceptRanges", laid_unicode_utf8_acceptRanges), ("unicode/utf8.first", laid_unicode_utf8_first)] }
def PercentTextsSaid : Prop := percentTextsRow.holds Tryd.pinned (OpenSpec.ofChange percentTextsSpec)

/-- ITS FALSE NEIGHBOUR: 'it returns false'. Refute it at one input. -/
def percentTextsWrong : ChangeSpec := { name := "percentTexts", fn := fun _ => fun
  | [d] => { results := [.lit (.bool false)], args := [d] }
  | _ => none }
def PercentTextsWrongFalsely : Prop := percentTextsRow.holds Tryd.pinned (OpenSpec.ofChange percentTextsWrong)

/-- 'cringlelaw03.PercentGets': WHATEVER THE INPUT: true; the input reads as it did. -/
def percentGetsSpec : ChangeSpec := { name := "percentGets", fn := fun _ => fun
  | [d1, d2] => { results := [.lit (.bool true)], args := [d1, d2] }
  | _ => none }
def percentGetsRow : OpenClaim := { program := "ytopaheopdpkjbaadoor", sum := "3ac37dda74589efc544c60306e3e9a13a1c4c02ef994492add92c2848d8cb11f", func := "cringle/cringlelaw03.PercentGets", spec := "percentGets", inPlace := ["internal/bytealg.IndexByteString", "internal/abi.NoEscape", "internal/bytealg.CountString", "internal/bytealg.IndexString", "internal/bytealg.MakeNoZero"], named := ["internal/bytealg.MaxLen", "unicode/utf8.first", "unicode/utf8.acceptRanges"], apart := false, laid := [("unicode/utf8.acceptRanges", laid_unicode_utf8_acceptRanges), ("unicode/utf8.first", laid_unicode_utf8_first)] }
def PercentGetsSaid : Prop := percentGetsRow.holds Tryd.pinned (OpenSpec.ofChange percentGetsSpec)

/-- ITS FALSE NEIGHBOUR: 'it returns false'. Refute it at one input. -/
def percentGetsWrong : ChangeSpec := { name := "percentGets", fn := fun _ => fun
  | [d1, d2] => { results := [.lit (.bool false)], args := [d1, d2] }
  | _ => none }
def PercentGetsWrongFalsely : Prop := percentGetsRow.holds Tryd.pinned (OpenSpec.ofChange percentGetsWrong)

/- THE SECOND FORM. 'bulk': how many values and letters a reading holds, each counted each time it is reached (what is shared counts as often as it is met; a slice's spare places count too). A statement '..UptoSaid' is the law's where the arguments, and the package variables that the reading takes, are together of bulk at most 1048576: NARROWER than '..Said'. Prove '..Said' where nothing that the law and all that it calls make is longer than what came in: it says more and counts as full. Else prove '..UptoSaid'. A law counts once. -/
mutual
def uptoBulk {H : Type} : DataW H → Nat
  | .lit (.string bytes) => bytes.length + 1
  | .lit _ => 1
  | .nil => 1
  | .ptr d => uptoBulk d + 1
  | .slice elems spare => uptoBulkAll elems + uptoBulkAll spare + 1
  | .agg parts => uptoBulkAll parts + 1
  | .iface _ d => uptoBulk d + 1
  | .map entries => uptoBulkEntries entries + 1
  | .held _ => 1
def uptoBulkAll {H : Type} : List (DataW H) → Nat
  | [] => 0
  | d :: r => uptoBulk d + uptoBulkAll r
def uptoBulkEntries {H : Type} : List (Lit × DataW H) → Nat
  | [] => 0
  | x :: r => uptoBulkEntry x + uptoBulkEntries r
def uptoBulkEntry {H : Type} : Lit × DataW H → Nat
  | (.string bytes, d) => bytes.length + uptoBulk d + 1
  | (_, d) => uptoBulk d + 1
 end
def uptoSmall : (H : Type) → List (DataW H) → Bool := fun _ ds => decide (uptoBulkAll ds ≤ 1048576)
def OpenSpec.upto (s : _root_.Go.ChangeSpec) : _root_.Go.OpenSpec := { _root_.Go.OpenSpec.ofChange s with cond := some uptoSmall }

/-- 'cringlelaw03.PercentMarks', WHERE WHAT IT READS IS OF BULK AT MOST 1048576: true; the input reads as it did. -/
def percentMarksUptoRow : OpenClaim := { program := "ytopaheopdpkjbaadoor", sum := "3ac37dda74589efc544c60306e3e9a13a1c4c02ef994492add92c2848d8cb11f", func := "cringle/cringlelaw03.PercentMarks", spec := "percentMarks", inPlace := ["internal/bytealg.IndexByteString", "internal/abi.NoEscape", "internal/bytealg.CountString", "internal/bytealg.IndexString", "internal/bytealg.MakeNoZero"], named := ["internal/bytealg.MaxLen", "unicode/utf8.first", "unicode/utf8.acceptRanges"], apart := false, laid := [("unicode/utf8.acceptRanges", laid_unicode_utf8_acceptRanges), ("unicode/utf8.first", laid_unicode_utf8_first)], narrowed := true }
def PercentMarksUptoSaid : Prop := percentMarksUptoRow.holds Tryd.pinned (OpenSpec.upto percentMarksSpec)

/-- 'cringlelaw03.PercentForms', WHERE WHAT IT READS IS OF BULK AT MOST 1048576: true; the input reads as it did. -/
def percentFormsUptoRow : OpenClaim := { program := "ytopaheopdpkjbaadoor", sum := "3ac37dda74589efc544c60306e3e9a13a1c4c02ef994492add92c2848d8cb11f", func := "cringle/cringlelaw03.PercentForms", spec := "percentForms", inPlace := ["internal/bytealg.IndexByteString", "internal/abi.NoEscape", "internal/bytealg.CountString", "internal/bytealg.IndexString", "internal/bytealg.MakeNoZero"], recurses := true, named := ["internal/bytealg.MaxLen", "unicode/utf8.first", "unicode/utf8.acceptRanges"], apart := false, laid := [("unicode/utf8.acceptRanges", laid_unicode_utf8_acceptRanges), ("unicode/utf8.first", laid_unicode_utf8_first)], narrowed := true }
def PercentFormsUptoSaid : Prop := percentFormsUptoRow.holds Tryd.pinned (OpenSpec.upto percentFormsSpec)

/-- 'cringlelaw03.PercentBack', WHERE WHAT IT READS IS OF BULK AT MOST 1048576: true; the input reads as it did. -/
def percentBackUptoRow : OpenClaim := { program := "ytopaheopdpkjbaadoor", sum := "3ac37dda74589efc544c60306e3e9a13a1c4c02ef994492add92c2848d8cb11f", func := "cringle/cringlelaw03.PercentBack", spec := "percentBack", inPlace := ["internal/bytealg.IndexByteString", "internal/abi.NoEscape", "internal/bytealg.CountString", "internal/bytealg.IndexString", "internal/bytealg.MakeNoZero"], named := ["internal/bytealg.MaxLen", "unicode/utf8.first", "unicode/utf8.acceptRanges"], apart := false, laid := [("unicode/utf8.acceptRanges", laid_unicode_utf8_acceptRanges), ("unicode/utf8.first", laid_unicode_utf8_first)], narrowed := true }
def PercentBackUptoSaid : Prop := percentBackUptoRow.holds Tryd.pinned (OpenSpec.upto percentBackSpec)

/-- 'cringlelaw03.PercentPairs', WHERE WHAT IT READS IS OF BULK AT MOST 1048576: true; the input reads as it did. -/
def percentPairsUptoRow : OpenClaim := { program := "ytopaheopdpkjbaadoor", sum := "3ac37dda74589efc544c60306e3e9a13a1c4c02ef994492add92c2848d8cb11f", func := "cringle/cringlelaw03.PercentPairs", spec := "percentPairs", inPlace := ["internal/bytealg.IndexByteString", "internal/abi.NoEscape", "internal/bytealg.CountString", "internal/bytealg.IndexString", "internal/bytealg.MakeNoZero"], named := ["internal/bytealg.MaxLen", "unicode/utf8.first", "unicode/utf8.acceptRanges"], apart := false, laid := [("unicode/utf8.acceptRanges", laid_unicode_utf8_acceptRanges), ("unicode/utf8.first", laid_unicode_utf8_first)], narrowed := true }
def PercentPairsUptoSaid : Prop := percentPairsUptoRow.holds Tryd.pinned (OpenSpec.upto percentPairsSpec)

/-- 'cringlelaw03.PercentTexts', WHERE WHAT IT READS IS OF BULK AT MOST 1048576: true; the input reads as it did. -/
def percentTextsUptoRow : OpenClaim := { program := "ytopaheopdpkjbaadoor", sum := "3ac37dda74589efc544c60306e3e9a13a1c4c02ef994492add92c2848d8cb11f", func := "cringle/cringlelaw03.PercentTexts", spec := "percentTexts", inPlace := ["internal/bytealg.IndexByteString", "internal/abi.NoEscape", "internal/bytealg.CountString", "internal/bytealg.IndexString", "internal/bytealg.MakeNoZero"], named := ["internal/bytealg.MaxLen", "unicode/utf8.first", "unicode/utf8.acceptRanges"], apart := false, laid := [("unicode/utf8.acceptRanges", laid_unicode_utf8_acceptRanges), ("unicode/utf8.first", laid_unicode_utf8_first)], narrowed := true }
def PercentTextsUptoSaid : Prop := percentTextsUptoRow.holds Tryd.pinned (OpenSpec.upto percentTextsSpec)

/-- 'cringlelaw03.PercentGets', WHERE WHAT IT READS IS OF BULK AT MOST 1048576: true; the input reads as it did. -/
def percentGetsUptoRow : OpenClaim := { program := "ytopaheopdpkjbaadoor", sum := "3ac37dda74589efc544c60306e3e9a13a1c4c02ef994492add92c2848d8cb11f", func := "cringle/cringlelaw03.PercentGets", spec := "percentGets", inPlace := ["internal/bytealg.IndexByteString", "internal/abi.NoEscape", "internal/bytealg.CountString", "internal/bytealg.IndexString", "internal/bytealg.MakeNoZero"], named := ["internal/bytealg.MaxLen", "unicode/utf8.first", "unicode/utf8.acceptRanges"], apart := false, laid := [("unicode/utf8.acceptRanges", laid_unicode_utf8_acceptRanges), ("unicode/utf8.first", laid_unicode_utf8_first)], narrowed := true }
def PercentGetsUptoSaid : Prop := percentGetsUptoRow.holds Tryd.pinned (OpenSpec.upto percentGetsSpec)

end Rows
end Go.Proofs.YtopaheopdpkjbaaDoor
