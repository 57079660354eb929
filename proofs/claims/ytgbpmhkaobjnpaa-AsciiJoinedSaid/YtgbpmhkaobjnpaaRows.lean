/-
  No cell of these rows narrows 'for every input' (looked for: loops, veiled, ifaces, maps, wideKeys, modest, calm, conditions, laid).
  DERIVED. THE GIVEN ROWS OF THIS SEAT. 6 by the template 'for every input the law returns true; each argument reads behind the call as it read before'; 0 by the template 'total and deterministic' (their statements: YtgbpmhkaobjnpaaTotals.lean).
  GIVEN WITH THE SEED: the statements are not yours to turn. If you find one false, say at which input.
  Laid BY PROGRAM, IN A SANDBOX (cutbox-rows.mjs): the forced cells as the released guide's own fill.sh prints them over the translation dab8ca5387dfbc20… (all of the seat's roots in one cut). By AI agents, Wed Nov 11 2026. No macro, syntax, notation, axiom, sorry.
-/
import Derived.Test.YtgbpmhkaobjnpaaChecked
import GoSem.Claim
import GoSem.ClaimJoined
import GoSem.ClaimMapViews
import Derived.JoinedTies
import Derived.KernelRfl
namespace Go.Proofs.Ytgbpmhkaobjnpaa
/- THE CELL 'sum', in the pinned program and in every row, IS THE sha256 OF THE DUMP (.gsa) THAT YtgbpmhkaobjnpaaProg.lean LOADS. Nothing in Lean hashes anything: it is a label: what it is worth is what the hold of that sum in a sandbox is worth. -/
noncomputable def Try.pinned : Pinned := { name := "ytgbpmhkaobjnpaa", sum := "dab8ca5387dfbc201384edf20ddee44b3fa6e4cbbb727ce95c82dbbb2168d068", checked := Try.checked }
namespace Rows
def none {H : Type} : Left H := { results := [], args := [] }

/-- 'cringlelaw01.AsciiSigns': WHATEVER THE INPUT: true; the input reads as it did. -/
def asciiSignsSpec : ChangeSpec := { name := "asciiSigns", fn := fun _ => fun
  | [d] => { results := [.lit (.bool true)], args := [d] }
  | _ => none }
def asciiSignsRow : OpenClaim := { program := "ytgbpmhkaobjnpaa", sum := "dab8ca5387dfbc201384edf20ddee44b3fa6e4cbbb727ce95c82dbbb2168d068", func := "cringle/cringlelaw01.AsciiSigns", spec := "asciiSigns", inPlace := ["internal/bytealg.IndexByteString"], apart := false }
def AsciiSignsSaid : Prop := asciiSignsRow.holds Try.pinned (OpenSpec.ofChange asciiSignsSpec)

/-- ITS FALSE NEIGHBOUR: 'it returns false'. Refute it at one input. -/
def asciiSignsWrong : ChangeSpec := { name := "asciiSigns", fn := fun _ => fun
  | [d] => { results := [.lit (.bool false)], args := [d] }
  | _ => none }
def AsciiSignsWrongFalsely : Prop := asciiSignsRow.holds Try.pinned (OpenSpec.ofChange asciiSignsWrong)

/-- 'cringlelaw01.AsciiDigits': WHATEVER THE INPUT: true; the input reads as it did. -/
def asciiDigitsSpec : ChangeSpec := { name := "asciiDigits", fn := fun _ => fun
  | [d1, d2] => { results := [.lit (.bool true)], args := [d1, d2] }
  | _ => none }
def asciiDigitsRow : OpenClaim := { program := "ytgbpmhkaobjnpaa", sum := "dab8ca5387dfbc201384edf20ddee44b3fa6e4cbbb727ce95c82dbbb2168d068", func := "cringle/cringlelaw01.AsciiDigits", spec := "asciiDigits", inPlace := ["internal/bytealg.IndexByteString"], apart := false }
def AsciiDigitsSaid : Prop := asciiDigitsRow.holds Try.pinned (OpenSpec.ofChange asciiDigitsSpec)

/-- ITS FALSE NEIGHBOUR: 'it returns false'. Refute it at one input. -/
def asciiDigitsWrong : ChangeSpec := { name := "asciiDigits", fn := fun _ => fun
  | [d1, d2] => { results := [.lit (.bool false)], args := [d1, d2] }
  | _ => none }
def AsciiDigitsWrongFalsely : Prop := asciiDigitsRow.holds Try.pinned (OpenSpec.ofChange asciiDigitsWrong)

/-- 'cringlelaw01.AsciiNumbers': WHATEVER THE INPUT: true; the input reads as it did. -/
def asciiNumbersSpec : ChangeSpec := { name := "asciiNumbers", fn := fun _ => fun
  | [d1, d2] => { results := [.lit (.bool true)], args := [d1, d2] }
  | _ => none }
def asciiNumbersRow : OpenClaim := { program := "ytgbpmhkaobjnpaa", sum := "dab8ca5387dfbc201384edf20ddee44b3fa6e4cbbb727ce95c82dbbb2168d068", func := "cringle/cringlelaw01.AsciiNumbers", spec := "asciiNumbers", inPlace := ["internal/bytealg.IndexByteString"], apart := false }
def AsciiNumbersSaid : Prop := asciiNumbersRow.holds Try.pinned (OpenSpec.ofChange asciiNumbersSpec)

/-- ITS FALSE NEIGHBOUR: 'it returns false'. Refute it at one input. -/
def asciiNumbersWrong : ChangeSpec := { name := "asciiNumbers", fn := fun _ => fun
  | [d1, d2] => { results := [.lit (.bool false)], args := [d1, d2] }
  | _ => none }
def AsciiNumbersWrongFalsely : Prop := asciiNumbersRow.holds Try.pinned (OpenSpec.ofChange asciiNumbersWrong)

/-- 'cringlelaw01.AsciiBack': WHATEVER THE INPUT: true; the input reads as it did. -/
def asciiBackSpec : ChangeSpec := { name := "asciiBack", fn := fun _ => fun
  | [d1, d2] => { results := [.lit (.bool true)], args := [d1, d2] }
  | _ => none }
def asciiBackRow : OpenClaim := { program := "ytgbpmhkaobjnpaa", sum := "dab8ca5387dfbc201384edf20ddee44b3fa6e4cbbb727ce95c82dbbb2168d068", func := "cringle/cringlelaw01.AsciiBack", spec := "asciiBack", inPlace := ["internal/bytealg.IndexByteString"], apart := false }
def AsciiBackSaid : Prop := asciiBackRow.holds Try.pinned (OpenSpec.ofChange asciiBackSpec)

/-- ITS FALSE NEIGHBOUR: 'it returns false'. Refute it at one input. -/
def asciiBackWrong : ChangeSpec := { name := "asciiBack", fn := fun _ => fun
  | [d1, d2] => { results := [.lit (.bool false)], args := [d1, d2] }
  | _ => none }
def AsciiBackWrongFalsely : Prop := asciiBackRow.holds Try.pinned (OpenSpec.ofChange asciiBackWrong)

/-- 'cringlelaw01.AsciiParts': WHATEVER THE INPUT: true; the input reads as it did. -/
def asciiPartsSpec : ChangeSpec := { name := "asciiParts", fn := fun _ => fun
  | [d1, d2, d3] => { results := [.lit (.bool true)], args := [d1, d2, d3] }
  | _ => none }
def asciiPartsRow : OpenClaim := { program := "ytgbpmhkaobjnpaa", sum := "dab8ca5387dfbc201384edf20ddee44b3fa6e4cbbb727ce95c82dbbb2168d068", func := "cringle/cringlelaw01.AsciiParts", spec := "asciiParts", inPlace := ["internal/bytealg.IndexByteString", "internal/abi.NoEscape", "internal/bytealg.MakeNoZero"], apart := false }
def AsciiPartsSaid : Prop := asciiPartsRow.holds Try.pinned (OpenSpec.ofChange asciiPartsSpec)

/-- ITS FALSE NEIGHBOUR: 'it returns false'. Refute it at one input. -/
def asciiPartsWrong : ChangeSpec := { name := "asciiParts", fn := fun _ => fun
  | [d1, d2, d3] => { results := [.lit (.bool false)], args := [d1, d2, d3] }
  | _ => none }
def AsciiPartsWrongFalsely : Prop := asciiPartsRow.holds Try.pinned (OpenSpec.ofChange asciiPartsWrong)

/-- 'cringlelaw01.AsciiJoined': WHATEVER THE INPUT: true; the input reads as it did. -/
def asciiJoinedSpec : ChangeSpec := { name := "asciiJoined", fn := fun _ => fun
  | [d1, d2] => { results := [.lit (.bool true)], args := [d1, d2] }
  | _ => none }
def asciiJoinedRow : OpenClaim := { program := "ytgbpmhkaobjnpaa", sum := "dab8ca5387dfbc201384edf20ddee44b3fa6e4cbbb727ce95c82dbbb2168d068", func := "cringle/cringlelaw01.AsciiJoined", spec := "asciiJoined", inPlace := ["internal/bytealg.IndexByteString", "internal/abi.NoEscape", "internal/bytealg.MakeNoZero"], apart := false }
def AsciiJoinedSaid : Prop := asciiJoinedRow.holds Try.pinned (OpenSpec.ofChange asciiJoinedSpec)

/-- ITS FALSE NEIGHBOUR: 'it returns false'. Refute it at one input. -/
def asciiJoinedWrong : ChangeSpec := { name := "asciiJoined", fn := fun _ => fun
  | [d1, d2] => { results := [.lit (.bool false)], args := [d1, d2] }
  | _ => none }
def AsciiJoinedWrongFalsely : Prop := asciiJoinedRow.holds Try.pinned (OpenSpec.ofChange asciiJoinedWrong)

/- THE SECOND FORM. 'bulk': how many values and letters a reading holds, each counted each time it is reached (what is shared counts as often as it is met; a slice's spare places count too). A statement '..UptoSaid' is the law's where the arguments, and the package variables that the reading takes, are together of bulk at most 1048576: NARROWER than '..Said'. Prove '..Said' where nothing that the law and all that it calls make is longer than what came in: it says more and counts as full. Else prove '..UptoSaid'. A law counts once. -/
mutual
def uptoBulk {H : Type} : DataW H → Nat
  | .lit (.string bytes) => bytes.length + 1
  | .lit _ => 1
  | .nil => 1
  | .ptr d => uptoBulk d + 1
  | .slice elems spare => uptoBulkAll elems + uptoBulkAll spare + 1
  | .agg parts => uptoBulkAll parts + 1
  | .iface _ d => uptoBulk d + 1
  | .map entries => uptoBulkEntries entries + 1
  | .held _ => 1
def uptoBulkAll {H : Type} : List (DataW H) → Nat
  | [] => 0
  | d :: r => uptoBulk d + uptoBulkAll r
def uptoBulkEntries {H : Type} : List (Lit × DataW H) → Nat
  | [] => 0
  | x :: r => uptoBulkEntry x + uptoBulkEntries r
def uptoBulkEntry {H : Type} : Lit × DataW H → Nat
  | (.string bytes, d) => bytes.length + uptoBulk d + 1
  | (_, d) => uptoBulk d + 1
 end
def uptoSmall : (H : Type) → List (DataW H) → Bool := fun _ ds => decide (uptoBulkAll ds ≤ 1048576)
def OpenSpec.upto (s : _root_.Go.ChangeSpec) : _root_.Go.OpenSpec := { _root_.Go.OpenSpec.ofChange s with cond := some uptoSmall }

/-- 'cringlelaw01.AsciiSigns', WHERE WHAT IT READS IS OF BULK AT MOST 1048576: true; the input reads as it did. -/
def asciiSignsUptoRow : OpenClaim := { program := "ytgbpmhkaobjnpaa", sum := "dab8ca5387dfbc201384edf20ddee44b3fa6e4cbbb727ce95c82dbbb2168d068", func := "cringle/cringlelaw01.AsciiSigns", spec := "asciiSigns", inPlace := ["internal/bytealg.IndexByteString"], apart := false, narrowed := true }
def AsciiSignsUptoSaid : Prop := asciiSignsUptoRow.holds Try.pinned (OpenSpec.upto asciiSignsSpec)

/-- 'cringlelaw01.AsciiDigits', WHERE WHAT IT READS IS OF BULK AT MOST 1048576: true; the input reads as it did. -/
def asciiDigitsUptoRow : OpenClaim := { program := "ytgbpmhkaobjnpaa", sum := "dab8ca5387dfbc201384edf20ddee44b3fa6e4cbbb727ce95c82dbbb2168d068", func := "cringle/cringlelaw01.AsciiDigits", spec := "asciiDigits", inPlace := ["internal/bytealg.IndexByteString"], apart := false, narrowed := true }
def AsciiDigitsUptoSaid : Prop := asciiDigitsUptoRow.holds Try.pinned (OpenSpec.upto asciiDigitsSpec)

/-- 'cringlelaw01.AsciiNumbers', WHERE WHAT IT READS IS OF BULK AT MOST 1048576: true; the input reads as it did. -/
def asciiNumbersUptoRow : OpenClaim := { program := "ytgbpmhkaobjnpaa", sum := "dab8ca5387dfbc201384edf20ddee44b3fa6e4cbbb727ce95c82dbbb2168d068", func := "cringle/cringlelaw01.AsciiNumbers", spec := "asciiNumbers", inPlace := ["internal/bytealg.IndexByteString"], apart := false, narrowed := true }
def AsciiNumbersUptoSaid : Prop := asciiNumbersUptoRow.holds Try.pinned (OpenSpec.upto asciiNumbersSpec)

/-- 'cringlelaw01.AsciiBack', WHERE WHAT IT READS IS OF BULK AT MOST 1048576: true; the input reads as it did. -/
def asciiBackUptoRow : OpenClaim := { program := "ytgbpmhkaobjnpaa", sum := "dab8ca5387dfbc201384edf20ddee44b3fa6e4cbbb727ce95c82dbbb2168d068", func := "cringle/cringlelaw01.AsciiBack", spec := "asciiBack", inPlace := ["internal/bytealg.IndexByteString"], apart := false, narrowed := true }
def AsciiBackUptoSaid : Prop := asciiBackUptoRow.holds Try.pinned (OpenSpec.upto asciiBackSpec)

/-- 'cringlelaw01.AsciiParts', WHERE WHAT IT READS IS OF BULK AT MOST 1048576: true; the input reads as it did. -/
def asciiPartsUptoRow : OpenClaim := { program := "ytgbpmhkaobjnpaa", sum := "dab8ca5387dfbc201384edf20ddee44b3fa6e4cbbb727ce95c82dbbb2168d068", func := "cringle/cringlelaw01.AsciiParts", spec := "asciiParts", inPlace := ["internal/bytealg.IndexByteString", "internal/abi.NoEscape", "internal/bytealg.MakeNoZero"], apart := false, narrowed := true }
def AsciiPartsUptoSaid : Prop := asciiPartsUptoRow.holds Try.pinned (OpenSpec.upto asciiPartsSpec)

/-- 'cringlelaw01.AsciiJoined', WHERE WHAT IT READS IS OF BULK AT MOST 1048576: true; the input reads as it did. -/
def asciiJoinedUptoRow : OpenClaim := { program := "ytgbpmhkaobjnpaa", sum := "dab8ca5387dfbc201384edf20ddee44b3fa6e4cbbb727ce95c82dbbb2168d068", func := "cringle/cringlelaw01.AsciiJoined", spec := "asciiJoined", inPlace := ["internal/bytealg.IndexByteString", "internal/abi.NoEscape", "internal/bytealg.MakeNoZero"], apart := false, narrowed := true }
def AsciiJoinedUptoSaid : Prop := asciiJoinedUptoRow.holds Try.pinned (OpenSpec.upto asciiJoinedSpec)

end Rows
end Go.Proofs.Ytgbpmhkaobjnpaa
