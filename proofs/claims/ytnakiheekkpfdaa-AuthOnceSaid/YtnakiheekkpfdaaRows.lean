/-
  No cell of these rows narrows 'for every input' (looked for: loops, veiled, ifaces, maps, wideKeys, modest, calm, conditions, laid).
  DERIVED. THE GIVEN ROWS OF THIS SEAT. 3 by the template 'for every input the law returns true; each argument reads behind the call as it read before'; 0 by the template 'total and deterministic' (their statements: YtnakiheekkpfdaaTotals.lean).
  GIVEN WITH THE SEED: the statements are not yours to turn. If you find one false, say at which input.
  Laid BY PROGRAM, IN A SANDBOX (cutbox-rows.mjs): the forced cells as the released guide's own fill.sh prints them over the translation d096c0877c30f4df… (all of the seat's roots in one cut). By AI agents, Wed Nov 11 2026. No macro, syntax, notation, axiom, sorry.
-/
import Derived.Test.YtnakiheekkpfdaaChecked
import GoSem.Claim
import GoSem.ClaimJoined
import GoSem.ClaimMapViews
import Derived.JoinedTies
import Derived.KernelRfl
namespace Go.Proofs.Ytnakiheekkpfdaa
/- THE CELL 'sum', in the pinned program and in every row, IS THE sha256 OF THE DUMP (.gsa) THAT YtnakiheekkpfdaaProg.lean LOADS. Nothing in Lean hashes anything: it is a label: what it is worth is what the hold of that sum in a sandbox is worth. -/
noncomputable def Try.pinned : Pinned := { name := "ytnakiheekkpfdaa", sum := "d096c0877c30f4dfd84a4219c739b255ec9b8fa3eae42ad145211f569d9b6628", checked := Try.checked }
namespace Rows
def none {H : Type} : Left H := { results := [], args := [] }

/-- 'cringlelaw30.AuthGood': WHATEVER THE INPUT: true; the input reads as it did. -/
def authGoodSpec : ChangeSpec := { name := "authGood", fn := fun _ => fun
  | [d1, d2, d3] => { results := [.lit (.bool true)], args := [d1, d2, d3] }
  | _ => none }
def authGoodRow : OpenClaim := { program := "ytnakiheekkpfdaa", sum := "d096c0877c30f4dfd84a4219c739b255ec9b8fa3eae42ad145211f569d9b6628", func := "cringle/cringlelaw30.AuthGood", spec := "authGood", inPlace := ["internal/bytealg.IndexByteString"], unfollowed := true, recurses := true, apart := false }
def AuthGoodSaid : Prop := authGoodRow.holds Try.pinned (OpenSpec.ofChange authGoodSpec)

/-- ITS FALSE NEIGHBOUR: 'it returns false'. Refute it at one input. -/
def authGoodWrong : ChangeSpec := { name := "authGood", fn := fun _ => fun
  | [d1, d2, d3] => { results := [.lit (.bool false)], args := [d1, d2, d3] }
  | _ => none }
def AuthGoodWrongFalsely : Prop := authGoodRow.holds Try.pinned (OpenSpec.ofChange authGoodWrong)

/-- 'cringlelaw30.AuthOnce': WHATEVER THE INPUT: true; the input reads as it did. -/
def authOnceSpec : ChangeSpec := { name := "authOnce", fn := fun _ => fun
  | [d] => { results := [.lit (.bool true)], args := [d] }
  | _ => none }
def authOnceRow : OpenClaim := { program := "ytnakiheekkpfdaa", sum := "d096c0877c30f4dfd84a4219c739b255ec9b8fa3eae42ad145211f569d9b6628", func := "cringle/cringlelaw30.AuthOnce", spec := "authOnce", inPlace := ["internal/bytealg.IndexByteString"], unfollowed := true, recurses := true, apart := false }
def AuthOnceSaid : Prop := authOnceRow.holds Try.pinned (OpenSpec.ofChange authOnceSpec)

/-- ITS FALSE NEIGHBOUR: 'it returns false'. Refute it at one input. -/
def authOnceWrong : ChangeSpec := { name := "authOnce", fn := fun _ => fun
  | [d] => { results := [.lit (.bool false)], args := [d] }
  | _ => none }
def AuthOnceWrongFalsely : Prop := authOnceRow.holds Try.pinned (OpenSpec.ofChange authOnceWrong)

/-- 'cringlelaw30.AuthApart': WHATEVER THE INPUT: true; the input reads as it did. -/
def authApartSpec : ChangeSpec := { name := "authApart", fn := fun _ => fun
  | [d1, d2] => { results := [.lit (.bool true)], args := [d1, d2] }
  | _ => none }
def authApartRow : OpenClaim := { program := "ytnakiheekkpfdaa", sum := "d096c0877c30f4dfd84a4219c739b255ec9b8fa3eae42ad145211f569d9b6628", func := "cringle/cringlelaw30.AuthApart", spec := "authApart", inPlace := ["internal/bytealg.IndexByteString"], unfollowed := true, recurses := true, apart := false }
def AuthApartSaid : Prop := authApartRow.holds Try.pinned (OpenSpec.ofChange authApartSpec)

/-- ITS FALSE NEIGHBOUR: 'it returns false'. Refute it at one input. -/
def authApartWrong : ChangeSpec := { name := "authApart", fn := fun _ => fun
  | [d1, d2] => { results := [.lit (.bool false)], args := [d1, d2] }
  | _ => none }
def AuthApartWrongFalsely : Prop := authApartRow.holds Try.pinned (OpenSpec.ofChange authApartWrong)

/- THE SECOND FORM. 'bulk': how many values and letters a reading holds, each counted each time it is reached (what is shared counts as often as it is met; a slice's spare places count too). A statement '..UptoSaid' is the law's where the arguments, and the package variables that the reading takes, are together of bulk at most 1048576: NARROWER than '..Said'. Prove '..Said' where nothing that the law and all that it calls make is longer than what came in: it says more and counts as full. Else prove '..UptoSaid'. A law counts once. -/
mutual
def uptoBulk {H : Type} : DataW H → Nat
  | .lit (.string bytes) => bytes.length + 1
  | .lit _ => 1
  | .nil => 1
  | .ptr d => uptoBulk d + 1
  | .slice elems spare => uptoBulkAll elems + uptoBulkAll spare + 1
  | .agg parts => uptoBulkAll parts + 1
  | .iface _ d => uptoBulk d + 1
  | .map entries => uptoBulkEntries entries + 1
  | .held _ => 1
def uptoBulkAll {H : Type} : List (DataW H) → Nat
  | [] => 0
  | d :: r => uptoBulk d + uptoBulkAll r
def uptoBulkEntries {H : Type} : List (Lit × DataW H) → Nat
  | [] => 0
  | x :: r => uptoBulkEntry x + uptoBulkEntries r
def uptoBulkEntry {H : Type} : Lit × DataW H → Nat
  | (.string bytes, d) => bytes.length + uptoBulk d + 1
  | (_, d) => uptoBulk d + 1
 end
def uptoSmall : (H : Type) → List (DataW H) → Bool := fun _ ds => decide (uptoBulkAll ds ≤ 1048576)
def OpenSpec.upto (s : _root_.Go.ChangeSpec) : _root_.Go.OpenSpec := { _root_.Go.OpenSpec.ofChange s with cond := some uptoSmall }

/-- 'cringlelaw30.AuthGood', WHERE WHAT IT READS IS OF BULK AT MOST 1048576: true; the input reads as it did. -/
def authGoodUptoRow : OpenClaim := { program := "ytnakiheekkpfdaa", sum := "d096c0877c30f4dfd84a4219c739b255ec9b8fa3eae42ad145211f569d9b6628", func := "cringle/cringlelaw30.AuthGood", spec := "authGood", inPlace := ["internal/bytealg.IndexByteString"], unfollowed := true, recurses := true, apart := false, narrowed := true }
def AuthGoodUptoSaid : Prop := authGoodUptoRow.holds Try.pinned (OpenSpec.upto authGoodSpec)

/-- 'cringlelaw30.AuthOnce', WHERE WHAT IT READS IS OF BULK AT MOST 1048576: true; the input reads as it did. -/
def authOnceUptoRow : OpenClaim := { program := "ytnakiheekkpfdaa", sum := "d096c0877c30f4dfd84a4219c739b255ec9b8fa3eae42ad145211f569d9b6628", func := "cringle/cringlelaw30.AuthOnce", spec := "authOnce", inPlace := ["internal/bytealg.IndexByteString"], unfollowed := true, recurses := true, apart := false, narrowed := true }
def AuthOnceUptoSaid : Prop := authOnceUptoRow.holds Try.pinned (OpenSpec.upto authOnceSpec)

/-- 'cringlelaw30.AuthApart', WHERE WHAT IT READS IS OF BULK AT MOST 1048576: true; the input reads as it did. -/
def authApartUptoRow : OpenClaim := { program := "ytnakiheekkpfdaa", sum := "d096c0877c30f4dfd84a4219c739b255ec9b8fa3eae42ad145211f569d9b6628", func := "cringle/cringlelaw30.AuthApart", spec := "authApart", inPlace := ["internal/bytealg.IndexByteString"], unfollowed := true, recurses := true, apart := false, narrowed := true }
def AuthApartUptoSaid : Prop := authApartUptoRow.holds Try.pinned (OpenSpec.upto authApartSpec)

end Rows
end Go.Proofs.Ytnakiheekkpfdaa
