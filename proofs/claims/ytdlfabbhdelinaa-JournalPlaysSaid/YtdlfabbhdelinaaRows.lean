/-
  No cell of these rows narrows 'for every input' (looked for: loops, veiled, ifaces, maps, wideKeys, modest, calm, conditions, laid).
  DERIVED. THE GIVEN ROWS OF THIS SEAT. 5 by the template 'for every input the law returns true; each argument reads behind the call as it read before'; 0 by the template 'total and deterministic' (their statements: YtdlfabbhdelinaaTotals.lean).
  GIVEN WITH THE SEED: the statements are not yours to turn. If you find one false, say at which input.
  Laid BY PROGRAM, IN A SANDBOX (cutbox-rows.mjs): the forced cells as the released guide's own fill.sh prints them over the translation a94b38d3c3f9c026… (all of the seat's roots in one cut). By AI agents, Wed Nov 11 2026. No macro, syntax, notation, axiom, sorry.
-/
import Derived.Test.YtdlfabbhdelinaaChecked
import GoSem.Claim
import GoSem.ClaimJoined
import GoSem.ClaimMapViews
import Derived.JoinedTies
import Derived.KernelRfl
namespace Go.Proofs.Ytdlfabbhdelinaa
/- THE CELL 'sum', in the pinned program and in every row, IS THE sha256 OF THE DUMP (.gsa) THAT YtdlfabbhdelinaaProg.lean LOADS. Nothing in Lean hashes anything: it is a label: what it is worth is what the hold of that sum in a sandbox is worth. -/
noncomputable def Try.pinned : Pinned := { name := "ytdlfabbhdelinaa", sum := "a94b38d3c3f9c02608b66bfc4b3a7d831478061495a3a0a7f2e037a08f35d6cf", checked := Try.checked }
namespace Rows
def none {H : Type} : Left H := { results := [], args := [] }

/-- 'cringlelaw10.JournalFrames': WHATEVER THE INPUT: true; the input reads as it did. -/
def journalFramesSpec : ChangeSpec := { name := "journalFrames", fn := fun _ => fun
  | [d1, d2] => { results := [.lit (.bool true)], args := [d1, d2] }
  | _ => none }
def journalFramesRow : OpenClaim := { program := "ytdlfabbhdelinaa", sum := "a94b38d3c3f9c02608b66bfc4b3a7d831478061495a3a0a7f2e037a08f35d6cf", func := "cringle/cringlelaw10.JournalFrames", spec := "journalFrames", unfollowed := true, recurses := true, apart := false }
def JournalFramesSaid : Prop := journalFramesRow.holds Try.pinned (OpenSpec.ofChange journalFramesSpec)

/-- ITS FALSE NEIGHBOUR: 'it returns false'. Refute it at one input. -/
def journalFramesWrong : ChangeSpec := { name := "journalFrames", fn := fun _ => fun
  | [d1, d2] => { results := [.lit (.bool false)], args := [d1, d2] }
  | _ => none }
def JournalFramesWrongFalsely : Prop := journalFramesRow.holds Try.pinned (OpenSpec.ofChange journalFramesWrong)

/-- 'cringlelaw10.JournalKept': WHATEVER THE INPUT: true; the input reads as it did. -/
def journalKeptSpec : ChangeSpec := { name := "journalKept", fn := fun _ => fun
  | [d] => { results := [.lit (.bool true)], args := [d] }
  | _ => none }
def journalKeptRow : OpenClaim := { program := "ytdlfabbhdelinaa", sum := "a94b38d3c3f9c02608b66bfc4b3a7d831478061495a3a0a7f2e037a08f35d6cf", func := "cringle/cringlelaw10.JournalKept", spec := "journalKept", unfollowed := true, recurses := true, apart := false }
def JournalKeptSaid : Prop := journalKeptRow.holds Try.pinned (OpenSpec.ofChange journalKeptSpec)

/-- ITS FALSE NEIGHBOUR: 'it returns false'. Refute it at one input. -/
def journalKeptWrong : ChangeSpec := { name := "journalKept", fn := fun _ => fun
  | [d] => { results := [.lit (.bool false)], args := [d] }
  | _ => none }
def JournalKeptWrongFalsely : Prop := journalKeptRow.holds Try.pinned (OpenSpec.ofChange journalKeptWrong)

/-- 'cringlelaw10.JournalRefused': WHATEVER THE INPUT: true; the input reads as it did. -/
def journalRefusedSpec : ChangeSpec := { name := "journalRefused", fn := fun _ => fun
  | [d1, d2] => { results := [.lit (.bool true)], args := [d1, d2] }
  | _ => none }
def journalRefusedRow : OpenClaim := { program := "ytdlfabbhdelinaa", sum := "a94b38d3c3f9c02608b66bfc4b3a7d831478061495a3a0a7f2e037a08f35d6cf", func := "cringle/cringlelaw10.JournalRefused", spec := "journalRefused", unfollowed := true, recurses := true, apart := false }
def JournalRefusedSaid : Prop := journalRefusedRow.holds Try.pinned (OpenSpec.ofChange journalRefusedSpec)

/-- ITS FALSE NEIGHBOUR: 'it returns false'. Refute it at one input. -/
def journalRefusedWrong : ChangeSpec := { name := "journalRefused", fn := fun _ => fun
  | [d1, d2] => { results := [.lit (.bool false)], args := [d1, d2] }
  | _ => none }
def JournalRefusedWrongFalsely : Prop := journalRefusedRow.holds Try.pinned (OpenSpec.ofChange journalRefusedWrong)

/-- 'cringlelaw10.JournalSnaps': WHATEVER THE INPUT: true; the input reads as it did. -/
def journalSnapsSpec : ChangeSpec := { name := "journalSnaps", fn := fun _ => fun
  | [d1, d2, d3] => { results := [.lit (.bool true)], args := [d1, d2, d3] }
  | _ => none }
def journalSnapsRow : OpenClaim := { program := "ytdlfabbhdelinaa", sum := "a94b38d3c3f9c02608b66bfc4b3a7d831478061495a3a0a7f2e037a08f35d6cf", func := "cringle/cringlelaw10.JournalSnaps", spec := "journalSnaps", unfollowed := true, recurses := true, apart := false }
def JournalSnapsSaid : Prop := journalSnapsRow.holds Try.pinned (OpenSpec.ofChange journalSnapsSpec)

/-- ITS FALSE NEIGHBOUR: 'it returns false'. Refute it at one input. -/
def journalSnapsWrong : ChangeSpec := { name := "journalSnaps", fn := fun _ => fun
  | [d1, d2, d3] => { results := [.lit (.bool false)], args := [d1, d2, d3] }
  | _ => none }
def JournalSnapsWrongFalsely : Prop := journalSnapsRow.holds Try.pinned (OpenSpec.ofChange journalSnapsWrong)

/-- 'cringlelaw10.JournalPlays': WHATEVER THE INPUT: true; the input reads as it did. -/
def journalPlaysSpec : ChangeSpec := { name := "journalPlays", fn := fun _ => fun
  | [d1, d2] => { results := [.lit (.bool true)], args := [d1, d2] }
  | _ => none }
def journalPlaysRow : OpenClaim := { program := "ytdlfabbhdelinaa", sum := "a94b38d3c3f9c02608b66bfc4b3a7d831478061495a3a0a7f2e037a08f35d6cf", func := "cringle/cringlelaw10.JournalPlays", spec := "journalPlays", unfollowed := true, recurses := true, apart := false }
def JournalPlaysSaid : Prop := journalPlaysRow.holds Try.pinned (OpenSpec.ofChange journalPlaysSpec)

/-- ITS FALSE NEIGHBOUR: 'it returns false'. Refute it at one input. -/
def journalPlaysWrong : ChangeSpec := { name := "journalPlays", fn := fun _ => fun
  | [d1, d2] => { results := [.lit (.bool false)], args := [d1, d2] }
  | _ => none }
def JournalPlaysWrongFalsely : Prop := journalPlaysRow.holds Try.pinned (OpenSpec.ofChange journalPlaysWrong)

/- THE SECOND FORM. 'bulk': how many values and letters a reading holds, each counted each time it is reached (what is shared counts as often as it is met; a slice's spare places count too). A statement '..UptoSaid' is the law's where the arguments, and the package variables that the reading takes, are together of bulk at most 1048576: NARROWER than '..Said'. Prove '..Said' where nothing that the law and all that it calls make is longer than what came in: it says more and counts as full. Else prove '..UptoSaid'. A law counts once. -/
mutual
def uptoBulk {H : Type} : DataW H → Nat
  | .lit (.string bytes) => bytes.length + 1
  | .lit _ => 1
  | .nil => 1
  | .ptr d => uptoBulk d + 1
  | .slice elems spare => uptoBulkAll elems + uptoBulkAll spare + 1
  | .agg parts => uptoBulkAll parts + 1
  | .iface _ d => uptoBulk d + 1
  | .map entries => uptoBulkEntries entries + 1
  | .held _ => 1
def uptoBulkAll {H : Type} : List (DataW H) → Nat
  | [] => 0
  | d :: r => uptoBulk d + uptoBulkAll r
def uptoBulkEntries {H : Type} : List (Lit × DataW H) → Nat
  | [] => 0
  | x :: r => uptoBulkEntry x + uptoBulkEntries r
def uptoBulkEntry {H : Type} : Lit × DataW H → Nat
  | (.string bytes, d) => bytes.length + uptoBulk d + 1
  | (_, d) => uptoBulk d + 1
 end
def uptoSmall : (H : Type) → List (DataW H) → Bool := fun _ ds => decide (uptoBulkAll ds ≤ 1048576)
def OpenSpec.upto (s : _root_.Go.ChangeSpec) : _root_.Go.OpenSpec := { _root_.Go.OpenSpec.ofChange s with cond := some uptoSmall }

/-- 'cringlelaw10.JournalFrames', WHERE WHAT IT READS IS OF BULK AT MOST 1048576: true; the input reads as it did. -/
def journalFramesUptoRow : OpenClaim := { program := "ytdlfabbhdelinaa", sum := "a94b38d3c3f9c02608b66bfc4b3a7d831478061495a3a0a7f2e037a08f35d6cf", func := "cringle/cringlelaw10.JournalFrames", spec := "journalFrames", unfollowed := true, recurses := true, apart := false, narrowed := true }
def JournalFramesUptoSaid : Prop := journalFramesUptoRow.holds Try.pinned (OpenSpec.upto journalFramesSpec)

/-- 'cringlelaw10.JournalKept', WHERE WHAT IT READS IS OF BULK AT MOST 1048576: true; the input reads as it did. -/
def journalKeptUptoRow : OpenClaim := { program := "ytdlfabbhdelinaa", sum := "a94b38d3c3f9c02608b66bfc4b3a7d831478061495a3a0a7f2e037a08f35d6cf", func := "cringle/cringlelaw10.JournalKept", spec := "journalKept", unfollowed := true, recurses := true, apart := false, narrowed := true }
def JournalKeptUptoSaid : Prop := journalKeptUptoRow.holds Try.pinned (OpenSpec.upto journalKeptSpec)

/-- 'cringlelaw10.JournalRefused', WHERE WHAT IT READS IS OF BULK AT MOST 1048576: true; the input reads as it did. -/
def journalRefusedUptoRow : OpenClaim := { program := "ytdlfabbhdelinaa", sum := "a94b38d3c3f9c02608b66bfc4b3a7d831478061495a3a0a7f2e037a08f35d6cf", func := "cringle/cringlelaw10.JournalRefused", spec := "journalRefused", unfollowed := true, recurses := true, apart := false, narrowed := true }
def JournalRefusedUptoSaid : Prop := journalRefusedUptoRow.holds Try.pinned (OpenSpec.upto journalRefusedSpec)

/-- 'cringlelaw10.JournalSnaps', WHERE WHAT IT READS IS OF BULK AT MOST 1048576: true; the input reads as it did. -/
def journalSnapsUptoRow : OpenClaim := { program := "ytdlfabbhdelinaa", sum := "a94b38d3c3f9c02608b66bfc4b3a7d831478061495a3a0a7f2e037a08f35d6cf", func := "cringle/cringlelaw10.JournalSnaps", spec := "journalSnaps", unfollowed := true, recurses := true, apart := false, narrowed := true }
def JournalSnapsUptoSaid : Prop := journalSnapsUptoRow.holds Try.pinned (OpenSpec.upto journalSnapsSpec)

/-- 'cringlelaw10.JournalPlays', WHERE WHAT IT READS IS OF BULK AT MOST 1048576: true; the input reads as it did. -/
def journalPlaysUptoRow : OpenClaim := { program := "ytdlfabbhdelinaa", sum := "a94b38d3c3f9c02608b66bfc4b3a7d831478061495a3a0a7f2e037a08f35d6cf", func := "cringle/cringlelaw10.JournalPlays", spec := "journalPlays", unfollowed := true, recurses := true, apart := false, narrowed := true }
def JournalPlaysUptoSaid : Prop := journalPlaysUptoRow.holds Try.pinned (OpenSpec.upto journalPlaysSpec)

end Rows
end Go.Proofs.Ytdlfabbhdelinaa
