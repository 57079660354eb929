/-
  No cell of these rows narrows 'for every input' (looked for: loops, veiled, ifaces, maps, wideKeys, modest, calm, conditions, laid).
  DERIVED. THE GIVEN ROWS OF THIS SEAT. 3 by the template 'for every input the law returns true; each argument reads behind the call as it read before'; 0 by the template 'total and deterministic' (their statements: YtomkjakffpomdaaTotals.lean).
  GIVEN WITH THE SEED: the statements are not yours to turn. If you find one false, say at which input.
  Laid BY PROGRAM, IN A SANDBOX (cutbox-rows.mjs): the forced cells as the released guide's own fill.sh prints them over the translation 6e22f972a94eb5c0… (all of the seat's roots in one cut). By AI agents, Wed Nov 11 2026. No macro, syntax, notation, axiom, sorry.
-/
import Derived.Test.YtomkjakffpomdaaChecked
import GoSem.Claim
import GoSem.ClaimJoined
import GoSem.ClaimMapViews
import Derived.JoinedTies
import Derived.KernelRfl
namespace Go.Proofs.Ytomkjakffpomdaa
/- THE CELL 'sum', in the pinned program and in every row, IS THE sha256 OF THE DUMP (.gsa) THAT YtomkjakffpomdaaProg.lean LOADS. Nothing in Lean hashes anything: it is a label: what it is worth is what the hold of that sum in a sandbox is worth. -/
noncomputable def Try.pinned : Pinned := { name := "ytomkjakffpomdaa", sum := "6e22f972a94eb5c0dfe26f19f845729a52d5cab387184fd71e90772be4fe8bc4", checked := Try.checked }
namespace Rows
def none {H : Type} : Left H := { results := [], args := [] }

/-- 'cringlelaw27.SchedWaits': WHATEVER THE INPUT: true; the input reads as it did. -/
def schedWaitsSpec : ChangeSpec := { name := "schedWaits", fn := fun _ => fun
  | [d1, d2] => { results := [.lit (.bool true)], args := [d1, d2] }
  | _ => none }
def schedWaitsRow : OpenClaim := { program := "ytomkjakffpomdaa", sum := "6e22f972a94eb5c0dfe26f19f845729a52d5cab387184fd71e90772be4fe8bc4", func := "cringle/cringlelaw27.SchedWaits", spec := "schedWaits", unfollowed := true, recurses := true, apart := false }
def SchedWaitsSaid : Prop := schedWaitsRow.holds Try.pinned (OpenSpec.ofChange schedWaitsSpec)

/-- ITS FALSE NEIGHBOUR: 'it returns false'. Refute it at one input. -/
def schedWaitsWrong : ChangeSpec := { name := "schedWaits", fn := fun _ => fun
  | [d1, d2] => { results := [.lit (.bool false)], args := [d1, d2] }
  | _ => none }
def SchedWaitsWrongFalsely : Prop := schedWaitsRow.holds Try.pinned (OpenSpec.ofChange schedWaitsWrong)

/-- 'cringlelaw27.SchedTaken': WHATEVER THE INPUT: true; the input reads as it did. -/
def schedTakenSpec : ChangeSpec := { name := "schedTaken", fn := fun _ => fun
  | [d1, d2] => { results := [.lit (.bool true)], args := [d1, d2] }
  | _ => none }
def schedTakenRow : OpenClaim := { program := "ytomkjakffpomdaa", sum := "6e22f972a94eb5c0dfe26f19f845729a52d5cab387184fd71e90772be4fe8bc4", func := "cringle/cringlelaw27.SchedTaken", spec := "schedTaken", unfollowed := true, recurses := true, apart := false }
def SchedTakenSaid : Prop := schedTakenRow.holds Try.pinned (OpenSpec.ofChange schedTakenSpec)

/-- ITS FALSE NEIGHBOUR: 'it returns false'. Refute it at one input. -/
def schedTakenWrong : ChangeSpec := { name := "schedTaken", fn := fun _ => fun
  | [d1, d2] => { results := [.lit (.bool false)], args := [d1, d2] }
  | _ => none }
def SchedTakenWrongFalsely : Prop := schedTakenRow.holds Try.pinned (OpenSpec.ofChange schedTakenWrong)

/-- 'cringlelaw27.SchedNobody': WHATEVER THE INPUT: true; the input reads as it did. -/
def schedNobodySpec : ChangeSpec := { name := "schedNobody", fn := fun _ => fun
  | [d] => { results := [.lit (.bool true)], args := [d] }
  | _ => none }
def schedNobodyRow : OpenClaim := { program := "ytomkjakffpomdaa", sum := "6e22f972a94eb5c0dfe26f19f845729a52d5cab387184fd71e90772be4fe8bc4", func := "cringle/cringlelaw27.SchedNobody", spec := "schedNobody", unfollowed := true, recurses := true, apart := false }
def SchedNobodySaid : Prop := schedNobodyRow.holds Try.pinned (OpenSpec.ofChange schedNobodySpec)

/-- ITS FALSE NEIGHBOUR: 'it returns false'. Refute it at one input. -/
def schedNobodyWrong : ChangeSpec := { name := "schedNobody", fn := fun _ => fun
  | [d] => { results := [.lit (.bool false)], args := [d] }
  | _ => none }
def SchedNobodyWrongFalsely : Prop := schedNobodyRow.holds Try.pinned (OpenSpec.ofChange schedNobodyWrong)

/- THE SECOND FORM. 'bulk': how many values and letters a reading holds, each counted each time it is reached (what is shared counts as often as it is met; a slice's spare places count too). A statement '..UptoSaid' is the law's where the arguments, and the package variables that the reading takes, are together of bulk at most 1048576: NARROWER than '..Said'. Prove '..Said' where nothing that the law and all that it calls make is longer than what came in: it says more and counts as full. Else prove '..UptoSaid'. A law counts once. -/
mutual
def uptoBulk {H : Type} : DataW H → Nat
  | .lit (.string bytes) => bytes.length + 1
  | .lit _ => 1
  | .nil => 1
  | .ptr d => uptoBulk d + 1
  | .slice elems spare => uptoBulkAll elems + uptoBulkAll spare + 1
  | .agg parts => uptoBulkAll parts + 1
  | .iface _ d => uptoBulk d + 1
  | .map entries => uptoBulkEntries entries + 1
  | .held _ => 1
def uptoBulkAll {H : Type} : List (DataW H) → Nat
  | [] => 0
  | d :: r => uptoBulk d + uptoBulkAll r
def uptoBulkEntries {H : Type} : List (Lit × DataW H) → Nat
  | [] => 0
  | x :: r => uptoBulkEntry x + uptoBulkEntries r
def uptoBulkEntry {H : Type} : Lit × DataW H → Nat
  | (.string bytes, d) => bytes.length + uptoBulk d + 1
  | (_, d) => uptoBulk d + 1
 end
def uptoSmall : (H : Type) → List (DataW H) → Bool := fun _ ds => decide (uptoBulkAll ds ≤ 1048576)
def OpenSpec.upto (s : _root_.Go.ChangeSpec) : _root_.Go.OpenSpec := { _root_.Go.OpenSpec.ofChange s with cond := some uptoSmall }

/-- 'cringlelaw27.SchedWaits', WHERE WHAT IT READS IS OF BULK AT MOST 1048576: true; the input reads as it did. -/
def schedWaitsUptoRow : OpenClaim := { program := "ytomkjakffpomdaa", sum := "6e22f972a94eb5c0dfe26f19f845729a52d5cab387184fd71e90772be4fe8bc4", func := "cringle/cringlelaw27.SchedWaits", spec := "schedWaits", unfollowed := true, recurses := true, apart := false, narrowed := true }
def SchedWaitsUptoSaid : Prop := schedWaitsUptoRow.holds Try.pinned (OpenSpec.upto schedWaitsSpec)

/-- 'cringlelaw27.SchedTaken', WHERE WHAT IT READS IS OF BULK AT MOST 1048576: true; the input reads as it did. -/
def schedTakenUptoRow : OpenClaim := { program := "ytomkjakffpomdaa", sum := "6e22f972a94eb5c0dfe26f19f845729a52d5cab387184fd71e90772be4fe8bc4", func := "cringle/cringlelaw27.SchedTaken", spec := "schedTaken", unfollowed := true, recurses := true, apart := false, narrowed := true }
def SchedTakenUptoSaid : Prop := schedTakenUptoRow.holds Try.pinned (OpenSpec.upto schedTakenSpec)

/-- 'cringlelaw27.SchedNobody', WHERE WHAT IT READS IS OF BULK AT MOST 1048576: true; the input reads as it did. -/
def schedNobodyUptoRow : OpenClaim := { program := "ytomkjakffpomdaa", sum := "6e22f972a94eb5c0dfe26f19f845729a52d5cab387184fd71e90772be4fe8bc4", func := "cringle/cringlelaw27.SchedNobody", spec := "schedNobody", unfollowed := true, recurses := true, apart := false, narrowed := true }
def SchedNobodyUptoSaid : Prop := schedNobodyUptoRow.holds Try.pinned (OpenSpec.upto schedNobodySpec)

end Rows
end Go.Proofs.Ytomkjakffpomdaa
