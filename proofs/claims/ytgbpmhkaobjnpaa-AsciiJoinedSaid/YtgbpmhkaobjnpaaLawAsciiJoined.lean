/- The row of the law AsciiJoined: for every input the call returns true, and each argument reads behind the call as it read before. No condition. -/
import Derived.Test.YtgbpmhkaobjnpaaRows
import Derived.Test.YtgbpmhkaobjnpaaQ26
import Derived.Test.YtgbpmhkaobjnpaaPureAsciiJoined
import Derived.Test.YtgbpmhkaobjnpaaSayAsciiJoined
import Derived.Test.YtgbpmhkaobjnpaaOpens
import Derived.WalkKit
import Derived.ProofKit
import Derived.OpenShut
import Derived.ShutString
import Derived.ChangeOld
import Derived.Below
import Derived.SizedLaws
import Derived.Lib.SmallJoins
namespace Go.Proofs.Ytgbpmhkaobjnpaa.asciiJoined
open Go.ChangeShapes Go.WideShapes Go.ChangeAt Go.RowKit
open Go.ChangeMaps (open_string shut_string)
open Go.Proofs.Ytgbpmhkaobjnpaa.Q Go.Proofs.YtgbpmhkaobjnpaaW.PrintWords
set_option linter.unusedVariables false
theorem own : ownKnob Try.prog.godebug = none := by kernel_rfl
theorem laidOut : laidOutB Try.prog = true := by kernel_rfl
set_option maxRecDepth 100000 in
theorem lifted (os : Os) (started : os.Started) (H : Type) (enc : TypeId × Value → H) :
    ReturnsInHanded {} Try.checked os 8 .any (Rows.asciiJoinedSpec.pre6 enc Try.prog Try.f8 Rows.asciiJoinedRow.domain false) (Rows.asciiJoinedSpec.post enc Try.prog Try.f8 false true false false) := by
  refine returnsInHanded_of_change_sized (C := Try.checked) own started (by kernel_rfl) Try.func8
    (ChangeSpec.witness6 (enc := enc) (C := Try.checked) false ⟨#[], #[.string ByteArray.empty, .int .u8 0], []⟩ 8 (by kernel_rfl) (by kernel_rfl) (by kernel_rfl) (by kernel_rfl)) ?_
  intro W base args ds gs before hval0 hW hcnd hsz0 _
  have hsz : (DataW.weightsEach Try.prog (Try.f8.params.toList ++ Rows.asciiJoinedSpec.plain.varTypes Try.prog) (ds ++ gs)).all (· ≤ reachBytes) = true := hsz0
  have hval : ∀ (j : Nat) t v, Try.f8.params[j]? = some t → args[j]? = some v → Value.okWide Try.prog W .any base t v := hval0
  have hW' := hW
  obtain ⟨p, q, hA0, hV, rfl, hfz, hnd⟩ := hW
  have hA : DataW.TrodAll enc Try.prog W 0 (fun _ => true) true Try.f8.params.toList args.toList ds p := hA0
  rw [Try.params8] at hA hval hsz
  obtain ⟨v0, vs0, d0, ds0, p0, q0, hargs, rfl, rfl, h0, r0⟩ := trodAll_cons hA
  obtain ⟨v1, vs1, d1, ds1, p1, q1, rfl, rfl, rfl, h1, r1⟩ := trodAll_cons r0
  obtain ⟨rfl, rfl, rfl⟩ := trodAll_nil r1
  obtain rfl : args = #[v0, v1] := by cases args; simp_all
  obtain ⟨rfl, rfl⟩ := trodVars_none hV
  have k0 := h0
  have lt0 : ∀ x ∈ p0, x.block < W.heap.size := by obtain ⟨m, hm⟩ := k0; exact DataW.trod_lt m _ _ _ hm
  obtain ⟨a0, K0, g0⟩ := Opens.argument (Opens.string (by kernel_rfl) Try.underlying9) hsz (j := 0) (t := 9) rfl rfl h0
  obtain ⟨z0, rfl⟩ := okWide_string Try.underlying9 (hval 0 9 v0 rfl rfl)
  obtain rfl : a0 = z0 := by have z := K0; change [Value.string z0] = [Value.string a0] at z; simp at z; exact z.symm
  have k1 := h1
  have lt1 : ∀ x ∈ p1, x.block < W.heap.size := by obtain ⟨m, hm⟩ := k1; exact DataW.trod_lt m _ _ _ hm
  obtain ⟨a1, K1, g1⟩ := Opens.argument (Opens.int (by kernel_rfl) Try.underlying5) hsz (j := 1) (t := 5) rfl rfl h1
  obtain ⟨z1, rfl⟩ := okWide_int Try.underlying5 (hval 1 5 v1 rfl rfl)
  obtain rfl : a1 = z1 := by have z := K1; change [Value.int .u8 z1] = [Value.int .u8 a1] at z; simp at z; exact z.symm
  clear hA0 hval0 hsz0 hsz
  obtain ⟨kk, hk⟩ := Pure.AsciiJoined a0 a1 g0 g1
  refine (cringlelaw01_AsciiJoined.calls (k := kk) (r := true) (w := W) (a0 := a0) (a1 := a1) (h := hk) (htrue := ⟨rfl⟩)).mono fun e W' ⟨he, bel0⟩ => ?_
  subst he
  have bel : Below W.heap.size W W' := bel0
  exact ⟨_, rfl, _, _, _, [], _, [], hW', trodAll_mk1 (shut_bool Try.underlying4 _), (trodAll_cons_mk (Below.trod laidOut (by kernel_rfl) (of_decide_eq_true (by kernel_rfl)) k0 bel lt0) (trodAll_cons_mk (Below.trod laidOut (by kernel_rfl) (of_decide_eq_true (by kernel_rfl)) k1 bel lt1) trodAll_mk0)), rfl, bel.frame _, fun h => by cases h⟩
theorem over : Rows.asciiJoinedRow.holds Try.pinned (OpenSpec.ofChange Rows.asciiJoinedSpec) :=
  OpenClaim.holds_of_wide 8 Try.f8 rfl rfl rfl rfl rfl rfl rfl ⟨rfl, rfl, rfl, rfl, rfl⟩ rfl rfl rfl rfl rfl (by kernel_rfl) Try.func8 (by kernel_rfl)
    (of_decide_eq_true (by kernel_rfl)) (by unfold Func.isWrapper; first | (rw [if_pos (by decide +kernel)]; kernel_rfl) | (rw [if_neg (by decide +kernel)]; exact ⟨rfl, rfl⟩))
    (fun os started H enc _ => lifted os started H enc)
theorem proved : Rows.AsciiJoinedSaid := over
#print axioms proved
end Go.Proofs.Ytgbpmhkaobjnpaa.asciiJoined
namespace Go.Proofs.Ytgbpmhkaobjnpaa
/-- The row, under a short name, for the claim. -/
theorem asciiJoined_holds : Rows.AsciiJoinedSaid := asciiJoined.proved
end Go.Proofs.Ytgbpmhkaobjnpaa
