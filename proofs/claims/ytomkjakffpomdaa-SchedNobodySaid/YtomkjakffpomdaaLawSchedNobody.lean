/- The row of the law SchedNobody: for every input the call returns true, and each argument reads behind the call as it read before. No condition. -/
import Derived.Test.YtomkjakffpomdaaRows
import Derived.Test.YtomkjakffpomdaaSw6
import Derived.Test.YtomkjakffpomdaaOpens
import Derived.WalkKit
import Derived.ProofKit
import Derived.OpenShut
import Derived.ShutString
import Derived.ChangeOld
import Derived.Below
import Derived.SizedLaws
import Derived.Lib.SmallJoins
namespace Go.Proofs.Ytomkjakffpomdaa.schedNobody
open Go.ChangeShapes Go.WideShapes Go.ChangeAt Go.RowKit
open Go.ChangeMaps (open_string shut_string)
open Go.Proofs.Ytomkjakffpomdaa.Q Go.Proofs.YtomkjakffpomdaaW.PrintWords 
set_option linter.unusedVariables false
theorem own : ownKnob Try.prog.godebug = none := by kernel_rfl
theorem laidOut : laidOutB Try.prog = true := by kernel_rfl
set_option maxRecDepth 100000 in
theorem lifted (os : Os) (started : os.Started) (H : Type) (enc : TypeId × Value → H) :
    ReturnsInHanded {} Try.checked os 5 .any (Rows.schedNobodySpec.pre6 enc Try.prog Try.f5 Rows.schedNobodyRow.domain false) (Rows.schedNobodySpec.post enc Try.prog Try.f5 false true false false) := by
  refine returnsInHanded_of_change_sized (C := Try.checked) own started (by kernel_rfl) Try.func5
    (ChangeSpec.witness6 (enc := enc) (C := Try.checked) false ⟨#[], #[.agg #[.int .u8 0, .int .i64 0, .slice none 0 0, .string ByteArray.empty, .int .i64 0, .bool false]], []⟩ 12 (by kernel_rfl) (by kernel_rfl) (by kernel_rfl) (by kernel_rfl)) ?_
  intro W base args ds gs before hval0 hW hcnd hsz0 _
  have hsz : (DataW.weightsEach Try.prog (Try.f5.params.toList ++ Rows.schedNobodySpec.plain.varTypes Try.prog) (ds ++ gs)).all (· ≤ reachBytes) = true := hsz0
  have hval : ∀ (j : Nat) t v, Try.f5.params[j]? = some t → args[j]? = some v → Value.okWide Try.prog W .any base t v := hval0
  have hW' := hW
  obtain ⟨p, q, hA0, hV, rfl, hfz, hnd⟩ := hW
  have hA : DataW.TrodAll enc Try.prog W 0 (fun _ => true) true Try.f5.params.toList args.toList ds p := hA0
  rw [Try.params5] at hA hval hsz
  obtain ⟨v0, vs0, d0, ds0, p0, q0, hargs, rfl, rfl, h0, r0⟩ := trodAll_cons hA
  obtain ⟨rfl, rfl, rfl⟩ := trodAll_nil r0
  obtain rfl : args = #[v0] := by cases args; simp_all
  obtain ⟨rfl, rfl⟩ := trodVars_none hV
  have k0 := h0
  have lt0 : ∀ x ∈ p0, x.block < W.heap.size := by obtain ⟨m, hm⟩ := k0; exact DataW.trod_lt m _ _ _ hm
  obtain ⟨l0, K0, g0⟩ := Opens.argument (show Opens Try.prog 39 dA _ from Opens.struct_ (by kernel_rfl) Try.underlying39 (Opens.cons rfl (Opens.int (by kernel_rfl) Try.underlying5) (Opens.cons rfl (Opens.int (by kernel_rfl) Try.underlying2) (Opens.cons rfl (Opens.slice (by kernel_rfl) Try.underlying29 (B := 16) (by kernel_rfl) (Opens.string (by kernel_rfl) Try.underlying9)) (Opens.cons rfl (Opens.string (by kernel_rfl) Try.underlying9) (Opens.cons rfl (Opens.int (by kernel_rfl) Try.underlying3) (Opens.one rfl (Opens.bool (by kernel_rfl) Try.underlying4))))))) (fun a : Ac => (a.kind, a.later, a.urls, a.url, a.n, a.good)) (fun p => (⟨p.1, p.2.1, p.2.2.1, p.2.2.2.1, p.2.2.2.2.1, p.2.2.2.2.2⟩ : Ac)) (fun _ => rfl)) hsz (j := 0) (t := 39) rfl rfl h0
  have okz := hval 0 39 v0 rfl rfl
  simp only [Value.okWide, Try.underlying39] at okz
  obtain ⟨csv, rfl, _⟩ := okz
  obtain ⟨Rx, cx, ecs, hcx, hCx⟩ := dA_open K0
  obtain rfl : csv = av l0 Rx cx := Array.toList_inj.1 ecs
  clear hA0 hval0 hsz0 hsz
  refine (law_Nobody.calls (w := W) l0 Rx cx hcx hCx).mono fun e W' ⟨he, bel0⟩ => ?_
  subst he
  have bel : Below W.heap.size W W' := bel0
  exact ⟨_, rfl, _, _, _, [], _, [], hW', trodAll_mk1 (shut_bool Try.underlying4 _), (trodAll_cons_mk (Below.trod laidOut (by kernel_rfl) (of_decide_eq_true (by kernel_rfl)) k0 bel lt0) trodAll_mk0), rfl, bel.frame _, fun h => by cases h⟩
theorem over : Rows.schedNobodyRow.holds Try.pinned (OpenSpec.ofChange Rows.schedNobodySpec) :=
  OpenClaim.holds_of_wide 5 Try.f5 rfl rfl rfl rfl rfl rfl rfl ⟨rfl, rfl, rfl, rfl, rfl⟩ rfl rfl rfl rfl rfl (by kernel_rfl) Try.func5 (by kernel_rfl)
    (of_decide_eq_true (by kernel_rfl)) (by unfold Func.isWrapper; first | (rw [if_pos (by decide +kernel)]; kernel_rfl) | (rw [if_neg (by decide +kernel)]; exact ⟨rfl, rfl⟩))
    (fun os started H enc _ => lifted os started H enc)
theorem proved : Rows.SchedNobodySaid := over
#print axioms proved
end Go.Proofs.Ytomkjakffpomdaa.schedNobody
namespace Go.Proofs.Ytomkjakffpomdaa
/-- The row, under a short name, for the claim. -/
theorem schedNobody_holds : Rows.SchedNobodySaid := schedNobody.proved
end Go.Proofs.Ytomkjakffpomdaa
