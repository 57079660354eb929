/- The row of the law AuthOnce: for every input the call returns true, and each argument reads behind the call as it read before. No condition. -/
import Derived.Test.YtnakiheekkpfdaaRows
import Derived.Test.YtnakiheekkpfdaaAw7
import Derived.Test.YtnakiheekkpfdaaOpens
import Derived.WalkKit
import Derived.ProofKit
import Derived.OpenShut
import Derived.ShutString
import Derived.ChangeOld
import Derived.Below
import Derived.SizedLaws
import Derived.Lib.SmallJoins
namespace Go.Proofs.Ytnakiheekkpfdaa.authOnce
open Go.ChangeShapes Go.WideShapes Go.ChangeAt Go.RowKit
open Go.ChangeMaps (open_string shut_string)
open Go.Proofs.Ytnakiheekkpfdaa.Q Go.Proofs.YtnakiheekkpfdaaW.PrintWords 
set_option linter.unusedVariables false
theorem own : ownKnob Try.prog.godebug = none := by kernel_rfl
theorem laidOut : laidOutB Try.prog = true := by kernel_rfl
set_option maxRecDepth 100000 in
theorem lifted (os : Os) (started : os.Started) (H : Type) (enc : TypeId × Value → H) :
    ReturnsInHanded {} Try.checked os 4 .any (Rows.authOnceSpec.pre6 enc Try.prog Try.f4 Rows.authOnceRow.domain false) (Rows.authOnceSpec.post enc Try.prog Try.f4 false true false false) := by
  refine returnsInHanded_of_change_sized (C := Try.checked) own started (by kernel_rfl) Try.func4
    (ChangeSpec.witness6 (enc := enc) (C := Try.checked) false ⟨#[], #[.slice none 0 0], []⟩ 12 (by kernel_rfl) (by kernel_rfl) (by kernel_rfl) (by kernel_rfl)) ?_
  intro W base args ds gs before hval0 hW hcnd hsz0 _
  have hsz : (DataW.weightsEach Try.prog (Try.f4.params.toList ++ Rows.authOnceSpec.plain.varTypes Try.prog) (ds ++ gs)).all (· ≤ reachBytes) = true := hsz0
  have hval : ∀ (j : Nat) t v, Try.f4.params[j]? = some t → args[j]? = some v → Value.okWide Try.prog W .any base t v := hval0
  have hW' := hW
  obtain ⟨p, q, hA0, hV, rfl, hfz, hnd⟩ := hW
  have hA : DataW.TrodAll enc Try.prog W 0 (fun _ => true) true Try.f4.params.toList args.toList ds p := hA0
  rw [Try.params4] at hA hval hsz
  obtain ⟨v0, vs0, d0, ds0, p0, q0, hargs, rfl, rfl, h0, r0⟩ := trodAll_cons hA
  obtain ⟨rfl, rfl, rfl⟩ := trodAll_nil r0
  obtain rfl : args = #[v0] := by cases args; simp_all
  obtain ⟨rfl, rfl⟩ := trodVars_none hV
  have k0 := h0
  have lt0 : ∀ x ∈ p0, x.block < W.heap.size := by obtain ⟨m, hm⟩ := k0; exact DataW.trod_lt m _ _ _ hm
  obtain ⟨l0, K0, g0⟩ := Opens.argument (Opens.slice (by kernel_rfl) Try.underlying22 (B := 72) (by kernel_rfl) (show Opens Try.prog 29 dA _ from Opens.struct_ (by kernel_rfl) Try.underlying29 (Opens.cons rfl (Opens.int (by kernel_rfl) Try.underlying5) (Opens.cons rfl (Opens.int (by kernel_rfl) Try.underlying2) (Opens.cons rfl (Opens.string (by kernel_rfl) Try.underlying9) (Opens.cons rfl (Opens.string (by kernel_rfl) Try.underlying9) (Opens.cons rfl (Opens.bool (by kernel_rfl) Try.underlying4) (Opens.cons rfl (Opens.int (by kernel_rfl) Try.underlying2) (Opens.one rfl (Opens.int (by kernel_rfl) Try.underlying3)))))))) (fun a : Ac => (a.kind, a.later, a.tok, a.sc, a.good, a.left, a.n)) (fun p => (⟨p.1, p.2.1, p.2.2.1, p.2.2.2.1, p.2.2.2.2.1, p.2.2.2.2.2.1, p.2.2.2.2.2.2⟩ : Ac)) (fun _ => rfl))) hsz (j := 0) (t := 22) rfl rfl h0
  obtain ⟨b0, len0, cap0, rfl⟩ := okWide_slice Try.underlying22 (hval 0 22 v0 rfl rfl)
  obtain ⟨rfl, hc0, hr0⟩ := Kd.K_slice K0
  clear hA0 hval0 hsz0 hsz
  have by8 : ∀ {x : Int}, (Lit.int .u8 x).wf = true → 0 ≤ x ∧ x < 256 := fun {x} h => by
    simp [Lit.wf, IntKind.min, IntKind.max, IntKind.signed, IntKind.bits] at h
    omega
  have hg0 : ∀ a ∈ l0, (0 ≤ a.kind ∧ a.kind < 256) ∧ a.tok.size ≤ maxLen := fun a ha => by
    have z := g0.2 a ha
    exact ⟨by8 z.1, Nat.le_trans z.2.2.1 (by decide)⟩
  refine (law_Once.calls (w := W) hr0 hc0 hg0).mono fun e W' ⟨he, bel0⟩ => ?_
  subst he
  have bel : Below W.heap.size W W' := bel0
  exact ⟨_, rfl, _, _, _, [], _, [], hW', trodAll_mk1 (shut_bool Try.underlying4 _), (trodAll_cons_mk (Below.trod laidOut (by kernel_rfl) (of_decide_eq_true (by kernel_rfl)) k0 bel lt0) trodAll_mk0), rfl, bel.frame _, fun h => by cases h⟩
theorem over : Rows.authOnceRow.holds Try.pinned (OpenSpec.ofChange Rows.authOnceSpec) :=
  OpenClaim.holds_of_wide 4 Try.f4 rfl rfl rfl rfl rfl rfl rfl ⟨rfl, rfl, rfl, rfl, rfl⟩ rfl rfl rfl rfl rfl (by kernel_rfl) Try.func4 (by kernel_rfl)
    (of_decide_eq_true (by kernel_rfl)) (by unfold Func.isWrapper; first | (rw [if_pos (by decide +kernel)]; kernel_rfl) | (rw [if_neg (by decide +kernel)]; exact ⟨rfl, rfl⟩))
    (fun os started H enc _ => lifted os started H enc)
theorem proved : Rows.AuthOnceSaid := over
#print axioms proved
end Go.Proofs.Ytnakiheekkpfdaa.authOnce
namespace Go.Proofs.Ytnakiheekkpfdaa
/-- The row, under a short name, for the claim. -/
theorem authOnce_holds : Rows.AuthOnceSaid := authOnce.proved
end Go.Proofs.Ytnakiheekkpfdaa
