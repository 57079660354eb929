/- The row of the law DiskSure: for every input the call returns true, and each argument reads behind the call as it read before. No condition. -/
import Derived.Test.YtjiboeokockdcaaRows
import Derived.Test.YtjiboeokockdcaaDk7
import Derived.Test.YtjiboeokockdcaaOpens
import Derived.WalkKit
import Derived.ProofKit
import Derived.OpenShut
import Derived.ShutString
import Derived.ChangeOld
import Derived.Below
import Derived.SizedLaws
import Derived.Lib.SmallJoins
namespace Go.Proofs.Ytjiboeokockdcaa.diskSure
open Go.ChangeShapes Go.WideShapes Go.ChangeAt Go.RowKit
open Go.ChangeMaps (open_string shut_string)
open Go.Proofs.Ytjiboeokockdcaa.Q Go.Proofs.YtjiboeokockdcaaW.PrintWords 
set_option linter.unusedVariables false
theorem own : ownKnob Try.prog.godebug = none := by kernel_rfl
theorem laidOut : laidOutB Try.prog = true := by kernel_rfl
set_option maxRecDepth 100000 in
theorem lifted (os : Os) (started : os.Started) (H : Type) (enc : TypeId × Value → H) :
    ReturnsInHanded {} Try.checked os 4 .any (Rows.diskSureSpec.pre6 enc Try.prog Try.f4 Rows.diskSureRow.domain false) (Rows.diskSureSpec.post enc Try.prog Try.f4 false true false false) := by
  refine returnsInHanded_of_change_sized (C := Try.checked) own started (by kernel_rfl) Try.func4
    (ChangeSpec.witness6 (enc := enc) (C := Try.checked) false ⟨#[], #[.slice none 0 0, .agg #[.int .u8 0, .int .i64 0, .int .i64 0, .bool false, .slice none 0 0, .int .i64 0, .int .i64 0, .bool false, .bool false]], []⟩ 12 (by kernel_rfl) (by kernel_rfl) (by kernel_rfl) (by kernel_rfl)) ?_
  intro W base args ds gs before hval0 hW hcnd hsz0 _
  have hsz : (DataW.weightsEach Try.prog (Try.f4.params.toList ++ Rows.diskSureSpec.plain.varTypes Try.prog) (ds ++ gs)).all (· ≤ reachBytes) = true := hsz0
  have hval : ∀ (j : Nat) t v, Try.f4.params[j]? = some t → args[j]? = some v → Value.okWide Try.prog W .any base t v := hval0
  have hW' := hW
  obtain ⟨p, q, hA0, hV, rfl, hfz, hnd⟩ := hW
  have hA : DataW.TrodAll enc Try.prog W 0 (fun _ => true) true Try.f4.params.toList args.toList ds p := hA0
  rw [Try.params4] at hA hval hsz
  obtain ⟨v0, vs0, d0, ds0, p0, q0, hargs, rfl, rfl, h0, r0⟩ := trodAll_cons hA
  obtain ⟨v1, vs1, d1, ds1, p1, q1, rfl, rfl, rfl, h1, r1⟩ := trodAll_cons r0
  obtain ⟨rfl, rfl, rfl⟩ := trodAll_nil r1
  obtain rfl : args = #[v0, v1] := by cases args; simp_all
  obtain ⟨rfl, rfl⟩ := trodVars_none hV
  have k0 := h0
  have lt0 : ∀ x ∈ p0, x.block < W.heap.size := by obtain ⟨m, hm⟩ := k0; exact DataW.trod_lt m _ _ _ hm
  obtain ⟨l0, K0, g0⟩ := Opens.argument (Opens.slice (by kernel_rfl) Try.underlying22 (B := 80) (by kernel_rfl) (show Opens Try.prog 36 dA _ from Opens.struct_ (by kernel_rfl) Try.underlying36 (Opens.cons rfl (Opens.int (by kernel_rfl) Try.underlying5) (Opens.cons rfl (Opens.int (by kernel_rfl) Try.underlying3) (Opens.cons rfl (Opens.int (by kernel_rfl) Try.underlying3) (Opens.cons rfl (Opens.bool (by kernel_rfl) Try.underlying4) (Opens.cons rfl (Opens.slice (by kernel_rfl) Try.underlying23 (B := 1) (by kernel_rfl) (Opens.int (by kernel_rfl) Try.underlying5)) (Opens.cons rfl (Opens.arr (n := 2) (d := Kd.int .i64) (by decide) (by kernel_rfl) Try.underlying33 (Opens.int (by kernel_rfl) Try.underlying3)) (Opens.one rfl (Opens.arr (n := 2) (d := Kd.bool) (by decide) (by kernel_rfl) Try.underlying34 (Opens.bool (by kernel_rfl) Try.underlying4))))))))) (fun a : Ac => (a.kind, a.file, a.n, a.behind, a.b, a.ks, a.cs)) (fun p => (⟨p.1, p.2.1, p.2.2.1, p.2.2.2.1, p.2.2.2.2.1, p.2.2.2.2.2.1, p.2.2.2.2.2.2⟩ : Ac)) (fun _ => rfl))) hsz (j := 0) (t := 22) rfl rfl h0
  obtain ⟨b0, len0, cap0, rfl⟩ := okWide_slice Try.underlying22 (hval 0 22 v0 rfl rfl)
  obtain ⟨rfl, hc0, hr0⟩ := Kd.K_slice K0
  have k1 := h1
  have lt1 : ∀ x ∈ p1, x.block < W.heap.size := by obtain ⟨m, hm⟩ := k1; exact DataW.trod_lt m _ _ _ hm
  obtain ⟨l1, K1, g1⟩ := Opens.argument (show Opens Try.prog 36 dA _ from Opens.struct_ (by kernel_rfl) Try.underlying36 (Opens.cons rfl (Opens.int (by kernel_rfl) Try.underlying5) (Opens.cons rfl (Opens.int (by kernel_rfl) Try.underlying3) (Opens.cons rfl (Opens.int (by kernel_rfl) Try.underlying3) (Opens.cons rfl (Opens.bool (by kernel_rfl) Try.underlying4) (Opens.cons rfl (Opens.slice (by kernel_rfl) Try.underlying23 (B := 1) (by kernel_rfl) (Opens.int (by kernel_rfl) Try.underlying5)) (Opens.cons rfl (Opens.arr (n := 2) (d := Kd.int .i64) (by decide) (by kernel_rfl) Try.underlying33 (Opens.int (by kernel_rfl) Try.underlying3)) (Opens.one rfl (Opens.arr (n := 2) (d := Kd.bool) (by decide) (by kernel_rfl) Try.underlying34 (Opens.bool (by kernel_rfl) Try.underlying4))))))))) (fun a : Ac => (a.kind, a.file, a.n, a.behind, a.b, a.ks, a.cs)) (fun p => (⟨p.1, p.2.1, p.2.2.1, p.2.2.2.1, p.2.2.2.2.1, p.2.2.2.2.2.1, p.2.2.2.2.2.2⟩ : Ac)) (fun _ => rfl)) hsz (j := 1) (t := 36) rfl rfl h1
  have okz := hval 1 36 v1 rfl rfl
  simp only [Value.okWide, Try.underlying36] at okz
  obtain ⟨csv, rfl, _⟩ := okz
  obtain ⟨Bx, cx, x0, x1, y0, y1, ecs, _, _, hkx, hcx⟩ := dA_open K1
  obtain rfl : csv = av l1 Bx cx x0 x1 y0 y1 := Array.toList_inj.1 ecs
  clear hA0 hval0 hsz0 hsz
  have i64 : ∀ {x : Int}, (Lit.int .i64 x).wf = true → -9223372036854775808 ≤ x ∧ x < 9223372036854775808 := fun {x} h => by
    simp [Lit.wf, IntKind.min, IntKind.max, IntKind.signed, IntKind.bits] at h
    omega
  have u8 : ∀ {x : Int}, (Lit.int .u8 x).wf = true → 0 ≤ x := fun {x} h => by
    simp [Lit.wf, IntKind.min, IntKind.max, IntKind.signed, IntKind.bits] at h
    omega
  refine (law_Sure.calls (w := W) hr0 hc0 (fun a ha => ⟨(i64 (g0.2 a ha).2.2.1).2, u8 (g0.2 a ha).1⟩) l1 Bx cx x0 x1 y0 y1).mono fun e W' ⟨he, bel0⟩ => ?_
  subst he
  have bel : Below W.heap.size W W' := bel0
  exact ⟨_, rfl, _, _, _, [], _, [], hW', trodAll_mk1 (shut_bool Try.underlying4 _), (trodAll_cons_mk (Below.trod laidOut (by kernel_rfl) (of_decide_eq_true (by kernel_rfl)) k0 bel lt0) (trodAll_cons_mk (Below.trod laidOut (by kernel_rfl) (of_decide_eq_true (by kernel_rfl)) k1 bel lt1) trodAll_mk0)), rfl, bel.frame _, fun h => by cases h⟩
theorem over : Rows.diskSureRow.holds Try.pinned (OpenSpec.ofChange Rows.diskSureSpec) :=
  OpenClaim.holds_of_wide 4 Try.f4 rfl rfl rfl rfl rfl rfl rfl ⟨rfl, rfl, rfl, rfl, rfl⟩ rfl rfl rfl rfl rfl (by kernel_rfl) Try.func4 (by kernel_rfl)
    (of_decide_eq_true (by kernel_rfl)) (by unfold Func.isWrapper; first | (rw [if_pos (by decide +kernel)]; kernel_rfl) | (rw [if_neg (by decide +kernel)]; exact ⟨rfl, rfl⟩))
    (fun os started H enc _ => lifted os started H enc)
theorem proved : Rows.DiskSureSaid := over
#print axioms proved
end Go.Proofs.Ytjiboeokockdcaa.diskSure
namespace Go.Proofs.Ytjiboeokockdcaa
/-- The row, under a short name, for the claim. -/
theorem diskSure_holds : Rows.DiskSureSaid := diskSure.proved
end Go.Proofs.Ytjiboeokockdcaa
