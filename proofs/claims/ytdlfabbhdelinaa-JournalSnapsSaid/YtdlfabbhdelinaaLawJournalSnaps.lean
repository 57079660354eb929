/- The row of the law JournalSnaps: for every input the call returns true, and each argument reads behind the call as it read before. No condition. -/
import Derived.Test.YtdlfabbhdelinaaRows
import Derived.Test.YtdlfabbhdelinaaJw6
import Derived.Test.YtdlfabbhdelinaaOpens
import Derived.WalkKit
import Derived.ProofKit
import Derived.OpenShut
import Derived.ShutString
import Derived.ChangeOld
import Derived.Below
import Derived.SizedLaws
import Derived.Lib.SmallJoins
namespace Go.Proofs.Ytdlfabbhdelinaa.journalSnaps
open Go.ChangeShapes Go.WideShapes Go.ChangeAt Go.RowKit
open Go.ChangeMaps (open_string shut_string)
open Go.Proofs.Ytdlfabbhdelinaa.Q Go.Proofs.YtdlfabbhdelinaaW.PrintWords 
set_option linter.unusedVariables false
theorem own : ownKnob Try.prog.godebug = none := by kernel_rfl
theorem laidOut : laidOutB Try.prog = true := by kernel_rfl
set_option maxRecDepth 100000 in
theorem lifted (os : Os) (started : os.Started) (H : Type) (enc : TypeId × Value → H) :
    ReturnsInHanded {} Try.checked os 6 .any (Rows.journalSnapsSpec.pre6 enc Try.prog Try.f6 Rows.journalSnapsRow.domain false) (Rows.journalSnapsSpec.post enc Try.prog Try.f6 false true false false) := by
  refine returnsInHanded_of_change_sized (C := Try.checked) own started (by kernel_rfl) Try.func6
    (ChangeSpec.witness6 (enc := enc) (C := Try.checked) false ⟨#[], #[.slice none 0 0, .slice none 0 0, .agg #[.int .u8 0, .slice none 0 0, .int .i64 0, .bool false, .int .i64 0, .int .i64 0, .bool false, .bool false]], []⟩ 12 (by kernel_rfl) (by kernel_rfl) (by kernel_rfl) (by kernel_rfl)) ?_
  intro W base args ds gs before hval0 hW hcnd hsz0 _
  have hsz : (DataW.weightsEach Try.prog (Try.f6.params.toList ++ Rows.journalSnapsSpec.plain.varTypes Try.prog) (ds ++ gs)).all (· ≤ reachBytes) = true := hsz0
  have hval : ∀ (j : Nat) t v, Try.f6.params[j]? = some t → args[j]? = some v → Value.okWide Try.prog W .any base t v := hval0
  have hW' := hW
  obtain ⟨p, q, hA0, hV, rfl, hfz, hnd⟩ := hW
  have hA : DataW.TrodAll enc Try.prog W 0 (fun _ => true) true Try.f6.params.toList args.toList ds p := hA0
  rw [Try.params6] at hA hval hsz
  obtain ⟨v0, vs0, d0, ds0, p0, q0, hargs, rfl, rfl, h0, r0⟩ := trodAll_cons hA
  obtain ⟨v1, vs1, d1, ds1, p1, q1, rfl, rfl, rfl, h1, r1⟩ := trodAll_cons r0
  obtain ⟨v2, vs2, d2, ds2, p2, q2, rfl, rfl, rfl, h2, r2⟩ := trodAll_cons r1
  obtain ⟨rfl, rfl, rfl⟩ := trodAll_nil r2
  obtain rfl : args = #[v0, v1, v2] := by cases args; simp_all
  obtain ⟨rfl, rfl⟩ := trodVars_none hV
  have k0 := h0
  have lt0 : ∀ x ∈ p0, x.block < W.heap.size := by obtain ⟨m, hm⟩ := k0; exact DataW.trod_lt m _ _ _ hm
  obtain ⟨l0, K0, g0⟩ := Opens.argument (Opens.slice (by kernel_rfl) Try.underlying29 (B := 24) (by kernel_rfl) (Opens.slice (by kernel_rfl) Try.underlying22 (B := 1) (by kernel_rfl) (Opens.int (by kernel_rfl) Try.underlying5))) hsz (j := 0) (t := 29) rfl rfl h0
  obtain ⟨b0, len0, cap0, rfl⟩ := okWide_slice Try.underlying29 (hval 0 29 v0 rfl rfl)
  obtain ⟨rfl, hc0, hr0⟩ := Kd.K_slice K0
  have k1 := h1
  have lt1 : ∀ x ∈ p1, x.block < W.heap.size := by obtain ⟨m, hm⟩ := k1; exact DataW.trod_lt m _ _ _ hm
  obtain ⟨l1, K1, g1⟩ := Opens.argument (Opens.slice (by kernel_rfl) Try.underlying29 (B := 24) (by kernel_rfl) (Opens.slice (by kernel_rfl) Try.underlying22 (B := 1) (by kernel_rfl) (Opens.int (by kernel_rfl) Try.underlying5))) hsz (j := 1) (t := 29) rfl rfl h1
  obtain ⟨b1, len1, cap1, rfl⟩ := okWide_slice Try.underlying29 (hval 1 29 v1 rfl rfl)
  obtain ⟨rfl, hc1, hr1⟩ := Kd.K_slice K1
  have k2 := h2
  have lt2 : ∀ x ∈ p2, x.block < W.heap.size := by obtain ⟨m, hm⟩ := k2; exact DataW.trod_lt m _ _ _ hm
  obtain ⟨l2, K2, g2⟩ := Opens.argument (show Opens Try.prog 46 dA _ from Opens.struct_ (by kernel_rfl) Try.underlying46 (Opens.cons rfl (Opens.int (by kernel_rfl) Try.underlying5) (Opens.cons rfl (Opens.slice (by kernel_rfl) Try.underlying29 (B := 24) (by kernel_rfl) (Opens.slice (by kernel_rfl) Try.underlying22 (B := 1) (by kernel_rfl) (Opens.int (by kernel_rfl) Try.underlying5))) (Opens.cons rfl (Opens.int (by kernel_rfl) Try.underlying3) (Opens.cons rfl (Opens.bool (by kernel_rfl) Try.underlying4) (Opens.cons rfl (Opens.arr (n := 2) (d := Kd.int .i64) (by decide) (by kernel_rfl) Try.underlying43 (Opens.int (by kernel_rfl) Try.underlying3)) (Opens.one rfl (Opens.arr (n := 2) (d := Kd.bool) (by decide) (by kernel_rfl) Try.underlying44 (Opens.bool (by kernel_rfl) Try.underlying4)))))))) (fun a : Ac => (a.kind, a.recs, a.n, a.behind, a.ks, a.cs)) (fun p => (⟨p.1, p.2.1, p.2.2.1, p.2.2.2.1, p.2.2.2.2.1, p.2.2.2.2.2⟩ : Ac)) (fun _ => rfl)) hsz (j := 2) (t := 46) rfl rfl h2
  have okz := hval 2 46 v2 rfl rfl
  simp only [Value.okWide, Try.underlying46] at okz
  obtain ⟨csv, rfl, _⟩ := okz
  obtain ⟨Rx, cx, x0, x1, y0, y1, ecs, hbx, hCx, hkx, hcx⟩ := dA_open K2
  obtain rfl : csv = av l2 Rx cx x0 x1 y0 y1 := Array.toList_inj.1 ecs
  clear hA0 hval0 hsz0 hsz
  have i64 : ∀ {x : Int}, (Lit.int .i64 x).wf = true → -9223372036854775808 ≤ x ∧ x < 9223372036854775808 := fun {x} h => by
    simp [Lit.wf, IntKind.min, IntKind.max, IntKind.signed, IntKind.bits] at h
    omega
  refine (law_Snaps.calls (w := W) hr0 hc0 hr1 hc1 l2 Rx cx x0 x1 y0 y1 hbx hCx hkx hcx (i64 g2.2.2.1).2).mono fun e W' ⟨he, bel0⟩ => ?_
  subst he
  have bel : Below W.heap.size W W' := bel0
  exact ⟨_, rfl, _, _, _, [], _, [], hW', trodAll_mk1 (shut_bool Try.underlying4 _), (trodAll_cons_mk (Below.trod laidOut (by kernel_rfl) (of_decide_eq_true (by kernel_rfl)) k0 bel lt0) (trodAll_cons_mk (Below.trod laidOut (by kernel_rfl) (of_decide_eq_true (by kernel_rfl)) k1 bel lt1) (trodAll_cons_mk (Below.trod laidOut (by kernel_rfl) (of_decide_eq_true (by kernel_rfl)) k2 bel lt2) trodAll_mk0))), rfl, bel.frame _, fun h => by cases h⟩
theorem over : Rows.journalSnapsRow.holds Try.pinned (OpenSpec.ofChange Rows.journalSnapsSpec) :=
  OpenClaim.holds_of_wide 6 Try.f6 rfl rfl rfl rfl rfl rfl rfl ⟨rfl, rfl, rfl, rfl, rfl⟩ rfl rfl rfl rfl rfl (by kernel_rfl) Try.func6 (by kernel_rfl)
    (of_decide_eq_true (by kernel_rfl)) (by unfold Func.isWrapper; first | (rw [if_pos (by decide +kernel)]; kernel_rfl) | (rw [if_neg (by decide +kernel)]; exact ⟨rfl, rfl⟩))
    (fun os started H enc _ => lifted os started H enc)
theorem proved : Rows.JournalSnapsSaid := over
#print axioms proved
end Go.Proofs.Ytdlfabbhdelinaa.journalSnaps
namespace Go.Proofs.Ytdlfabbhdelinaa
/-- The row, under a short name, for the claim. -/
theorem journalSnaps_holds : Rows.JournalSnapsSaid := journalSnaps.proved
end Go.Proofs.Ytdlfabbhdelinaa
