/- The row of the law HttpGets: for every input the call returns true, and each argument reads behind the call as it read before. No condition. -/
import Derived.Test.YtljlkpfiebcoeaaGreatDoorRows
import Derived.Test.YtljlkpfiebcoeaaGreatDoorHwG
import Derived.Test.YtljlkpfiebcoeaaGreatDoorOpens
import Derived.WalkKit
import Derived.ProofKit
import Derived.OpenShut
import Derived.ShutString
import Derived.ChangeOld
import Derived.Below
import Derived.SizedLaws
import Derived.Lib.SmallJoins
import Derived.Test.YtljlkpfiebcoeaaGreatDoorCards
import Derived.Test.YtljlkpfiebcoeaaGreatDoorTie
import Derived.Deep.DeepHandedRow
import Derived.Lib.LaidTab
import Derived.SevenTiedAt
import Derived.Lib.LaidU8T
import Derived.Test.YtljlkpfiebcoeaaGreatDoorShelf
namespace Go.Proofs.YtljlkpfiebcoeaaGreatDoor.httpGets
open Go.ChangeShapes Go.WideShapes Go.ChangeAt Go.RowKit
open Go.ChangeMaps (open_string shut_string)
open Go.Proofs.YtljlkpfiebcoeaaGreatDoor.Q Go.Proofs.YtljlkpfiebcoeaaGreatDoorW.PrintWords 
set_option linter.unusedVariables false
theorem own : ownKnob Tryz.prog.godebug = none := by kernel_rfl
theorem laidOut : laidOutB Tryz.prog = true := by kernel_rfl
/-- A world for the witness: the settled one, the two tables holding what their initialisers lay. -/
def tab0 : Obj → Obj
  | .cells _ t frozen => .cells (Go.Pinned.utf8FirstZ.map (fun n : Nat => Value.int .u8 (n : Int))).toArray t frozen
  | o => o
def tab1 : Obj → Obj
  | .cells _ t frozen => .cells (([128, 191, 160, 191, 128, 159, 144, 191, 128, 143] ++ List.replicate 22 (0 : Nat)).map (fun n : Nat => Value.int .u8 (n : Int))).toArray t frozen
  | o => o
noncomputable def laidWorld (os : Os) : World :=
  { World.holding Tryz.prog os ⟨#[], #[], []⟩ with heap := ((World.holding Tryz.prog os ⟨#[], #[], []⟩).heap.modify 1 tab0).modify 2 tab1 }
set_option maxRecDepth 100000 in
theorem laid_met (os : Os) : laidMet Tryz.prog Rows.httpGetsRow.laid ((laidWorld os).forCall (fun _ _ => 0) ⟨#[], #[.agg #[.string ByteArray.empty, .string ByteArray.empty, .slice none 0 0, .slice none 0 0, .string ByteArray.empty, .slice none 0 0], .string ByteArray.empty], []⟩).memory :=
  laidMet_of_run' 8 (by kernel_rfl) (by kernel_rfl)
theorem reads (os : Os) {H : Type} (enc : TypeId × Value → H) : ∃ places, DataW.whole enc Tryz.prog ((laidWorld os).forCall (fun _ _ => 0) ⟨#[], #[.agg #[.string ByteArray.empty, .string ByteArray.empty, .slice none 0 0, .slice none 0 0, .string ByteArray.empty, .slice none 0 0], .string ByteArray.empty], []⟩).memory Tryz.f4.params.toList Rows.httpGetsSpec.vars false (#[.agg #[.string ByteArray.empty, .string ByteArray.empty, .slice none 0 0, .slice none 0 0, .string ByteArray.empty, .slice none 0 0], .string ByteArray.empty] : Array Value).toList 8 = some ([.agg [.lit (.string []), .lit (.string []), .nil, .nil, .lit (.string []), .nil], .lit (.string [])], [], places) :=
  ⟨[], by kernel_rfl⟩
set_option maxRecDepth 100000 in
theorem lifted (os : Os) (started : os.Started) (H : Type) (enc : TypeId × Value → H) (F : Stop.Interp) :
    ReturnsInHanded {} Tryz.checked os 4 .any ((OpenSpec.ofChange Rows.httpGetsSpec).preRow enc Tryz.prog Tryz.f4 Rows.httpGetsRow.domain false Rows.httpGetsRow.laid) (((OpenSpec.ofChange Rows.httpGetsSpec).at F).post enc Tryz.prog Tryz.f4 false true false false) := by
  obtain ⟨places, hx⟩ := reads os enc
  refine returnsInHanded_of_row (C := Tryz.checked) (s := OpenSpec.ofChange Rows.httpGetsSpec) own started (by kernel_rfl) Tryz.func4
    (witness_row_at (enc := enc) (C := Tryz.checked) false (laidWorld os) #[.agg #[.string ByteArray.empty, .string ByteArray.empty, .slice none 0 0, .slice none 0 0, .string ByteArray.empty, .slice none 0 0], .string ByteArray.empty] rfl (by kernel_rfl) (by kernel_rfl) (by kernel_rfl)
      (OpenSpec.preRow_of_cond 8 hx (by kernel_rfl) (fun k hk => by cases hk) (by kernel_rfl) (laid_met os))) ?_
  intro W base args ds gs before hval0 hW hcnd _ hsz0 hL hsh _
  have hsz : (DataW.weightsEach Tryz.prog (Tryz.f4.params.toList ++ Rows.httpGetsSpec.plain.varTypes Tryz.prog) (ds ++ gs)).all (· ≤ reachBytes) = true := hsz0
  have hval : ∀ (j : Nat) t v, Tryz.f4.params[j]? = some t → args[j]? = some v → Value.okWide Tryz.prog W .any base t v := hval0
  have hW' := hW
  obtain ⟨p, q, hA0, hV, rfl, hfz, hnd⟩ := hW
  have hA : DataW.TrodAll enc Tryz.prog W 0 (fun _ => true) true Tryz.f4.params.toList args.toList ds p := hA0
  rw [Tryz.params4] at hA hval hsz
  obtain ⟨v0, vs0, d0, ds0, p0, q0, hargs, rfl, rfl, h0, r0⟩ := trodAll_cons hA
  obtain ⟨v1, vs1, d1, ds1, p1, q1, rfl, rfl, rfl, h1, r1⟩ := trodAll_cons r0
  obtain ⟨rfl, rfl, rfl⟩ := trodAll_nil r1
  obtain rfl : args = #[v0, v1] := by cases args; simp_all
  obtain ⟨rfl, rfl⟩ := trodVars_none hV
  have k0 := h0
  have lt0 : ∀ x ∈ p0, x.block < W.heap.size := by obtain ⟨m, hm⟩ := k0; exact DataW.trod_lt m _ _ _ hm
  obtain ⟨l0, K0, g0⟩ := Opens.argument (show Opens Tryz.prog 34 (Kd.iso Go.Proofs.YtljlkpfiebcoeaaGreatDoor.H.dR fun r => r) _ from Opens.struct_ (by kernel_rfl) Tryz.underlying34 (Opens.cons rfl (Opens.string (by kernel_rfl) Tryz.underlying9) (Opens.cons rfl (Opens.string (by kernel_rfl) Tryz.underlying9) (Opens.cons rfl (Opens.slice (by kernel_rfl) Tryz.underlying31 (B := 32) (by kernel_rfl) (show Opens Tryz.prog 84 k84 _ from Opens.struct_ (by kernel_rfl) Tryz.underlying84 (Opens.cons rfl (Opens.string (by kernel_rfl) Tryz.underlying9) (Opens.one rfl (Opens.string (by kernel_rfl) Tryz.underlying9))) (fun x : S84 => (x.f0, x.f1)) (fun p => ⟨p.1, p.2⟩) (fun _ => rfl))) (Opens.cons rfl (Opens.slice (by kernel_rfl) Tryz.underlying32 (B := 32) (by kernel_rfl) (show Opens Tryz.prog 38 k38 _ from Opens.struct_ (by kernel_rfl) Tryz.underlying38 (Opens.cons rfl (Opens.string (by kernel_rfl) Tryz.underlying9) (Opens.one rfl (Opens.string (by kernel_rfl) Tryz.underlying9))) (fun x : S38 => (x.f0, x.f1)) (fun p => ⟨p.1, p.2⟩) (fun _ => rfl))) (Opens.cons rfl (Opens.string (by kernel_rfl) Tryz.underlying9) (Opens.one rfl (Opens.slice (by kernel_rfl) Tryz.underlying31 (B := 32) (by kernel_rfl) (show Opens Tryz.prog 84 k84 _ from Opens.struct_ (by kernel_rfl) Tryz.underlying84 (Opens.cons rfl (Opens.string (by kernel_rfl) Tryz.underlying9) (Opens.one rfl (Opens.string (by kernel_rfl) Tryz.underlying9))) (fun x : S84 => (x.f0, x.f1)) (fun p => ⟨p.1, p.2⟩) (fun _ => rfl))))))))) (fun r => r) (fun r => r) (fun _ => rfl)) hsz (j := 0) (t := 34) rfl rfl h0
  obtain ⟨cs0, rfl, _⟩ := okWide_struct Tryz.underlying34 (hval 0 34 v0 rfl rfl)
  obtain ⟨Aq, cq, Af, cf, Am, cm, e0, hl0⟩ := Go.Proofs.YtljlkpfiebcoeaaGreatDoor.H.dR_open K0
  obtain rfl : cs0 = #[.string l0.1, .string l0.2.1, .slice Aq l0.2.2.1.length cq, .slice Af l0.2.2.2.1.length cf, .string l0.2.2.2.2.1, .slice Am l0.2.2.2.2.2.length cm] := by cases cs0; simpa [Value.cells] using e0
  have k1 := h1
  have lt1 : ∀ x ∈ p1, x.block < W.heap.size := by obtain ⟨m, hm⟩ := k1; exact DataW.trod_lt m _ _ _ hm
  obtain ⟨l1, K1, g1⟩ := Opens.argument (Opens.string (by kernel_rfl) Tryz.underlying9) hsz (j := 1) (t := 9) rfl rfl h1
  obtain ⟨z1, rfl⟩ := okWide_string Tryz.underlying9 (hval 1 9 v1 rfl rfl)
  obtain rfl : l1 = z1 := by have z := K1; change [Value.string z1] = [Value.string l1] at z; simp at z; exact z.symm
  clear hA0 hval0 hsz0 hsz
  have tabs : Tabs W := ⟨utf8Tabs_of_readsT (U8Types.of260 Tryz.lays260) ⟨by kernel_rfl, by kernel_rfl, by kernel_rfl, by kernel_rfl, by kernel_rfl, by kernel_rfl, by kernel_rfl⟩ (show Lib.VarReads Tryz.prog W "unicode/utf8.first" Lib.firstData from (show Rows.laid_unicode_utf8_first = Lib.firstData from by kernel_rfl) ▸ Lib.laidMet.reads hL (.tail _ (.head _))) (show Lib.VarReads Tryz.prog W "unicode/utf8.acceptRanges" Lib.acceptData from (show Rows.laid_unicode_utf8_acceptRanges = Lib.acceptData from by kernel_rfl) ▸ Lib.laidMet.reads hL (.head _)), cell_of_shapedOpen_int (zero := #[.int .i64 0]) (t := 3) hsh (of_decide_eq_true (by kernel_rfl)) (by kernel_rfl) rfl (by kernel_rfl) (by kernel_rfl) Tryz.underlying3⟩
  refine (Go.Proofs.YtljlkpfiebcoeaaGreatDoor.H.law_Gets.calls tabs hl0 g0.1 g0.2.1 g0.2.2.2.2.1 (by have := g0.2.2.1.1; omega) (by have := g0.2.2.2.2.2.1; omega) (by have := g0.2.2.2.1.1; omega)).mono fun e W' ⟨he, bel0⟩ => ?_
  subst he
  have bel : Below W.heap.size W W' := bel0
  exact ⟨_, rfl, _, _, _, [], _, [], hW', trodAll_mk1 (shut_bool Tryz.underlying4 _), (trodAll_cons_mk (Below.trod laidOut (by kernel_rfl) (of_decide_eq_true (by kernel_rfl)) k0 bel lt0) (trodAll_cons_mk (Below.trod laidOut (by kernel_rfl) (of_decide_eq_true (by kernel_rfl)) k1 bel lt1) trodAll_mk0)), rfl, bel.frame _, fun h => by cases h⟩
theorem said : Rows.HttpGetsSaid :=
  OpenClaim.holds_of_cond 4 Tryz.f4 rfl rfl rfl rfl rfl rfl rfl ⟨rfl, rfl, rfl, rfl, rfl⟩ rfl rfl rfl rfl rfl (by kernel_rfl) Tryz.func4 (by kernel_rfl)
    (of_decide_eq_true (by kernel_rfl)) (by unfold Func.isWrapper; first | (rw [if_pos (by decide +kernel)]; kernel_rfl) | (rw [if_neg (by decide +kernel)]; exact ⟨rfl, rfl⟩))
    (fun os started H enc _ F => by rw [OpenClaim.pre_eq_preRow]; exact lifted os started H enc F)
theorem plain (f : FuncId) (fn : Func) (hf : Tryz.pinned.checked.prog.funcNamed "cringle/cringlelaw29.HttpGets" = some f) (hfn : Tryz.pinned.checked.prog.funcs[f]? = some fn) :
    false = Tryz.pinned.checked.prog.looks [] ∧ ∀ (j : Nat) t, fn.params[j]? = some t → Tryz.pinned.checked.prog.wantsStandIn t = false := by
  obtain rfl : f = 4 := Option.some.inj ((show Tryz.prog.funcNamed "cringle/cringlelaw29.HttpGets" = some 4 by kernel_rfl).symm.trans hf) |>.symm
  obtain rfl : fn = Tryz.f4 := (Option.some.inj (Tryz.func4.symm.trans hfn)).symm
  refine ⟨by kernel_rfl, fun j t ht => ?_⟩
  rw [Tryz.params4] at ht
  have hm : t ∈ [9, 34] := (by decide : ∀ x ∈ ([34, 9] : List Nat), x ∈ ([9, 34] : List Nat)) t (by simpa using Array.mem_of_getElem? ht)
  have hall : ([9, 34].all fun u => !Tryz.prog.wantsStandIn u) = true := by kernel_rfl
  exact (show Tryz.prog.wantsStandIn t = false by simpa using List.all_eq_true.1 hall t hm)
theorem card : Rows.HttpGetsCardSaid :=
  Claim7.holds_tied_plain_at .later [] _ _ _ _ said (fun _ h => by cases h) (by kernel_rfl) (fun _ h => by cases h) httpGets_row_tie rfl ⟨rfl, rfl⟩ (by kernel_rfl) rfl plain (by kernel_rfl)
#print axioms card
end Go.Proofs.YtljlkpfiebcoeaaGreatDoor.httpGets
namespace Go.Proofs.YtljlkpfiebcoeaaGreatDoor
/-- The card, under a short name, for the claim. -/
theorem httpGets_holds : Rows.HttpGetsCardSaid := httpGets.card
end Go.Proofs.YtljlkpfiebcoeaaGreatDoor
