-- printed by a program of the session's own; Lean checks it
import Derived.Test.YtgbpmhkaobjnpaaDoorQ0
import Derived.Test.YtgbpmhkaobjnpaaDoorQ13
import Derived.Test.YtgbpmhkaobjnpaaDoorQ15
namespace Go.Proofs.YtgbpmhkaobjnpaaDoor.Q
open Go.RowKit Go.Proofs.YtgbpmhkaobjnpaaDoorW.PrintWords Go.Proofs.YtgbpmhkaobjnpaaDoorW.PrintLast Go.Proofs.YtgbpmhkaobjnpaaDoorW.PrintMore
attribute [local go_sem] max2_int min2_int max_two min_two max_three min_three max_four min_four   -- for this text's walks alone
set_option linter.unusedVariables false
set_option linter.unusedSimpArgs false

/-! ### cringleref01_Squeeze: function 16 -/
def cringleref01_Squeeze.f (k : Nat) (a0 : ByteArray) : Option (ByteArray) := (cringleref01_Words.f k a0).bind fun t163 => ((cringleref01_Join.f k (⟨#[32]⟩ : ByteArray) t163).bind fun t166 => (some t166))
theorem cringleref01_Squeeze.mono : ∀ a0 k, LeO (cringleref01_Squeeze.f k a0) (cringleref01_Squeeze.f (k + 1) a0) := by
  intro a0 k
  unfold cringleref01_Squeeze.f
  repeat' first
      | (with_reducible exact cringleref01_Join.mono _ _ _)
      | (with_reducible exact cringleref01_Words.mono _ _)
      | (with_reducible exact LeO.refl _)
      | (with_reducible exact LeO.none _)
      | (with_reducible refine LeO.ite ?_ ?_)
      | (with_reducible refine LeO.bind ?_ (fun _ => ?_))
      | exact cringleref01_Join.mono _ _ _
      | exact cringleref01_Words.mono _ _
      | exact LeO.none _
      | refine LeO.ite ?_ ?_
      | refine LeO.bind ?_ (fun _ => ?_)
set_option maxHeartbeats 8000000 in
set_option maxRecDepth 100000 in
theorem cringleref01_Squeeze.calls (k : Nat) (a0 : ByteArray) (r : ByteArray) (w : World) (h : cringleref01_Squeeze.f k a0 = some r) :
    Calls Tryd.prog 16 #[.string a0] w fun e w' => e = .returned (.string r) ∧ Below w.heap.size w w' := by
  have HB := Aside0.mk (Below.refl w.heap.size w)
  have H : ((cringleref01_Words.f k a0).bind fun t163 => ((cringleref01_Join.f k (⟨#[32]⟩ : ByteArray) t163).bind fun t166 => (some t166))) = some r := h
  clear h
  replace H := Option.bind_eq_some_iff.mp H
  obtain ⟨t163, A20, H⟩ := H
  replace H : ((cringleref01_Join.f k (⟨#[32]⟩ : ByteArray) t163).bind fun t166 => (some t166)) = some r := H
  have A2 := Aside0.mk A20
  clear A20
  replace H := Option.bind_eq_some_iff.mp H
  obtain ⟨t166, A30, H⟩ := H
  replace H : (some t166) = some r := H
  have A3 := Aside0.mk A30
  clear A30
  obtain rfl := Option.some.inj H
  go_enter Tryd.func16, Tryd.ntmps16
  go_wp2_with (first | ((with_reducible refine gate_callee (f := 14) rfl ?_); refine goesL_ (some 4) rfl rfl Tryd.func14 (by kernel_rfl) rfl #[.string a0] rfl (by (try simp only [List.map_toArray, List.map_cons, List.map_nil]); first | done | rfl | (simp only [List.length_drop, List.length_take]; rfl)) ?_; (with_reducible refine (cringleref01_Words.calls k a0 t163 _ A2.out).mono ?_); rintro e w4 ⟨v164, rfl, ho0, hb⟩; refine ⟨_, rfl, ?_⟩; have n0_ := Aside0.mk (Kd.R_lower ho0 (below_size (by repeat (first | (with_reducible first | exact HB.out | apply below_alloc | apply pw_below_drewN | apply below_drew1) | exact HB.out)))); have n1_ := Aside0.mk (below_step (by repeat (first | (with_reducible first | exact HB.out | apply below_alloc | apply pw_below_drewN | apply below_drew1) | exact HB.out)) hb); clear HB; have HO165 := n0_; have HB := n1_; clear n0_ n1_; (try clear hb); (try clear hb2); (try clear hk); (try clear hi); (try clear ho0); obtain ⟨Ao5, co5, eo5⟩ := Kd.R_slice HO165.out; subst eo5) | ((with_reducible refine gate_callee (f := 24) rfl ?_); refine goesL_ (some 5) rfl rfl Tryd.func24 (by kernel_rfl) rfl #[.string (⟨#[32]⟩ : ByteArray), .slice Ao5 t163.length co5] rfl (by (try simp only [List.map_toArray, List.map_cons, List.map_nil]); first | done | rfl | (simp only [List.length_drop, List.length_take]; rfl)) ?_; (with_reducible refine (cringleref01_Join.calls k (⟨#[32]⟩ : ByteArray) _ _ t163 t166 _ ?side1 ?side2 A3.out).mono ?_); (case side1 => repeat (first | exact (Kd.R_reads' HO165.out).2.2 | (with_reducible refine Kd.C_alloc ?_ _) | (with_reducible refine Kd.C_drewN ?_ _) | (with_reducible refine Kd.C_drew ?_))); (case side2 => exact (Kd.R_reads' HO165.out).2.1); rintro e w' ⟨rfl, ⟨nd, rfl⟩⟩; refine ⟨_, rfl, ?_⟩))
  go_ret
  exact ⟨by first | rfl | (simp [errW_none, errW_some] <;> rfl) | (simp [*, errW_none, errW_some] <;> rfl), by repeat (first | (with_reducible first | exact HB.out | apply below_alloc | apply pw_below_drewN | apply below_drew1) | exact HB.out)⟩

end Go.Proofs.YtgbpmhkaobjnpaaDoor.Q
