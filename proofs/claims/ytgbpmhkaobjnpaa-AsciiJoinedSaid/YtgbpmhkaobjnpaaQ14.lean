-- printed by a program of the session's own; Lean checks it
import Derived.Test.YtgbpmhkaobjnpaaQ0
import Derived.Test.YtgbpmhkaobjnpaaQ4
import Derived.Test.YtgbpmhkaobjnpaaQ10
import Derived.Test.YtgbpmhkaobjnpaaQ11
import Derived.Test.YtgbpmhkaobjnpaaQ13
namespace Go.Proofs.Ytgbpmhkaobjnpaa.Q
open Go.RowKit Go.Proofs.YtgbpmhkaobjnpaaW.PrintWords Go.Proofs.YtgbpmhkaobjnpaaW.PrintLast Go.Proofs.YtgbpmhkaobjnpaaW.PrintMore
attribute [local go_sem] max2_int min2_int max_two min_two max_three min_three max_four min_four   -- for this text's walks alone
set_option linter.unusedVariables false
set_option linter.unusedSimpArgs false

/-! ### cringleref01_Text: function 17 -/
def cringleref01_Text.f (k : Nat) (a0 : Int) : Option (ByteArray) := (cringleref01_Pad.f k a0 1).bind fun t153 => (some t153)
theorem cringleref01_Text.mono : ∀ a0 k, LeO (cringleref01_Text.f k a0) (cringleref01_Text.f (k + 1) a0) := by
  intro a0 k
  unfold cringleref01_Text.f
  repeat' first
      | (with_reducible exact cringleref01_Pad.mono _ _ _)
      | (with_reducible exact LeO.refl _)
      | (with_reducible exact LeO.none _)
      | (with_reducible refine LeO.ite ?_ ?_)
      | (with_reducible refine LeO.bind ?_ (fun _ => ?_))
      | exact cringleref01_Pad.mono _ _ _
      | exact LeO.none _
      | refine LeO.ite ?_ ?_
      | refine LeO.bind ?_ (fun _ => ?_)
set_option maxHeartbeats 8000000 in
set_option maxRecDepth 100000 in
theorem cringleref01_Text.calls (k : Nat) (a0 : Int) (r : ByteArray) (w : World) (h : cringleref01_Text.f k a0 = some r) :
    Calls Try.prog 17 #[.int .i64 a0] w fun e w' => e = .returned (.string r) ∧ Below w.heap.size w w' := by
  have HB := Aside0.mk (Below.refl w.heap.size w)
  have H : ((cringleref01_Pad.f k a0 1).bind fun t153 => (some t153)) = some r := h
  clear h
  replace H := Option.bind_eq_some_iff.mp H
  obtain ⟨t153, A20, H⟩ := H
  replace H : (some t153) = some r := H
  have A2 := Aside0.mk A20
  clear A20
  obtain rfl := Option.some.inj H
  go_enter Try.func17, Try.ntmps17
  go_wp2_with (first | ((with_reducible refine gate_callee (f := 19) rfl ?_); refine goesL_ (some 4) rfl rfl Try.func19 (by kernel_rfl) rfl #[.int .i64 a0, .int .i64 1] rfl (by (try simp only [List.map_toArray, List.map_cons, List.map_nil]); first | done | rfl | (simp only [List.length_drop, List.length_take]; rfl)) ?_; (with_reducible refine (cringleref01_Pad.calls k a0 1 t153 _ A2.out).mono ?_); rintro e w3 ⟨rfl, hb⟩; refine ⟨_, rfl, ?_⟩; have n0_ := Aside0.mk (below_step (by repeat (first | (with_reducible first | exact HB.out | apply below_alloc | apply pw_below_drewN | apply below_drew1) | exact HB.out)) hb); clear HB; have HB := n0_; clear n0_; (try clear hb); (try clear hb2); (try clear hk); (try clear hi)))
  go_ret
  exact ⟨by first | rfl | (simp [errW_none, errW_some] <;> rfl) | (simp [*, errW_none, errW_some] <;> rfl), by repeat (first | (with_reducible first | exact HB.out | apply below_alloc | apply pw_below_drewN | apply below_drew1) | exact HB.out)⟩

/-! ### cringlelaw01_AsciiDigits: function 4 -/
def cringlelaw01_AsciiDigits.f (k : Nat) (a0 : Int) (a1 : Int) : Option (Bool) := (ascii_Text.f k a0).bind fun t154 => ((cringleref01_Text.f k a0).bind fun t155 => (if t154.toList = t155.toList then ((ascii_Pad.f k a0 a1).bind fun t156 => ((cringleref01_Pad.f k a0 a1).bind fun t157 => (if t156.toList = t157.toList then ((cringlelaw01_alive.f k).bind fun t158 => (some t158)) else (some false)))) else (some false)))
theorem cringlelaw01_AsciiDigits.mono : ∀ a0 a1 k, LeO (cringlelaw01_AsciiDigits.f k a0 a1) (cringlelaw01_AsciiDigits.f (k + 1) a0 a1) := by
  intro a0 a1 k
  unfold cringlelaw01_AsciiDigits.f
  repeat' first
      | (with_reducible exact ascii_Pad.mono _ _ _)
      | (with_reducible exact ascii_Text.mono _ _)
      | (with_reducible exact cringlelaw01_alive.mono _)
      | (with_reducible exact cringleref01_Pad.mono _ _ _)
      | (with_reducible exact cringleref01_Text.mono _ _)
      | (with_reducible exact LeO.refl _)
      | (with_reducible exact LeO.none _)
      | (with_reducible refine LeO.ite ?_ ?_)
      | (with_reducible refine LeO.bind ?_ (fun _ => ?_))
      | exact ascii_Pad.mono _ _ _
      | exact ascii_Text.mono _ _
      | exact cringlelaw01_alive.mono _
      | exact cringleref01_Pad.mono _ _ _
      | exact cringleref01_Text.mono _ _
      | exact LeO.none _
      | refine LeO.ite ?_ ?_
      | refine LeO.bind ?_ (fun _ => ?_)
set_option maxHeartbeats 8000000 in
set_option maxRecDepth 100000 in
theorem cringlelaw01_AsciiDigits.calls (k : Nat) (a0 : Int) (a1 : Int) (r : Bool) (w : World) (h : cringlelaw01_AsciiDigits.f k a0 a1 = some r) (htrue : Aside0 (r = true)) :
    Calls Try.prog 4 #[.int .i64 a0, .int .i64 a1] w fun e w' => e = .returned (.bool r) ∧ Below w.heap.size w w' := by
  have HB := Aside0.mk (Below.refl w.heap.size w)
  have H : ((ascii_Text.f k a0).bind fun t154 => ((cringleref01_Text.f k a0).bind fun t155 => (if t154.toList = t155.toList then ((ascii_Pad.f k a0 a1).bind fun t156 => ((cringleref01_Pad.f k a0 a1).bind fun t157 => (if t156.toList = t157.toList then ((cringlelaw01_alive.f k).bind fun t158 => (some t158)) else (some false)))) else (some false)))) = some r := h
  clear h
  replace H := Option.bind_eq_some_iff.mp H
  obtain ⟨t154, A30, H⟩ := H
  replace H : ((cringleref01_Text.f k a0).bind fun t155 => (if t154.toList = t155.toList then ((ascii_Pad.f k a0 a1).bind fun t156 => ((cringleref01_Pad.f k a0 a1).bind fun t157 => (if t156.toList = t157.toList then ((cringlelaw01_alive.f k).bind fun t158 => (some t158)) else (some false)))) else (some false))) = some r := H
  have A3 := Aside0.mk A30
  clear A30
  replace H := Option.bind_eq_some_iff.mp H
  obtain ⟨t155, A40, H⟩ := H
  replace H : (if t154.toList = t155.toList then ((ascii_Pad.f k a0 a1).bind fun t156 => ((cringleref01_Pad.f k a0 a1).bind fun t157 => (if t156.toList = t157.toList then ((cringlelaw01_alive.f k).bind fun t158 => (some t158)) else (some false)))) else (some false)) = some r := H
  have A4 := Aside0.mk A40
  clear A40
  by_cases c5 : t154.toList = t155.toList
  · rw [if_pos c5] at H
    have c5b0 : (t154.toList == t155.toList) = true := beq_iff_eq.mpr c5
    have c5b1 : (t154.toList != t155.toList) = false := bne_eq_false_iff_eq.mpr c5
    clear c5
    replace H := Option.bind_eq_some_iff.mp H
    obtain ⟨t156, A60, H⟩ := H
    replace H : ((cringleref01_Pad.f k a0 a1).bind fun t157 => (if t156.toList = t157.toList then ((cringlelaw01_alive.f k).bind fun t158 => (some t158)) else (some false))) = some r := H
    have A6 := Aside0.mk A60
    clear A60
    replace H := Option.bind_eq_some_iff.mp H
    obtain ⟨t157, A70, H⟩ := H
    replace H : (if t156.toList = t157.toList then ((cringlelaw01_alive.f k).bind fun t158 => (some t158)) else (some false)) = some r := H
    have A7 := Aside0.mk A70
    clear A70
    by_cases c8 : t156.toList = t157.toList
    · rw [if_pos c8] at H
      have c8b0 : (t156.toList == t157.toList) = true := beq_iff_eq.mpr c8
      have c8b1 : (t156.toList != t157.toList) = false := bne_eq_false_iff_eq.mpr c8
      clear c8
      replace H := Option.bind_eq_some_iff.mp H
      obtain ⟨t158, A90, H⟩ := H
      replace H : (some t158) = some r := H
      have A9 := Aside0.mk A90
      clear A90
      obtain rfl := Option.some.inj H
      go_enter Try.func4, Try.ntmps4
      go_wp2_with (first | ((with_reducible refine gate_callee (f := 16) rfl ?_); refine goesL_ (some 6) rfl rfl Try.func16 (by kernel_rfl) rfl #[.int .i64 a0] rfl (by (try simp only [List.map_toArray, List.map_cons, List.map_nil]); first | done | rfl | (simp only [List.length_drop, List.length_take]; rfl)) ?_; (with_reducible refine (ascii_Text.calls k a0 t154 _ A3.out).mono ?_); rintro e w10 ⟨rfl, hb⟩; refine ⟨_, rfl, ?_⟩; have n0_ := Aside0.mk (below_step (by repeat (first | (with_reducible first | exact HB.out | apply below_alloc | apply pw_below_drewN | apply below_drew1) | exact HB.out)) hb); clear HB; have HB := n0_; clear n0_; (try clear hb); (try clear hb2); (try clear hk); (try clear hi)) | ((with_reducible refine gate_callee (f := 17) rfl ?_); refine goesL_ (some 8) rfl rfl Try.func17 (by kernel_rfl) rfl #[.int .i64 a0] rfl (by (try simp only [List.map_toArray, List.map_cons, List.map_nil]); first | done | rfl | (simp only [List.length_drop, List.length_take]; rfl)) ?_; (with_reducible refine (cringleref01_Text.calls k a0 t155 _ A4.out).mono ?_); rintro e w11 ⟨rfl, hb⟩; refine ⟨_, rfl, ?_⟩; have n0_ := Aside0.mk (below_step (by repeat (first | (with_reducible first | exact HB.out | apply below_alloc | apply pw_below_drewN | apply below_drew1) | exact HB.out)) hb); clear HB; have HB := n0_; clear n0_; (try clear hb); (try clear hb2); (try clear hk); (try clear hi)) | (go_at_call 18; (with_reducible refine (ascii_Pad.calls k a0 a1 t156 _ A6.out).mono ?_); rintro e w12 ⟨rfl, hb⟩; have n0_ := Aside0.mk (below_step (by repeat (first | (with_reducible first | exact HB.out | apply below_alloc | apply pw_below_drewN | apply below_drew1) | exact HB.out)) hb); clear HB; have HB := n0_; clear n0_; (try clear hb); (try clear hb2); (try clear hk); (try clear hi)) | (go_at_call 19; (with_reducible refine (cringleref01_Pad.calls k a0 a1 t157 _ A7.out).mono ?_); rintro e w13 ⟨rfl, hb⟩; have n0_ := Aside0.mk (below_step (by repeat (first | (with_reducible first | exact HB.out | apply below_alloc | apply pw_below_drewN | apply below_drew1) | exact HB.out)) hb); clear HB; have HB := n0_; clear n0_; (try clear hb); (try clear hb2); (try clear hk); (try clear hi)) | (go_at_call 15; (with_reducible refine (cringlelaw01_alive.calls k  t158 _ A9.out).mono ?_); rintro e w14 ⟨rfl, hb⟩; have n0_ := Aside0.mk (below_step (by repeat (first | (with_reducible first | exact HB.out | apply below_alloc | apply pw_below_drewN | apply below_drew1) | exact HB.out)) hb); clear HB; have HB := n0_; clear n0_; (try clear hb); (try clear hb2); (try clear hk); (try clear hi)))
      go_ret
      exact ⟨by first | rfl | (simp [errW_none, errW_some] <;> rfl) | (simp [*, errW_none, errW_some] <;> rfl), by repeat (first | (with_reducible first | exact HB.out | apply below_alloc | apply pw_below_drewN | apply below_drew1) | exact HB.out)⟩
    · rw [if_neg c8] at H
      have c8b0 : (t156.toList == t157.toList) = false := beq_eq_false_iff_ne.mpr c8
      have c8b1 : (t156.toList != t157.toList) = true := bne_iff_ne.mpr c8
      exact absurd (Option.some.inj H) (by rw [htrue.out]; decide)
  · rw [if_neg c5] at H
    have c5b0 : (t154.toList == t155.toList) = false := beq_eq_false_iff_ne.mpr c5
    have c5b1 : (t154.toList != t155.toList) = true := bne_iff_ne.mpr c5
    exact absurd (Option.some.inj H) (by rw [htrue.out]; decide)

/-! ### cringlelaw01_long: function 20 -/
def cringlelaw01_long.f (a0 : ByteArray) : Option (Bool) := some (decide ((a0.size : Int) > 3000))
set_option maxHeartbeats 8000000 in
set_option maxRecDepth 100000 in
theorem cringlelaw01_long.calls (a0 : ByteArray) (r : Bool) (w : World) (h : cringlelaw01_long.f a0 = some r) :
    Calls Try.prog 20 #[.string a0] w fun e w' => e = .returned (.bool r) ∧ Drawn0 w w' := by
  have H : (some (decide ((a0.size : Int) > 3000))) = some r := h
  clear h
  obtain rfl := Option.some.inj H
  go_enter Try.func20, Try.ntmps20
  go_wp2
  go_ret
  exact ⟨by first | rfl | (simp; done) | (simp [*]; done), by repeat (first | exact Drawn0.refl _ | apply Drawn0.step)⟩

end Go.Proofs.Ytgbpmhkaobjnpaa.Q
